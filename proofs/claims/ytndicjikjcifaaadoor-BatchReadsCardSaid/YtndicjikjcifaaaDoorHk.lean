/- A small logic of assertions with footprints over opaque frames and worlds: what is known of slots, what is known of blocks. Plain lemmas, no program in sight. -/
import Derived.Test.YtndicjikjcifaaaDoorBase
import Derived.Test.YtndicjikjcifaaaDoorWTab
import Derived.Test.YtndicjikjcifaaaDoorWApart
import Derived.Great.BuildSlice
namespace Go.Proofs.YtndicjikjcifaaaDoor
open Go.RowKit Go.Proofs.YtndicjikjcifaaaDoorW.PrintWords Go.Proofs.YtndicjikjcifaaaDoorW.PrintLast
set_option linter.unusedVariables false
set_option linter.unusedSimpArgs false
set_option linter.unusedSectionVars false

/-- Something that holds of a world: the blocks that it owns, those that it only reads. -/
structure Asn where
  wf : Nat → Prop
  rf : Nat → Prop
  holds : World → Prop
  loc : ∀ W W', holds W → (∀ k, wf k ∨ rf k → W'.heap[k]? = W.heap[k]?) → holds W'
/-- A block of cells, known whole. -/
def Asn.blk (g : Nat) (cs : List Value) (t : TypeId) : Asn :=
  ⟨fun k => k = g, fun _ => False, fun W => W.heap[g]? = some (.cells cs.toArray t (0, 0)), fun _ _ h e => (e g (.inl rfl)).trans h⟩
/-- What was so in an elder world, and is only read: all blocks of that world. -/
def Asn.old (w : World) (p : World → Prop) (hp : ∀ W W', p W → (∀ k, k < w.heap.size → W'.heap[k]? = W.heap[k]?) → p W') : Asn :=
  ⟨fun _ => False, fun k => k < w.heap.size, p, fun W W' h e => hp W W' h (fun k hk => e k (.inr hk))⟩
/-- What is known of slots, in a frame. -/
structure Fr (n : Nat) (L : List (Nat × Value)) (a : Act) : Prop where
  sz : a.tmps.size = n
  df : a.defers = []
  ev : ∀ i v, L.lookup i = some v → a.tmps[i]? = some v
/-- What is known of a world: what has become of the elder one, and what holds. S: the elder blocks that may be written; R: those that may be read. -/
structure St (w : World) (S R : Nat → Prop) (M : List Asn) (W : World) : Prop where
  low : Only S w W
  has : ∀ A ∈ M, A.holds W ∧ (∀ k, A.wf k ∨ A.rf k → k < W.heap.size) ∧ (∀ k, A.wf k → S k ∨ w.heap.size ≤ k) ∧ (∀ k, A.rf k → S k ∨ R k ∨ w.heap.size ≤ k)
  dis : M.Pairwise (fun A B => ∀ k, (A.wf k → ¬ (B.wf k ∨ B.rf k)) ∧ (B.wf k → ¬ (A.wf k ∨ A.rf k)))

section
variable {w w0 W W' : World} {S S0 R R0 : Nat → Prop} {n : Nat} {L L' : List (Nat × Value)} {M M' : List Asn} {a : Act} {A B : Asn}
theorem Fr.slot (H : Fr n L a) {i : Nat} {v : Value} (h : L.lookup i = some v) : a.eval (.tmp i) = v := by
  have := H.ev i v h
  simp [Act.eval, this]
theorem Fr.put (H : Fr n L a) (d : Nat) (hd : d < n) (v : Value) : Fr n ((d, v) :: L) (a.put (some d) v) := by
  refine ⟨by simp [Act.put, H.sz], H.df, fun i u h => ?_⟩
  simp only [Act.put, Array.getElem?_setIfInBounds, H.sz]
  by_cases e : d = i
  · subst e
    rw [if_pos rfl, if_pos hd]
    simpa [List.lookup] using h
  · rw [if_neg e]
    refine H.ev i u ?_
    have : (i == d) = false := beq_false_of_ne (fun q => e q.symm)
    simpa [List.lookup, this] using h
/-- Fewer slots are known. -/
def Sub : List (Nat × Value) → List (Nat × Value) → Prop
  | [], _ => True
  | (i, v) :: t, L => L.lookup i = some v ∧ Sub t L
theorem Sub.look : ∀ {L' : List (Nat × Value)}, Sub L' L → ∀ i v, L'.lookup i = some v → L.lookup i = some v
  | [], _, i, v, h => by simp at h
  | (j, u) :: t, hs, i, v, h => by
    by_cases e : i = j
    · subst e
      have : u = v := by simpa [List.lookup] using h
      exact this ▸ hs.1
    · have hb : (i == j) = false := beq_false_of_ne e
      exact Sub.look hs.2 i v (by simpa [List.lookup, hb] using h)
theorem Fr.less (H : Fr n L a) (L' : List (Nat × Value)) (h : Sub L' L) : Fr n L' a := ⟨H.sz, H.df, fun i v e => H.ev i v (h.look i v e)⟩
theorem Fr.conv {i : Nat} {v : Value} (H : Fr n ((i, v) :: L) a) {v' : Value} (e : v = v') : Fr n ((i, v') :: L) a := e ▸ H

theorem St.get (H : St w S R M W) (k : Nat) (h : M[k]? = some A) : A.holds W := (H.has A (List.mem_of_getElem? h)).1
theorem St.blk (H : St w S R M W) (k : Nat) {g : Nat} {cs : List Value} {t : TypeId} (h : M[k]? = some (Asn.blk g cs t)) : W.heap[g]? = some (.cells cs.toArray t (0, 0)) := H.get k h
theorem St.first (w : World) (S R : Nat → Prop) : St w S R [] w := ⟨Only.refl _ _, (fun A h => by cases h), List.Pairwise.nil⟩
theorem St.drew (H : St w S R M W) : St w S R M W.drew := ⟨H.low.drew, fun A h => ⟨A.loc W W.drew (H.has A h).1 (fun _ _ => rfl), (H.has A h).2⟩, H.dis⟩
theorem St.drewN (H : St w S R M W) (k : Nat) : St w S R M (W.drewN k) := ⟨H.low.drewN k, fun A h => ⟨A.loc W (W.drewN k) (H.has A h).1 (fun _ _ => rfl), (H.has A h).2⟩, H.dis⟩
theorem St.below (H : St w S R M W) (hb : Below W.heap.size W W') : St w S R M W' :=
  ⟨H.low.trans (Only.of_below (S := S) hb) (fun _ _ h => h), fun A h => ⟨A.loc W W' (H.has A h).1 (fun k hk => hb.block k ((H.has A h).2.1 k hk)), fun k hk => Nat.lt_of_lt_of_le ((H.has A h).2.1 k hk) hb.size, (H.has A h).2.2⟩, H.dis⟩
theorem St.sub (H : St w S R M W) (h : M'.Sublist M) : St w S R M' W := ⟨H.low, fun A hA => H.has A (h.subset hA), H.dis.sublist h⟩
theorem St.front (H : St w S R M W) (m : Nat) : St w S R (M.take m) W := H.sub (List.take_sublist _ _)
/-- One assertion more. -/
theorem St.add (H : St w S R M W) (A : Asn) (hh : A.holds W) (hb : ∀ k, A.wf k ∨ A.rf k → k < W.heap.size) (hw : ∀ k, A.wf k → (S k ∨ w.heap.size ≤ k) ∧ ∀ B ∈ M, ¬ (B.wf k ∨ B.rf k)) (hr : ∀ k, A.rf k → (S k ∨ R k ∨ w.heap.size ≤ k) ∧ ∀ B ∈ M, ¬ B.wf k) : St w S R (M ++ [A]) W := by
  refine ⟨H.low, fun B hB => ?_, ?_⟩
  · rcases List.mem_append.1 hB with hB | hB
    · exact H.has B hB
    · obtain rfl := List.mem_singleton.1 hB
      exact ⟨hh, hb, fun k hk => (hw k hk).1, fun k hk => (hr k hk).1⟩
  · rw [List.pairwise_append]
    refine ⟨H.dis, by simp, fun B hB C hC => ?_⟩
    obtain rfl := List.mem_singleton.1 hC
    refine fun k => ⟨fun hk hc => ?_, fun hk hc => (hw k hk).2 B hB hc⟩
    rcases hc with hc | hc
    · exact (hw k hc).2 B hB (.inl hk)
    · exact (hr k hc).2 B hB hk
theorem St.one (A : Asn) (hh : A.holds w) (hb : ∀ k, A.wf k ∨ A.rf k → k < w.heap.size) (hw : ∀ k, A.wf k → S k) (hr : ∀ k, A.rf k → S k ∨ R k) : St w S R [A] w :=
  (St.first w S R).add A hh hb (fun k hk => ⟨.inl (hw k hk), fun _ h => by cases h⟩) (fun k hk => ⟨(hr k hk).imp id .inl, fun _ h => by cases h⟩)
theorem St.ends (H : St w (fun _ => False) R M W) : Below w.heap.size w W := H.low.below (Nat.le_refl _) (fun _ h => h.elim)
/-- What a step that makes memory brings. -/
theorem St.fresh (H : St w S R M W) (hb : Below W.heap.size W W') (A : Asn) (hh : A.holds W') (hf : ∀ k, A.wf k ∨ A.rf k → W.heap.size ≤ k ∧ k < W'.heap.size) : St w S R (M ++ [A]) W' := by
  have H' := H.below hb
  refine H'.add A hh (fun k hk => (hf k hk).2) (fun k hk => ⟨.inr (Nat.le_trans H.low.size (hf k (.inl hk)).1), fun B hB hc => ?_⟩) (fun k hk => ⟨.inr (.inr (Nat.le_trans H.low.size (hf k (.inr hk)).1)), fun B hB hc => ?_⟩)
  · have := (H.has B hB).2.1 k hc
    have := (hf k (.inl hk)).1
    omega
  · have := (H.has B hB).2.1 k (.inl hc)
    have := (hf k (.inr hk)).1
    omega
theorem St.alloc (H : St w S R M W) (cs : List Value) (t : TypeId) : St w S R (M ++ [Asn.blk W.heap.size cs t]) (W.alloc (.cells cs.toArray t)) :=
  H.fresh ((Below.refl _ W).alloc (Nat.le_refl _) _) _ (blk_new _ _) (fun k hk => by
    rcases hk with hk | hk
    · have : k = W.heap.size := hk
      subst this
      simp
    · cases hk)
/-- One assertion is replaced: a step that changes its own blocks, and makes new ones. -/
theorem St.updR (H : St w S R M W) (k : Nat) (hk : M[k]? = some A) (ho : Only A.wf W W') (B : Asn) (hh : B.holds W') (hb : ∀ j, B.wf j ∨ B.rf j → j < W'.heap.size) (hw : ∀ j, B.wf j → A.wf j ∨ W.heap.size ≤ j)
    (hr : ∀ j, B.rf j → A.wf j ∨ A.rf j ∨ W.heap.size ≤ j ∨ ∃ i C, i ≠ k ∧ M[i]? = some C ∧ C.rf j ∧ ¬ C.wf j) : St w S R (M.set k B) W' := by
  have hkl := (List.getElem?_eq_some_iff.1 hk).1
  have hA := List.mem_of_getElem? hk
  have apart2 : ∀ (i : Nat) (C : Asn) (j : Nat) (D : Asn), i ≠ j → M[i]? = some C → M[j]? = some D → ∀ x, (C.wf x → ¬ (D.wf x ∨ D.rf x)) ∧ (D.wf x → ¬ (C.wf x ∨ C.rf x)) := by
    intro i C j D hne hi hj
    have hil := (List.getElem?_eq_some_iff.1 hi).1
    have hjl := (List.getElem?_eq_some_iff.1 hj).1
    have e1 : M[i] = C := (List.getElem?_eq_some_iff.1 hi).2
    have e2 : M[j] = D := (List.getElem?_eq_some_iff.1 hj).2
    have h2 := List.pairwise_iff_getElem.1 H.dis
    rcases Nat.lt_or_gt_of_ne hne with h | h
    · have := h2 i j hil hjl h; rwa [e1, e2] at this
    · have := h2 j i hjl hil h
      rw [e1, e2] at this
      exact fun x => ⟨(this x).2, (this x).1⟩
  have apart : ∀ i C, i ≠ k → M[i]? = some C → ∀ j, (A.wf j → ¬ (C.wf j ∨ C.rf j)) ∧ (C.wf j → ¬ (A.wf j ∨ A.rf j)) := by
    intro i C hi hC j
    have hil := (List.getElem?_eq_some_iff.1 hC).1
    have h2 := List.pairwise_iff_getElem.1 H.dis
    have e1 : M[k] = A := (List.getElem?_eq_some_iff.1 hk).2
    have e2 : M[i] = C := (List.getElem?_eq_some_iff.1 hC).2
    rcases Nat.lt_or_gt_of_ne hi with h | h
    · have := h2 i k hil hkl h j
      rw [e1, e2] at this
      exact ⟨this.2, this.1⟩
    · have := h2 k i hkl hil h j
      rw [e1, e2] at this
      exact this
  refine ⟨H.low.trans ho (fun i hi h => ?_), fun C hC => ?_, ?_⟩
  · rcases (H.has A hA).2.2.1 i h with q | q
    · exact q
    · omega
  · obtain ⟨i, hi⟩ := List.mem_iff_getElem?.1 hC
    rw [List.getElem?_set] at hi
    by_cases e : k = i
    · subst e
      rw [if_pos rfl, if_pos hkl] at hi
      cases hi
      refine ⟨hh, hb, fun j hj => ?_, fun j hj => ?_⟩
      · rcases hw j hj with q | q
        · exact (H.has A hA).2.2.1 j q
        · exact .inr (Nat.le_trans H.low.size q)
      · rcases hr j hj with q | q | q | ⟨i', C', _, hC', q, _⟩
        · exact ((H.has A hA).2.2.1 j q).imp id .inr
        · exact (H.has A hA).2.2.2 j q
        · exact .inr (.inr (Nat.le_trans H.low.size q))
        · exact (H.has C' (List.mem_of_getElem? hC')).2.2.2 j q
    · rw [if_neg e] at hi
      have hm := List.mem_of_getElem? hi
      refine ⟨C.loc W W' (H.has C hm).1 (fun j hj => ho.block j ((H.has C hm).2.1 j hj) (fun q => (apart i C (Ne.symm e) hi j).1 q hj)), fun j hj => Nat.lt_of_lt_of_le ((H.has C hm).2.1 j hj) ho.size, (H.has C hm).2.2⟩
  · have new : ∀ i C, i ≠ k → M[i]? = some C → ∀ j, (B.wf j → ¬ (C.wf j ∨ C.rf j)) ∧ (C.wf j → ¬ (B.wf j ∨ B.rf j)) := by
      intro i C hi hC j
      have hm := List.mem_of_getElem? hC
      have hap := apart i C hi hC j
      have hlt := (H.has C hm).2.1 j
      refine ⟨fun hj hc => ?_, fun hc hj => ?_⟩
      · rcases hw j hj with q | q
        · exact hap.1 q hc
        · have := hlt hc; omega
      · rcases hj with hj | hj
        · rcases hw j hj with q | q
          · exact hap.2 hc (.inl q)
          · have := hlt (.inl hc); omega
        · rcases hr j hj with q | q | q | ⟨i', C', hi', hC', q, q'⟩
          · exact hap.2 hc (.inl q)
          · exact hap.2 hc (.inr q)
          · have := hlt (.inl hc); omega
          · by_cases e : i' = i
            · subst e
              rw [hC] at hC'
              cases hC'
              exact q' hc
            · exact (apart2 i' C' i C e hC' hC j).2 hc (.inr q)
    rw [List.pairwise_iff_getElem]
    intro i j hi hj hij
    simp only [List.length_set] at hi hj
    have h2 := List.pairwise_iff_getElem.1 H.dis i j hi hj hij
    rw [List.getElem_set, List.getElem_set]
    by_cases e1 : k = i
    · subst e1
      rw [if_pos rfl, if_neg (by omega)]
      exact new j _ (by omega) (List.getElem?_eq_getElem hj)
    · rw [if_neg e1]
      by_cases e2 : k = j
      · subst e2
        rw [if_pos rfl]
        intro q
        have := new i _ (by omega) (List.getElem?_eq_getElem hi) q
        exact ⟨this.2, this.1⟩
      · rw [if_neg e2]
        exact h2
theorem St.upd (H : St w S R M W) (k : Nat) (hk : M[k]? = some A) (ho : Only A.wf W W') (B : Asn) (hh : B.holds W') (hb : ∀ j, B.wf j ∨ B.rf j → j < W'.heap.size) (hw : ∀ j, B.wf j → A.wf j ∨ W.heap.size ≤ j)
    (hr : ∀ j, B.rf j → A.wf j ∨ A.rf j ∨ W.heap.size ≤ j) : St w S R (M.set k B) W' :=
  H.updR k hk ho B hh hb hw (fun j hj => by
    rcases hr j hj with q | q | q
    · exact .inl q
    · exact .inr (.inl q)
    · exact .inr (.inr (.inl q)))
def Wf (M : List Asn) : Nat → Prop := fun k => ∃ A ∈ M, A.wf k
def Rf (M : List Asn) : Nat → Prop := fun k => ∃ A ∈ M, A.rf k
theorem St.apart (H : St w S R M W) {i j : Nat} {A B : Asn} (hi : M[i]? = some A) (hj : M[j]? = some B) (hne : i ≠ j) : ∀ k, (A.wf k → ¬ (B.wf k ∨ B.rf k)) ∧ (B.wf k → ¬ (A.wf k ∨ A.rf k)) := by
  have hil := (List.getElem?_eq_some_iff.1 hi).1
  have hjl := (List.getElem?_eq_some_iff.1 hj).1
  have e1 : M[i] = A := (List.getElem?_eq_some_iff.1 hi).2
  have e2 : M[j] = B := (List.getElem?_eq_some_iff.1 hj).2
  have h2 := List.pairwise_iff_getElem.1 H.dis
  rcases Nat.lt_or_gt_of_ne hne with h | h
  · have := h2 i j hil hjl h; rwa [e1, e2] at this
  · have := h2 j i hjl hil h
    rw [e1, e2] at this
    exact fun k => ⟨(this k).2, (this k).1⟩
/-- The assertions at some places, by themselves. -/
theorem St.select (H : St w S R M W) (ks : List Nat) (A : List Asn) (hA : ks.map (M[·]?) = A.map some) (nd : ks.Nodup) : St W (Wf A) (Rf A) A W := by
  have get : ∀ (i : Nat) (B : Asn), A[i]? = some B → ∃ k, ks[i]? = some k ∧ M[k]? = some B := by
    intro i B hB
    have := congrArg (·[i]?) hA
    simp only [List.getElem?_map, hB, Option.map_some] at this
    cases hk : ks[i]? with
    | none => rw [hk] at this; simp at this
    | some k => rw [hk] at this; exact ⟨k, rfl, by simpa using this⟩
  refine ⟨Only.refl _ _, fun B hB => ?_, ?_⟩
  · obtain ⟨i, hi⟩ := List.mem_iff_getElem?.1 hB
    obtain ⟨k, _, hk⟩ := get i B hi
    have := H.has B (List.mem_of_getElem? hk)
    exact ⟨this.1, this.2.1, fun j hj => .inl ⟨B, hB, hj⟩, fun j hj => .inr (.inl ⟨B, hB, hj⟩)⟩
  · rw [List.pairwise_iff_getElem]
    intro i j hi hj hij
    obtain ⟨k, h1, hk⟩ := get i _ (List.getElem?_eq_getElem hi)
    obtain ⟨l, h2, hl⟩ := get j _ (List.getElem?_eq_getElem hj)
    refine H.apart hk hl (fun e => ?_)
    subst e
    have hil := (List.getElem?_eq_some_iff.1 h1).1
    have hjl := (List.getElem?_eq_some_iff.1 h2).1
    have := List.pairwise_iff_getElem.1 nd i j hil hjl hij
    exact this (((List.getElem?_eq_some_iff.1 h1).2).trans ((List.getElem?_eq_some_iff.1 h2).2).symm)
/-- A block's cells are written. -/
theorem St.write (H : St w S R M W) (k : Nat) {g : Nat} {cs : List Value} {t : TypeId} (hk : M[k]? = some (Asn.blk g cs t)) (cs' : List Value) (ho : Only (fun j => j = g) W W') (hb : W'.heap[g]? = some (.cells cs'.toArray t (0, 0))) : St w S R (M.set k (Asn.blk g cs' t)) W' :=
  H.upd k hk ho _ hb (fun j hj => by
    rcases hj with hj | hj
    · have : j = g := hj
      subst this
      exact blk_lt hb
    · cases hj) (fun j hj => .inl hj) (fun j hj => by cases hj)
theorem St.set (H : St w S R M W) (k : Nat) {g : Nat} {cs : List Value} {t : TypeId} (hk : M[k]? = some (Asn.blk g cs t)) (i : Nat) (v : Value) : St w S R (M.set k (Asn.blk g (cs.set i v) t)) (W.setCell ⟨g, i, none⟩ v) :=
  H.write k hk _ ((Only.refl (fun j => j = g) W).set (p := ⟨g, i, none⟩) (.inl rfl) v) (by
    have := blk_set (H.blk k hk) i v
    simpa using this)
theorem St.cell (H : St w S R M W) (k : Nat) {g : Nat} {cs : List Value} {t : TypeId} (hk : M[k]? = some (Asn.blk g cs t)) {i : Nat} {v : Value} (h : cs[i]? = some v) : W.cell? ⟨g, i, none⟩ = some v := by
  rw [blk_cell (H.blk k hk)]
  simpa using h
end
end Go.Proofs.YtndicjikjcifaaaDoor

/- Regions by one order of their operations, checked once: plain lemmas, no program in sight. -/
namespace Go.Proofs.YtndicjikjcifaaaDoor
open Go.RowKit Go.Proofs.YtndicjikjcifaaaDoorW.PrintWords Go.Proofs.YtndicjikjcifaaaDoorW.PrintLast
set_option linter.unusedVariables false
set_option linter.unusedSimpArgs false
set_option linter.unusedSectionVars false

/-- What the walk looks at in an operation. -/
def sk (o : Oper) : Option Tmp × Op × TypeId × Option (Nat × Bool) := (o.dst, o.op, o.type, o.guard)
/-- An operation by itself. -/
def ex (a : Act) (op : Op) (ty : TypeId) : Sem Next := execOp a.eval ⟨none, op, ty, "", #[], none⟩
theorem ex_eq (a : Act) (o : Oper) : execOp a.eval o = ex a o.op o.type := by
  cases o
  rfl
/-- One order: an operation's number and kind: 0 yields in every world, 1 reads, else it stands alone. -/
def wpSeq (P : Program) (ops : Array Oper) (Q : Exit → Act → World → Prop) (V : World → Prop) (ds : List Nat) : List (Nat × Nat) → Act → World → Prop
  | [], a, w => Q .normal a w
  | (i, k) :: π, a, w => match ops[i]? with
    | none => False
    | some o => match k with
      | 0 => ∃ v, Yields P ops o v a ∧ wpSeq P ops Q V ds π (a.put o.dst v) w
      | 1 => ∃ v, YieldsIf P ops V o v a ∧ V w ∧ wpSeq P ops Q V ds π (a.put o.dst v) w
      | _ + 2 => if Region.wanted o (yielded ops a.tmps) = true then Oper.wp P o a w (fun a' w' => (i ∉ ds → V w') ∧ wpSeq P ops Q V ds π a' w') Q else V w ∧ wpSeq P ops Q V ds π (a.put o.dst undef) w
def seqW (T : Bool × List (List Nat × List Nat)) (B : List Nat) (ds : List Nat) : List (Nat × Nat) → List Bool → Bool
  | [], l => readyT T.2 l == []
  | (i, 0) :: π, l => anyT T l (l.set i true) i && seqW T B ds π (l.set i true)
  | (i, 1) :: π, l => takeW T B ds l (l.set i true) i && seqW T B ds π (l.set i true)
  | (i, _ + 2) :: π, l => (readyT T.2 l == [i]) && seqW T B ds π (l.set i true)
def seqOk (ops : Array Oper) (B : List Nat) (ds : List Nat) (π : List (Nat × Nat)) : Bool :=
  waitsOk (rtab .any ops).2 B && seqW (rtab .any ops) B ds π (List.replicate ops.size false) && (π.length == ops.size)
section
variable {P : Program} {ops : Array Oper} {Q : Exit → Act → World → Prop} {V : World → Prop} {ds B : List Nat}
theorem last_of_seq (hQ : ∀ c a d v w, Q (.panic c) (Act.put a d v) w → Q (.panic c) a w) (hB : waitsOk (rtab .any ops).2 B = true) : ∀ (π : List (Nat × Nat)) (l : List Bool) (a : Act) (w : World),
    seqW (rtab .any ops) B ds π l = true → wpSeq P ops Q V ds π a w → wpAnyLast P .any ops Q V ds π.length l.toArray a w
  | [], l, a, w, hs, h => done_ (done_of (l := l.toArray) rfl (by simpa [seqW] using hs)) h
  | (i, k) :: π, l, a, w, hs, h => by
    unfold wpSeq at h
    cases ho : ops[i]? with
    | none => rw [ho] at h; exact h.elim
    | some o =>
      rw [ho] at h
      have he : l.toArray.setIfInBounds i true = (l.set i true).toArray := by simp
      match k, hs, h with
      | 0, hs, h =>
        simp only [seqW, Bool.and_eq_true] at hs
        obtain ⟨v, hy, h⟩ := h
        exact pure_ (l' := (l.set i true).toArray) ho rfl (any_of (l := l.toArray) (l' := (l.set i true).toArray) rfl hs.1) (fun c a w => hQ c a _ _ w) hy rfl (last_of_seq hQ hB π _ _ _ hs.2 h)
      | 1, hs, h =>
        simp only [seqW, Bool.and_eq_true] at hs
        obtain ⟨v, hy, hV, h⟩ := h
        exact take_ (l' := (l.set i true).toArray) ho rfl (take_ofW (l := l.toArray) (l' := (l.set i true).toArray) rfl hB hs.1) (fun c a w => hQ c a _ _ w) hy hV rfl (last_of_seq hQ hB π _ _ _ hs.2 h)
      | k + 2, hs, h =>
        dsimp only at h
        simp only [seqW, Bool.and_eq_true] at hs
        have hr : readyB .any ops l.toArray (l.set i true).toArray i = true := one_of (l := l.toArray) (l' := (l.set i true).toArray) rfl (by simpa using hs.1)
        by_cases hd : i ∈ ds
        · refine last_ (l' := (l.set i true).toArray) ho rfl hr hd (fun K hK => ?_)
          have hK := hK.out
          split at h
          · rename_i hw
            rw [if_pos hw]
            unfold Oper.wp at h ⊢
            revert h
            generalize (execOp a.eval o).run P w = r
            intro h
            cases r with
            | ok nx w' =>
              cases nx <;> simp only [Oper.upon] at h ⊢
              case value v => exact hK _ _ (last_of_seq hQ hB π _ _ _ hs.2 h.2)
              case skip => exact hK _ _ (last_of_seq hQ hB π _ _ _ hs.2 h.2)
              case defer d => exact hK _ _ (last_of_seq hQ hB π _ _ _ hs.2 h.2)
              case enter f args =>
                refine h.mono fun e w'' h => ?_
                cases e with
                | returned v => exact hK _ _ (last_of_seq hQ hB π _ _ _ hs.2 h.2)
                | panicked c => exact h
                | outgrown => exact h
              case row r args =>
                exact h.mono fun v w'' h => hK _ _ (last_of_seq hQ hB π _ _ _ hs.2 h.2)
            | halt x w' => cases x <;> first | exact h | exact h.elim
          · rename_i hw
            rw [if_neg hw]
            exact hK _ _ (last_of_seq hQ hB π _ _ _ hs.2 h.2)
        · refine one_ (l' := (l.set i true).toArray) ho rfl hr hd (fun K hK => ?_)
          have hK := hK.out
          split at h
          · rename_i hw
            rw [if_pos hw]
            unfold Oper.wp at h ⊢
            revert h
            generalize (execOp a.eval o).run P w = r
            intro h
            cases r with
            | ok nx w' =>
              cases nx <;> simp only [Oper.upon] at h ⊢
              case value v => exact hK _ _ (h.1 hd) (fun _ => last_of_seq hQ hB π _ _ _ hs.2 h.2)
              case skip => exact hK _ _ (h.1 hd) (fun _ => last_of_seq hQ hB π _ _ _ hs.2 h.2)
              case defer d => exact hK _ _ (h.1 hd) (fun _ => last_of_seq hQ hB π _ _ _ hs.2 h.2)
              case enter f args =>
                refine h.mono fun e w'' h => ?_
                cases e with
                | returned v => exact hK _ _ (h.1 hd) (fun _ => last_of_seq hQ hB π _ _ _ hs.2 h.2)
                | panicked c => exact h
                | outgrown => exact h
              case row r args =>
                exact h.mono fun v w'' h => hK _ _ (h.1 hd) (fun _ => last_of_seq hQ hB π _ _ _ hs.2 h.2)
            | halt x w' => cases x <;> first | exact h | exact h.elim
          · rename_i hw
            rw [if_neg hw]
            exact hK _ _ h.1 (fun _ => last_of_seq hQ hB π _ _ _ hs.2 h.2)
/-- A region that draws its order. -/
theorem wp_drawn {id : Nat} {a : Act} {w : World} (hm : P.follows .mixedOrders = true) (B ds : List Nat) (π : List (Nat × Nat)) (hc : seqOk ops B ds π = true) (hQ : ∀ c a d v w, Q (.panic c) (Act.put a d v) w → Q (.panic c) a w) (hV : V w.drew)
    (h : wpSeq P ops Q V ds π a w.drew) : (Code.region id ops true).wp P Q a w := by
  simp only [seqOk, Bool.and_eq_true, beq_iff_eq] at hc
  obtain ⟨⟨h1, h2⟩, h3⟩ := hc
  refine start_ (n := ops.size) (S := V) (ds := ds) (List.replicate ops.size false).toArray hm rfl (by simp) hV (fun _ => ?_)
  rw [← h3]
  exact last_of_seq hQ h1 π _ a _ (by rw [h3]; exact h2) h
/-- A region in the text's order. -/
def textOrder (n : Nat) : List (Nat × Nat) := (List.range n).map fun i => (i, 2)
theorem ops_of_seq (π : List Nat) : ∀ (a : Act) (w : World), wpSeq P ops Q (fun _ => True) [] (π.map fun i => (i, 2)) a w → wpOps P ops Q π a w := by
  induction π with
  | nil => intro a w h; exact h
  | cons i π ih =>
    intro a w h
    simp only [List.map_cons, wpSeq] at h
    simp only [wpOps]
    cases ho : ops[i]? with
    | none => rw [ho] at h; exact h.elim
    | some o =>
      rw [ho] at h
      simp only at h ⊢
      split at h
      · rename_i hw
        rw [if_pos hw]
        left
        unfold Oper.wp at h ⊢
        revert h
        generalize (execOp a.eval o).run P w = r
        intro h
        cases r with
        | ok nx w' =>
          cases nx <;> simp only [Oper.upon] at h ⊢
          case value v => exact ih _ _ h.2
          case skip => exact ih _ _ h.2
          case defer d => exact ih _ _ h.2
          case enter f args =>
            refine h.mono fun e w'' h => ?_
            cases e with
            | returned v => exact ih _ _ h.2
            | panicked c => exact h
            | outgrown => exact h
          case row r args =>
            exact h.mono fun v w'' h => ih _ _ h.2
        | halt x w' => cases x <;> first | exact h | exact h.elim
      · rename_i hw
        rw [if_neg hw]
        exact ih _ _ h.2
theorem wp_text {id : Nat} {a : Act} {w : World} (n : Nat) (hn : ops.size = n) (h : wpSeq P ops Q (fun _ => True) [] (textOrder n) a w) : (Code.region id ops false).wp P Q a w :=
  wp_region (by rw [hn]; exact ops_of_seq _ a w h)
end
end Go.Proofs.YtndicjikjcifaaaDoor

/- The steps of the small logic: one lemma a kind of operation. Plain lemmas, no program in sight. -/
namespace Go.Proofs.YtndicjikjcifaaaDoor
open Go.RowKit Go.Proofs.YtndicjikjcifaaaDoorW.PrintWords Go.Proofs.YtndicjikjcifaaaDoorW.PrintLast
set_option linter.unusedVariables false
set_option linter.unusedSimpArgs false
set_option linter.unusedSectionVars false

section
variable {P : Program} {ops : Array Oper} {Q : Exit → Act → World → Prop} {V : World → Prop} {ds : List Nat} {π : List (Nat × Nat)} {a : Act} {W W' : World} {n i d : Nat} {L : List (Nat × Value)} {op : Op} {ty : TypeId} {v : Value}
theorem sk_some {o : Option Oper} {x : Option Tmp × Op × TypeId × Option (Nat × Bool)} (h : o.map sk = some x) : ∃ q, o = some q ∧ q.dst = x.1 ∧ q.op = x.2.1 ∧ q.type = x.2.2.1 ∧ q.guard = x.2.2.2 := by
  obtain ⟨q, rfl, rfl⟩ := Option.map_eq_some_iff.1 h
  exact ⟨q, rfl, rfl, rfl, rfl, rfl⟩
/-- Of a guard: it lets the operation be carried out. -/
def On (ops : Array Oper) (L : List (Nat × Value)) : Option (Nat × Bool) → Prop
  | none => True
  | some (j, b) => ∃ e, ((ops[j]?).bind (·.dst)) = some e ∧ L.lookup e = some (.bool b)
theorem On.wanted {o : Oper} (F : Fr n L a) (h : On ops L o.guard) : Region.wanted o (yielded ops a.tmps) = true := by
  unfold Region.wanted
  cases hg : o.guard with
  | none => rfl
  | some p =>
    obtain ⟨j, b⟩ := p
    rw [hg] at h
    obtain ⟨e, h1, h2⟩ := h
    have := F.ev e _ h2
    simp [yielded, h1, this]
theorem On.off {o : Oper} {j e : Nat} {b : Bool} (F : Fr n L a) (hg : o.guard = some (j, b)) (h1 : ((ops[j]?).bind (·.dst)) = some e) (h2 : L.lookup e = some (.bool (!b)) ∨ L.lookup e = some undef) : Region.wanted o (yielded ops a.tmps) = false := by
  unfold Region.wanted
  rw [hg]
  rcases h2 with h2 | h2
  · have := F.ev e _ h2
    cases b <;> simp [yielded, h1, this]
  · have := F.ev e _ h2
    simp [yielded, h1, this, undef]
abbrev OSk := Option (Option Tmp × Op × TypeId × Option (Nat × Bool))
theorem sq0 {g : Option (Nat × Bool)} (hi : (ops[i]?).map sk = some (some d, op, ty, g)) (hg : On ops L g) (F : Fr n L a) (hd : d < n) (hr : ∀ W', (ex a op ty).run P W' = .ok (.value v) W') (h : ∀ a', Fr n ((d, v) :: L) a' → wpSeq P ops Q V ds π a' W) : wpSeq P ops Q V ds ((i, 0) :: π) a W := by
  obtain ⟨q, h1, h2, h3, h4, h5⟩ := sk_some hi
  dsimp only at h2 h3 h4 h5
  unfold wpSeq
  rw [h1]
  dsimp only
  refine ⟨v, .inl ⟨On.wanted F (h5 ▸ hg), fun W' => ?_⟩, ?_⟩
  · rw [ex_eq, h3, h4]; exact hr W'
  · rw [h2]; exact h _ (F.put d hd v)
theorem sq1 {g : Option (Nat × Bool)} (hi : (ops[i]?).map sk = some (some d, op, ty, g)) (hg : On ops L g) (F : Fr n L a) (hd : d < n) (hV : V W) (hr : ∀ W', V W' → (ex a op ty).run P W' = .ok (.value v) W') (h : ∀ a', Fr n ((d, v) :: L) a' → wpSeq P ops Q V ds π a' W) : wpSeq P ops Q V ds ((i, 1) :: π) a W := by
  obtain ⟨q, h1, h2, h3, h4, h5⟩ := sk_some hi
  dsimp only at h2 h3 h4 h5
  unfold wpSeq
  rw [h1]
  dsimp only
  refine ⟨v, .inl ⟨On.wanted F (h5 ▸ hg), fun W' hW => ?_⟩, hV, ?_⟩
  · rw [ex_eq, h3, h4]; exact hr W' hW
  · rw [h2]; exact h _ (F.put d hd v)
theorem sqoff2 {j e : Nat} {b : Bool} (hi : (ops[i]?).map sk = some (some d, op, ty, some (j, b))) (he : ((ops[j]?).bind (·.dst)) = some e) (hv : L.lookup e = some (.bool (!b)) ∨ L.lookup e = some undef) (F : Fr n L a) (hd : d < n) (hV : V W) (h : ∀ a', Fr n ((d, undef) :: L) a' → wpSeq P ops Q V ds π a' W) : wpSeq P ops Q V ds ((i, 2) :: π) a W := by
  obtain ⟨q, h1, h2, h3, h4, h5⟩ := sk_some hi
  dsimp only at h2 h3 h4 h5
  unfold wpSeq
  rw [h1]
  dsimp only
  rw [if_neg (by rw [On.off F h5 he hv]; simp)]
  refine ⟨hV, ?_⟩
  rw [h2]; exact h _ (F.put d hd undef)
/-- One that stands alone, by the law of its kind. -/
theorem sqw {g : Option (Nat × Bool)} {D : Option Tmp} (hi : (ops[i]?).map sk = some (D, op, ty, g)) (hg : On ops L g) (F : Fr n L a)
    (h : ∀ o K, sk o = (D, op, ty, g) → (∀ a' W', (i ∉ ds → V W') → wpSeq P ops Q V ds π a' W' → K a' W') → Oper.wp P o a W K Q) : wpSeq P ops Q V ds ((i, 2) :: π) a W := by
  obtain ⟨q, h1, h2, h3, h4, h5⟩ := sk_some hi
  dsimp only at h2 h3 h4 h5
  unfold wpSeq
  rw [h1]
  dsimp only
  rw [if_pos (On.wanted F (h5 ▸ hg))]
  exact h q _ (by simp [sk, h2, h3, h4, h5]) (fun a' W' h6 h7 => ⟨h6, h7⟩)
theorem sk_eq {o : Oper} {D : Option Tmp} {g : Option (Nat × Bool)} (h : sk o = (D, op, ty, g)) : o.dst = D ∧ o.op = op ∧ o.type = ty := by
  simp only [sk, Prod.mk.injEq] at h
  exact ⟨h.1, h.2.1, h.2.2.1⟩
theorem sq2 {g : Option (Nat × Bool)} (hi : (ops[i]?).map sk = some (some d, op, ty, g)) (hg : On ops L g) (F : Fr n L a) (hd : d < n) (hr : (ex a op ty).run P W = .ok (.value v) W') (hV : i ∉ ds → V W') (h : ∀ a', Fr n ((d, v) :: L) a' → wpSeq P ops Q V ds π a' W') : wpSeq P ops Q V ds ((i, 2) :: π) a W := by
  refine sqw hi hg F fun o K ho hK => ?_
  obtain ⟨h1, h2, h3⟩ := sk_eq ho
  unfold Oper.wp
  rw [ex_eq, h2, h3, hr]
  simp only [Oper.upon, h1]
  exact hK _ _ hV (h _ (F.put d hd v))
theorem sq2n {g : Option (Nat × Bool)} (hi : (ops[i]?).map sk = some (none, op, ty, g)) (hg : On ops L g) (F : Fr n L a) (hr : (ex a op ty).run P W = .ok .skip W') (hV : i ∉ ds → V W') (h : wpSeq P ops Q V ds π a W') : wpSeq P ops Q V ds ((i, 2) :: π) a W := by
  refine sqw hi hg F fun o K ho hK => ?_
  obtain ⟨h1, h2, h3⟩ := sk_eq ho
  unfold Oper.wp
  rw [ex_eq, h2, h3, hr]
  simp only [Oper.upon, h1]
  exact hK _ _ hV h
/-- A call, by a contract. -/
theorem sqc {g : Option (Nat × Bool)} {f : FuncId} {args : Array Value} {R : Ending → World → Prop} (hi : (ops[i]?).map sk = some (some d, op, ty, g)) (hg : On ops L g) (F : Fr n L a) (hd : d < n) (hr : (ex a op ty).run P W = .ok (.enter f args) W)
    (hc : Calls P f args W R) (h : ∀ e W', R e W' → ∃ v, e = .returned v ∧ ∀ a', Fr n ((d, v) :: L) a' → (i ∉ ds → V W') ∧ wpSeq P ops Q V ds π a' W') : wpSeq P ops Q V ds ((i, 2) :: π) a W := by
  refine sqw hi hg F fun o K ho hK => ?_
  obtain ⟨h1, h2, h3⟩ := sk_eq ho
  unfold Oper.wp
  rw [ex_eq, h2, h3, hr]
  simp only [Oper.upon, h1]
  refine hc.mono fun e W' hx => ?_
  obtain ⟨v, rfl, h⟩ := h e W' hx
  have := h _ (F.put d hd v)
  exact hK _ _ this.1 this.2
/-- A new block. -/
theorem sq_new {g : Option (Nat × Bool)} {w : World} {S R : Nat → Prop} {M : List Asn} (hi : (ops[i]?).map sk = some (some d, op, ty, g)) (hg : On ops L g) (F : Fr n L a) (hd : d < n) (H : St w S R M W) (cs : List Value) (T : TypeId)
    (hr : (ex a op ty).run P W = .ok (.value (.pointer (some ⟨W.heap.size, 0, none⟩))) (W.alloc (.cells cs.toArray T)))
    (h : ∀ b W' a', w.heap.size ≤ b → St w S R (M ++ [Asn.blk b cs T]) W' → Fr n ((d, .pointer (some ⟨b, 0, none⟩)) :: L) a' → (i ∉ ds → V W') ∧ wpSeq P ops Q V ds π a' W') : wpSeq P ops Q V ds ((i, 2) :: π) a W := by
  have hh := fun a' => h W.heap.size (W.alloc (.cells cs.toArray T)) a' H.low.size (H.alloc cs T)
  refine sqw hi hg F fun o K ho hK => ?_
  obtain ⟨h1, h2, h3⟩ := sk_eq ho
  unfold Oper.wp
  rw [ex_eq, h2, h3, hr]
  simp only [Oper.upon, h1]
  have := hh _ (F.put d hd _)
  exact hK _ _ this.1 this.2
/-- A store, when it is known what comes of it. -/
theorem sq_put {g : Option (Nat × Bool)} {w : World} {S R : Nat → Prop} {M : List Asn} (hi : (ops[i]?).map sk = some (none, op, ty, g)) (hg : On ops L g) (F : Fr n L a)
    (hr : ∃ W', (ex a op ty).run P W = .ok .skip W' ∧ St w S R M W') (h : ∀ W', St w S R M W' → (i ∉ ds → V W') ∧ wpSeq P ops Q V ds π a W') : wpSeq P ops Q V ds ((i, 2) :: π) a W := by
  obtain ⟨W', hr, H⟩ := hr
  have hh := h W' H
  exact sq2n hi hg F hr hh.1 hh.2
/-- Facts of a list of assertions. -/
def Vs : List Asn → World → Prop
  | [], _ => True
  | A :: r, W => A.holds W ∧ Vs r W
theorem Vs.drew : ∀ {l : List Asn}, Vs l W → Vs l W.drew
  | [], _ => trivial
  | A :: r, h => ⟨A.loc W W.drew h.1 (fun _ _ => rfl), Vs.drew h.2⟩
theorem bcell {g : Nat} {cs : List Value} {T : TypeId} {i : Nat} {v : Value} (hb : (Asn.blk g cs T).holds W) (h : cs[i]? = some v) : W.cell? ⟨g, i, none⟩ = some v := by
  have hb' : W.heap[g]? = some (.cells cs.toArray T (0, 0)) := hb
  rw [blk_cell hb']
  simpa using h
theorem Fr.at (H : Fr n L a) (i : Nat) {v : Value} (h : L.lookup i = some v) {v' : Value} (e : v = v') : Fr n ((i, v') :: L) a := by
  refine ⟨H.sz, H.df, fun j u hj => ?_⟩
  by_cases q : j = i
  · subst q
    have : v' = u := by simpa [List.lookup] using hj
    exact this ▸ e ▸ H.ev j v h
  · have hb : (j == i) = false := beq_false_of_ne q
    exact H.ev j u (by simpa [List.lookup, hb] using hj)
theorem sub0 : Sub [] L := trivial
theorem subc {r : List (Nat × Value)} {i : Nat} {v : Value} (h : L.lookup i = some v) (t : Sub r L) : Sub ((i, v) :: r) L := ⟨h, t⟩
theorem bool_or (b : Bool) : b = true ∨ b = false := by cases b <;> simp
theorem args_1 {x : Operand} {v : Value} (h : a.eval x = v) : (#[x] : Array Operand).map a.eval = #[v] := by simp [h]
theorem args_2 {x y : Operand} {v u : Value} (h : a.eval x = v) (h' : a.eval y = u) : (#[x, y] : Array Operand).map a.eval = #[v, u] := by simp [h, h']
end

/-! ### What an operation comes to -/
section
variable {P : Program} {a : Act} {W W' : World} {ty t : TypeId} {x y : Operand} {v u z : Value}
theorem x_move (h : a.eval x = v) : (ex a (.move x) ty).run P W = .ok (.value v) W := by subst h; rfl
theorem x_assign (h : a.eval x = v) : (ex a (.assign x) ty).run P W = .ok (.value v) W := by subst h; rfl
theorem x_pickT {c : Operand} (hc : a.eval c = .bool true) (hx : a.eval x = v) : (ex a (.pick c x y) ty).run P W = .ok (.value v) W := by
  simp [ex, execOp, asBool, hc, hx]
theorem x_pickF {c : Operand} (hc : a.eval c = .bool false) (hy : a.eval y = v) : (ex a (.pick c x y) ty).run P W = .ok (.value v) W := by
  simp [ex, execOp, asBool, hc, hy]
theorem x_alloc {cs : List Value} (hz : ∀ w, (zeroValue t).run P w = .ok z w) (hc : z.cells = cs.toArray) : (ex a (.alloc t) ty).run P W = .ok (.value (.pointer (some ⟨W.heap.size, 0, none⟩))) (W.alloc (.cells cs.toArray t)) := by
  rw [← hc]
  simp [ex, execOp, Instr.alloc, hz, newVar, newRow, newObj]
  rfl
theorem x_box {cs : List Value} (h : a.eval x = v) (hc : v.cells = cs.toArray) : (ex a (.box t x) ty).run P W = .ok (.value (.pointer (some ⟨W.heap.size, 0, none⟩))) (W.alloc (.cells cs.toArray t)) := by
  rw [← hc]
  simp [ex, execOp, Instr.box, h, newVar, newRow, newObj]
  rfl
theorem x_load1 {p : Addr} (hA : (isAgg t).run P W = .ok false W) (hp : a.eval x = .pointer (some p)) (hc : W.cell? p = some v) : (ex a (.load t x) ty).run P W = .ok (.value v) W := by
  simp [ex, execOp, Instr.loadAt, Instr.sureAddr, loadVar, hp, hA, load, Sem.run, hc]
theorem x_loadN {p : Addr} (hA : (isAgg t).run P W = .ok true W) (cs : List Value) (hs : (sizeOf t).run P W = .ok cs.length W) (hp : a.eval x = .pointer (some p)) (hc : ∀ j u, cs[j]? = some u → W.cell? (p.add j) = some u) : (ex a (.load t x) ty).run P W = .ok (.value (.agg cs.toArray)) W := by
  have := run_loadCells_list (P := P) W p cs hc
  simp [ex, execOp, Instr.loadAt, Instr.sureAddr, loadVar, hp, hA, hs, this]
theorem x_loadB {g : Nat} {T : TypeId} (hA : (isAgg t).run P W = .ok true W) (cs : List Value) (hs : (sizeOf t).run P W = .ok cs.length W) (hp : a.eval x = .pointer (some ⟨g, 0, none⟩)) (hb : W.heap[g]? = some (.cells cs.toArray T (0, 0))) : (ex a (.load t x) ty).run P W = .ok (.value (.agg cs.toArray)) W :=
  x_loadN hA cs hs hp (fun j u hj => by rw [add0, blk_cell hb]; simpa using hj)
theorem x_nil {p : Addr} (h : a.eval x = .pointer (some p)) : (ex a (.nilCheck x) ty).run P W = .ok (.value (.pointer (some p))) W := by
  simp [ex, execOp, h]
theorem x_int {o : BinOp} {k : IntKind} {m n : Int} {yt : TypeId} (hx : a.eval x = .int k m) (hy : a.eval y = .int k n) (hv : (do eqGuard o t x y (.int k m) (.int k n); binOp o t (.int k m) (.int k n) : Sem Value).run P W = .ok v W) : (ex a (.binOp o t x y yt) ty).run P W = .ok (.value v) W := by
  simp only [ex, execOp, hx, hy]
  rw [Sem.run_bind, hv]
  rfl
theorem x_extract {vs : Array Value} {k : Nat} (h : a.eval x = .tuple vs) (hk : vs[k]? = some v) : (ex a (.extract x k) ty).run P W = .ok (.value v) W := by
  simp [ex, execOp, Instr.extract, h, hk]
theorem x_fieldAddr {s : TypeId} {fs : Array Field} {f m o : Nat} {fd : Field} {p : Addr} (hu : P.underlying s = some (.struct fs)) (hf : fs[f]? = some fd) (ho : fd.offset = o) (hz : (sizeOf fd.type).run P W = .ok (m + 1) W) (hp : a.eval x = .pointer (some p)) : (ex a (.fieldAddr s x f) ty).run P W = .ok (.value (.pointer (some (p.add o)))) W := by
  subst ho
  simp [ex, execOp, Instr.fieldAt, run_underlying hu, hf, hp, Instr.sureAddr, fieldPlace, hz]
theorem x_field0 {g : Nat} {s : TypeId} {fs : Array Field} {f m o : Nat} {fd : Field} (hu : P.underlying s = some (.struct fs)) (hf : fs[f]? = some fd) (ho : fd.offset = o) (hz : (sizeOf fd.type).run P W = .ok (m + 1) W) (hp : a.eval x = .pointer (some ⟨g, 0, none⟩)) : (ex a (.fieldAddr s x f) ty).run P W = .ok (.value (.pointer (some ⟨g, o, none⟩))) W := by
  have := x_fieldAddr (ty := ty) hu hf ho hz hp
  rwa [add0] at this
theorem x_indexSl {s e : TypeId} {k : IntKind} {i : Int} {n c m : Nat} {ad : Addr} (hu : P.underlying s = some (.slice e)) (hz : (sizeOf e).run P W = .ok m W) (hx : a.eval x = .slice (some ad) n c) (hy : a.eval y = .int k i) (h0 : 0 ≤ i) (h1 : i < n) : (ex a (.indexAddr s x y) ty).run P W = .ok (.value (.pointer (some (ad.add (i.toNat * m))))) W := by
  simp [ex, execOp, Instr.indexAt, run_underlying hu, hx, hy, asIntOf, hz, h0, h1]
theorem x_indexSl1 {s e : TypeId} {k : IntKind} {i : Int} {n c : Nat} {ad : Addr} (hu : P.underlying s = some (.slice e)) (hz : (sizeOf e).run P W = .ok 1 W) (hx : a.eval x = .slice (some ad) n c) (hy : a.eval y = .int k i) (h0 : 0 ≤ i) (h1 : i < n) : (ex a (.indexAddr s x y) ty).run P W = .ok (.value (.pointer (some (ad.add i.toNat)))) W := by
  have := x_indexSl (ty := ty) hu hz hx hy h0 h1
  rwa [Nat.mul_one] at this
theorem x_indexAr {s e : TypeId} {k : IntKind} {i : Int} {n m : Nat} {ad : Addr} (hu : P.underlying s = some (.array n e)) (hz : (sizeOf e).run P W = .ok m W) (hx : a.eval x = .pointer (some ad)) (hy : a.eval y = .int k i) (h0 : 0 ≤ i) (h1 : i < n) : (ex a (.indexAddr s x y) ty).run P W = .ok (.value (.pointer (some (ad.add (i.toNat * m))))) W := by
  simp [ex, execOp, Instr.indexAt, run_underlying hu, hx, hy, asIntOf, hz, h0, h1, Instr.sureAddr]
theorem wrap_i64 (x : Int) (h0 : -9223372036854775808 ≤ x) (h1 : x ≤ 9223372036854775807) : IntKind.i64.wrap x = x := by
  simp [IntKind.wrap, IntKind.bits, IntKind.signed]; omega
theorem x_lenS {s : TypeId} {b : ByteArray} (hu : P.underlying s = some .string) (hx : a.eval x = .string b) : (ex a (.call { callee := .builtin .len, args := #[x], argTypes := #[s] }) ty).run P W = .ok (.value (.int .i64 b.size)) W := by
  simp [ex, execOp, resolve, invoke, builtin, Builtin.len_, run_underlying hu, hx, goInt]
theorem x_lenL {s e : TypeId} {A : Option Addr} {n c : Nat} (hu : P.underlying s = some (.slice e)) (hx : a.eval x = .slice A n c) : (ex a (.call { callee := .builtin .len, args := #[x], argTypes := #[s] }) ty).run P W = .ok (.value (.int .i64 n)) W := by
  simp [ex, execOp, resolve, invoke, builtin, Builtin.len_, run_underlying hu, hx, goInt]
theorem x_sliceS {s : TypeId} {k : IntKind} {i : Int} {b : ByteArray} {lo : Operand} (hu : P.underlying s = some .string) (hx : a.eval x = .string b) (hy : a.eval lo = .int k i) (h0 : 0 ≤ i) (h1 : i ≤ b.size) : (ex a (.slice s x (some lo) none none) ty).run P W = .ok (.value (.string (b.extract i.toNat b.size))) W := by
  simp [ex, execOp, Instr.sliceAt, Instr.slice, Instr.sliceBounds, Instr.sliceBound, run_underlying hu, hx, hy, asIntOf, h0, h1]
theorem x_call {f : FuncId} {fn : Func} {as : Array Operand} {ts : Array TypeId} {args : Array Value} (hf : P.funcs[f]? = some fn) (hname : (fn.name == "runtime.NumGoroutine") = false) (hb : fn.body.isSome = true) (ha : as.map a.eval = args) : (ex a (.call { callee := .value (.func f), args := as, argTypes := ts }) ty).run P W = .ok (.enter f args) W := by
  have := enters_ hf hname hb args W
  simp [ex, execOp, resolve, Deferred.ofValue, Act.eval, invoke, ha, this]
/-- A store into a known block. -/
theorem x_store {S R : Nat → Prop} {w : World} {M : List Asn} {g o k m : Nat} {cs cs' : List Value} {T : TypeId} (H : St w S R M W) (hk : M[k]? = some (Asn.blk g cs T)) (hs : (sizeOf t).run P W = .ok m W) (hx : a.eval x = .pointer (some ⟨g, o, none⟩)) (hy : a.eval y = v)
    (hm : v.cells.size = m) (hf : o + m ≤ cs.length) (h1 : v.cells.toList.all (·.oneCell') = true) (hc : splice cs o v.cells.toList = cs') : ∃ W', (ex a (.store t x y) ty).run P W = .ok .skip W' ∧ St w S R (M.set k (Asn.blk g cs' T)) W' := by
  subst hc
  subst hm
  have hb := H.blk k hk
  have hst := run_storeCells_at P g o T v.cells.toList 0 cs.toArray W hb (by simpa using hf) (fun u hu => List.all_eq_true.1 h1 u hu)
  refine ⟨W.setRow g (splice cs o v.cells.toList).toArray, ?_, ?_⟩
  · simp [ex, execOp, Instr.storeAt, hx, hy, Instr.sureAddr, storeVar, hs]
    rw [hst]
    simp [splice]
  · refine H.write k hk _ ⟨rfl, rfl, rfl, by simp [World.setRow], fun j hj hn => ?_⟩ (setRow_heap W g _ _ T (0, 0) hb)
    simp only [World.setRow, Array.getElem?_modify]
    rw [if_neg (fun e => hn e.symm)]
end

/-! ### Code by its place in the body -/
def kid : Nat → Code → Code
  | 0, .seq x _ => x
  | _ + 1, .seq _ y => y
  | 0, .cond _ x _ => x
  | _ + 1, .cond _ _ y => y
  | _, .block _ c => c
  | _, .loop c => c
  | _, .scope c => c
  | _, c => c
/-- The code at a place: the path's last step first. -/
def cd (c : Code) : List Nat → Code
  | [] => c
  | i :: p => kid i (cd c p)
inductive CK where
  | seq | region (id : Nat) (draw : Bool) | cond (c : Operand) | block (id : Nat) | loop | exit (id : Nat) | ret | skip | other
def ck : Code → CK
  | .seq .. => .seq
  | .region id _ d => .region id d
  | .cond c _ _ => .cond c
  | .block id _ => .block id
  | .loop _ => .loop
  | .exit id => .exit id
  | .ret => .ret
  | .skip => .skip
  | _ => .other
def rops : Code → Array Oper
  | .region _ ops _ => ops
  | _ => #[]
section
variable {P : Program} {Q : Exit → Act → World → Prop} {a : Act} {W : World} {b : Code} {p : List Nat} {n : Nat} {L : List (Nat × Value)}
theorem c_seq (h : ck (cd b p) = .seq) (hx : (cd b (0 :: p)).wp P (Exit.then (fun a W => (cd b (1 :: p)).wp P Q a W) Q) a W) : (cd b p).wp P Q a W := by
  show (cd b p).wp P Q a W
  simp only [cd] at hx
  revert h hx
  generalize cd b p = c
  intro h hx
  cases c <;> simp only [ck] at h <;> try cases h
  exact wp_seq hx
theorem c_yes {c : Operand} (h : ck (cd b p) = .cond c) (hc : a.eval c = .bool true) (hx : (cd b (0 :: p)).wp P Q a W) : (cd b p).wp P Q a W := by
  simp only [cd] at hx
  revert h hx
  generalize cd b p = c'
  intro h hx
  cases c' <;> simp only [ck] at h <;> try cases h
  exact wp_cond_true hc hx
theorem c_no {c : Operand} (h : ck (cd b p) = .cond c) (hc : a.eval c = .bool false) (hx : (cd b (1 :: p)).wp P Q a W) : (cd b p).wp P Q a W := by
  simp only [cd] at hx
  revert h hx
  generalize cd b p = c'
  intro h hx
  cases c' <;> simp only [ck] at h <;> try cases h
  exact wp_cond_false hc hx
theorem c_block {id : Nat} (h : ck (cd b p) = .block id) (hx : (cd b (0 :: p)).wp P (Exit.inBlock id Q) a W) : (cd b p).wp P Q a W := by
  simp only [cd] at hx
  revert h hx
  generalize cd b p = c'
  intro h hx
  cases c' <;> simp only [ck] at h <;> try cases h
  exact wp_block hx
theorem c_loop (h : ck (cd b p) = .loop) (I : Nat → Act → World → Prop) (k : Nat) (h0 : I k a W) (hr : ∀ k a W, I k a W → (cd b (0 :: p)).wp P (Exit.then (fun a' W' => ∃ k', k' < k ∧ I k' a' W') Q) a W) : (cd b p).wp P Q a W := by
  simp only [cd] at hr
  revert h hr
  generalize cd b p = c'
  intro h hr
  cases c' <;> simp only [ck] at h <;> try cases h
  exact wp_loop_ghost I k h0 hr
theorem c_exit {id : Nat} (h : ck (cd b p) = .exit id) (hx : Q (.exit id) a W) : (cd b p).wp P Q a W := by
  revert h
  generalize cd b p = c'
  intro h
  cases c' <;> simp only [ck] at h <;> try cases h
  exact wp_exit hx
theorem c_ret (h : ck (cd b p) = .ret) (hx : Q .ret a W) : (cd b p).wp P Q a W := by
  revert h
  generalize cd b p = c'
  intro h
  cases c' <;> simp only [ck] at h <;> try cases h
  exact wp_ret hx
theorem c_skip (h : ck (cd b p) = .skip) (hx : Q .normal a W) : (cd b p).wp P Q a W := by
  revert h
  generalize cd b p = c'
  intro h
  cases c' <;> simp only [ck] at h <;> try cases h
  exact wp_skip hx
theorem c_text {id : Nat} (h : ck (cd b p) = .region id false) (π : List (Nat × Nat)) (hm : (π == textOrder (rops (cd b p)).size) = true) (hx : wpSeq P (rops (cd b p)) Q (fun _ => True) [] π a W) : (cd b p).wp P Q a W := by
  rw [beq_iff_eq] at hm
  subst hm
  revert h hx
  generalize cd b p = c'
  intro h hx
  cases c' <;> simp only [ck] at h <;> try cases h
  exact wp_text _ rfl hx
theorem c_drawn {id : Nat} (h : ck (cd b p) = .region id true) (hm : P.follows .mixedOrders = true) (V : World → Prop) (B ds : List Nat) (π : List (Nat × Nat)) (hc : seqOk (rops (cd b p)) B ds π = true) (hQ : ∀ c a d v w, Q (.panic c) (Act.put a d v) w → Q (.panic c) a w) (hV : V W.drew)
    (hx : wpSeq P (rops (cd b p)) Q V ds π a W.drew) : (cd b p).wp P Q a W := by
  revert h hc hx
  generalize cd b p = c'
  intro h hc hx
  cases c' <;> simp only [ck] at h <;> try cases h
  exact wp_drawn hm B ds π hc hQ hV hx
theorem t_normal {R : Act → World → Prop} (h : R a W) : Exit.then R Q .normal a W := h
theorem b_normal {id : Nat} (h : Q .normal a W) : Exit.inBlock id Q .normal a W := h
theorem t_exit {R : Act → World → Prop} {id : Nat} (h : Q (.exit id) a W) : Exit.then R Q (.exit id) a W := h
theorem b_here {id : Nat} (h : Q .normal a W) : Exit.inBlock id Q (.exit id) a W := by simp [Exit.inBlock, h]
theorem t_ret {R : Act → World → Prop} (h : Q .ret a W) : Exit.then R Q .ret a W := h
theorem b_ret {id : Nat} (h : Q .ret a W) : Exit.inBlock id Q .ret a W := h
/-- The begin: the arguments in their slots. -/
def argsL : Nat → List Value → List (Nat × Value)
  | _, [] => []
  | i, v :: r => (i, v) :: argsL (i + 1) r
theorem argsL_look : ∀ (vs : List Value) (k i : Nat) (v : Value), (argsL k vs).lookup i = some v → k ≤ i ∧ vs[i - k]? = some v
  | [], k, i, v, h => by simp [argsL] at h
  | x :: r, k, i, v, h => by
    by_cases e : i = k
    · subst e
      refine ⟨Nat.le_refl _, ?_⟩
      simpa [argsL, List.lookup] using h
    · have hb : (i == k) = false := beq_false_of_ne e
      have := argsL_look r (k + 1) i v (by simpa [argsL, List.lookup, hb] using h)
      refine ⟨by omega, ?_⟩
      rw [show i - k = (i - (k + 1)) + 1 by omega]
      simpa using this.2
theorem c_enter {f : FuncId} {fn : Func} {c : Code} {args : List Value} {w : World} {R : Ending → World → Prop} (hf : P.funcs[f]? = some fn) (hb : fn.body = some c) (n : Nat) (hn : fn.ntmps = n) (hl : args.length ≤ n)
    (h : ∀ a, Fr n (argsL 0 args) a → (cd c []).wp P (bodyPost P fn R) a w) : Calls P f args.toArray w R := by
  refine calls_of_wp hf hb (h _ ⟨by simp [hn]; omega, rfl, fun i v hv => ?_⟩)
  obtain ⟨_, h2⟩ := argsL_look args 0 i v hv
  have hi := (List.getElem?_eq_some_iff.1 h2).1
  simp only [Nat.sub_zero] at h2 hi
  rw [Array.getElem?_append_left (by simpa using hi)]
  simpa using h2
def bodyOf (f : Func) : Code := f.body.getD .skip
theorem c_enter2 {f : FuncId} {fn : Func} {args : List Value} {w : World} {S R : Nat → Prop} {M : List Asn} {Z : Ending → World → Prop} (hf : P.funcs[f]? = some fn) (hb : fn.body.isSome = true) (n : Nat) (hn : fn.ntmps = n) (hl : args.length ≤ n) (H : St w S R M w)
    (h : ∀ a W, Fr n (argsL 0 args) a → St w S R M W → (cd (bodyOf fn) []).wp P (bodyPost P fn Z) a W) : Calls P f args.toArray w Z :=
  c_enter hf (by unfold bodyOf; cases hq : fn.body with | none => rw [hq] at hb; cases hb | some c => rfl) n hn hl (fun a F => h a w F H)
theorem p_tmp {fn : Func} {R : Ending → World → Prop} {t : Tmp} {v : Value} (hr : fn.results = #[.tmp t]) (F : Fr n L a) (h : L.lookup t = some v) (hR : R (.returned v) W) : bodyPost P fn R .ret a W := by
  refine ⟨F.df, v, ?_, hR⟩
  rw [results_tmp hr]
  have := F.ev t v h
  simp [this]
theorem p_list {fn : Func} {R : Ending → World → Prop} {rs : List ResultVar} {vs : List Value} (hr : fn.results = rs.toArray) (hl : vs.length ≠ 1) (F : Fr n L a) (hv : Vals P a.tmps W rs vs) (hR : R (.returned (.tuple vs.toArray)) W) : bodyPost P fn R .ret a W :=
  ⟨F.df, _, results_list hr hl hv, hR⟩
theorem Vals.tmp' {rs : List ResultVar} {vs : List Value} {t : Tmp} {v : Value} (F : Fr n L a) (h : L.lookup t = some v) (hv : Vals P a.tmps W rs vs) : Vals P a.tmps W (.tmp t :: rs) (v :: vs) := by
  have e : a.tmps.getD t undef = v := by have := F.ev t v h; simp [this]
  rw [← e]
  exact .tmp hv
theorem Vals.cell' {rs : List ResultVar} {vs : List Value} {q : Tmp} {ty : TypeId} {g : Nat} {cs : List Value} {T : TypeId} {d : TypeDesc} (F : Fr n L a) (h : L.lookup q = some (.pointer (some ⟨g, 0, none⟩))) (hg : W.heap[g]? = some (.cells cs.toArray T (0, 0)))
    (hu : P.underlying ty = some d) (hd : (match d with | .struct _ | .array _ _ => true | _ => false) = true) (hi : (P.info? ty).map (·.size) = some cs.length) (hv : Vals P a.tmps W rs vs) : Vals P a.tmps W (.cell q ty :: rs) (.agg cs.toArray :: vs) := by
  have e : a.tmps.getD q undef = .pointer (some ⟨g, 0, none⟩) := by have := F.ev q _ h; simp [this]
  exact .cell g T cs.toArray (0, 0) d e hg hu hd (by simpa using hi) hv
end
end Go.Proofs.YtndicjikjcifaaaDoor

/- Rows in the small logic: what is read, queues of the call's own, append. Plain lemmas, no program in sight. -/
namespace Go.Proofs.YtndicjikjcifaaaDoor
open Go.RowKit Go.Proofs.YtndicjikjcifaaaDoorW.PrintWords Go.Proofs.YtndicjikjcifaaaDoorW.PrintLast
set_option linter.unusedVariables false
set_option linter.unusedSimpArgs false
set_option linter.unusedSectionVars false

/-- Something that is read. -/
def Asn.ft (p : World → Prop) (ok : Nat → Prop) : Asn :=
  ⟨fun _ => False, ok, fun W => Foot p W ok, fun W W' h e => Foot.step h (fun k hk _ => e k (.inr hk))⟩
abbrev Asn.rd {α : Type} (d : Kd α) (ok : Nat → Prop) (A : Option Addr) (n : Nat) (xs : List α) : Asn := Asn.ft (fun W => d.C W A n xs) ok
abbrev Asn.fk {α : Type} (d : Kd α) (ok : Nat → Prop) (x : α) (c : List Value) : Asn := Asn.ft (fun W => d.K W x c) ok
/-- A queue whose cells are the call's own; what they lead to is read. -/
def Queue {α : Type} (d : Kd α) (T : TypeId) (v : Value) (xs : List α) (ok : Nat → Prop) (W : World) : Prop :=
  (∀ k, ok k → v.ownBlock ≠ some k) ∧ ∃ cs : List (List Value), Kd.Q (Kd.raw d.sz) T W 0 (fun _ => True) v cs ∧ cs.length = xs.length ∧
    ∀ (j : Nat) (t : α) (c : List Value), xs[j]? = some t → cs[j]? = some c → Foot (fun W => d.K W t c) W ok
section
variable {α : Type} {d : Kd α} {T : TypeId} {v : Value} {xs : List α} {ok ok' : Nat → Prop} {W W' w : World} {S R : Nat → Prop} {M : List Asn}
theorem Queue.move (h : Queue d T v xs ok W) (hm : ∀ k, v.ownBlock = some k ∨ ok k → W'.heap[k]? = W.heap[k]?) : Queue d T v xs ok W' := by
  obtain ⟨h0, cs, h1, h2, h3⟩ := h
  have h1' : Kd.Q (Kd.raw d.sz) T W 0 (fun k => v.ownBlock = some k) v cs := by
    obtain ⟨_, inner, ho, hr⟩ := h1
    exact ⟨fun k hk => hk, inner, ho, hr.imp_ (fun _ _ hp => hp)⟩
  refine ⟨h0, cs, Kd.Q_mono (Kd.Q_step h1' (fun k hk _ => hm k (.inl hk))) (fun _ _ => trivial), h2, fun j t c a b => Foot.step (h3 j t c a b) (fun k hk _ => hm k (.inr hk))⟩
theorem Queue.form (h : Queue d T v xs ok W) : ∃ A c, v = .slice A xs.length c ∧ xs.length ≤ c := by
  obtain ⟨_, cs, h1, h2, _⟩ := h
  obtain ⟨A, c, e, l⟩ := Kd.Q_slice h1
  exact ⟨A, c, by rw [e, h2], by omega⟩
theorem Queue.lt (h : Queue d T v xs ok W) : ∀ k, v.ownBlock = some k → k < W.heap.size := by
  obtain ⟨_, cs, h1, _⟩ := h
  exact Kd.Q_lt h1
theorem cells_C {A : Option Addr} {n : Nat} {cs : List (List Value)} (h : (Kd.raw d.sz).C W A n cs) (hl : cs.length = xs.length)
    (hK : ∀ (j : Nat) (t : α) (c : List Value), xs[j]? = some t → cs[j]? = some c → d.K W t c) : d.C W A n xs := by
  obtain ⟨h1, h2, h3⟩ := h
  refine ⟨by omega, h2, fun hp => ?_⟩
  obtain ⟨ad, ha, hc⟩ := h3 hp
  refine ⟨ad, ha, fun j p hj => ?_⟩
  have hjl := (List.getElem?_eq_some_iff.1 hj).1
  have hcj : cs[j]? = some cs[j] := List.getElem?_eq_getElem (by omega)
  obtain ⟨c, c1, ⟨rfl, c2, c3⟩, c4⟩ := hc j _ hcj
  exact ⟨_, c2, hK j p _ hj hcj, c4⟩
theorem Queue.read {A : Option Addr} {n c : Nat} (h : Queue d T (.slice A n c) xs ok W) : n = xs.length ∧ n ≤ c ∧ d.C W A n xs := by
  obtain ⟨_, cs, h1, h2, h3⟩ := h
  obtain ⟨q1, q2, q3⟩ := Kd.Q_reads' h1
  exact ⟨by omega, q2, cells_C (by rw [q1]; exact q1 ▸ q3) h2 (fun j t c a b => Foot.now (h3 j t c a b))⟩
theorem Queue.nil (d : Kd α) (T : TypeId) (ok : Nat → Prop) (W : World) : Queue d T (.slice none 0 0) [] ok W :=
  ⟨fun _ _ => by simp [Value.ownBlock], [], Kd.Q_nil _ _ _ _ _, rfl, fun j t c h => by simp at h⟩
theorem Queue.drop {A : Option Addr} {k n c : Nat} (h : Queue d T (.slice A n c) xs ok W) (hk : k ≤ xs.length) : Queue d T (.slice (if c = k then A else A.map (·.add (k * d.sz))) (n - k) (c - k)) (xs.drop k) ok W := by
  obtain ⟨h0, cs, h1, h2, h3⟩ := h
  have hb : (Value.slice (if c = k then A else A.map (·.add (k * d.sz))) (n - k) (c - k)).ownBlock = (Value.slice A n c).ownBlock := by
    split
    · cases A <;> rfl
    · cases A with
      | none => rfl
      | some a => simp [Value.ownBlock]; unfold Addr.add; split <;> rfl
  refine ⟨fun j hj => by rw [hb]; exact h0 j hj, cs.drop k, Kd.Q_drop h1 (by omega), by simp [h2], fun j t c a b => ?_⟩
  rw [List.getElem?_drop] at a b
  exact h3 _ t c a b
theorem Queue.mono (h : Queue d T v xs ok W) (hi : ∀ k, ok k → ok' k) (hn : ∀ k, ok' k → v.ownBlock ≠ some k) : Queue d T v xs ok' W := by
  obtain ⟨_, cs, h1, h2, h3⟩ := h
  exact ⟨hn, cs, h1, h2, fun j t c a b => Foot.mono (h3 j t c a b) hi⟩
def Asn.qu {α : Type} (d : Kd α) (T : TypeId) (v : Value) (xs : List α) (ok : Nat → Prop) : Asn :=
  ⟨fun k => v.ownBlock = some k, ok, Queue d T v xs ok, fun W W' h e => h.move e⟩
/-- A new queue. -/
theorem St.quNil (H : St w S R M W) (d : Kd α) (T : TypeId) : St w S R (M ++ [Asn.qu d T (.slice none 0 0) ([] : List α) (fun _ => False)]) W :=
  H.add _ (Queue.nil d T _ W) (fun k hk => by rcases hk with hk | hk; exact absurd (show (Value.slice none 0 0).ownBlock = some k from hk) (by simp [Value.ownBlock]); exact hk.elim) (fun k hk => absurd (show (Value.slice none 0 0).ownBlock = some k from hk) (by simp [Value.ownBlock])) (fun k hk => hk.elim)
/-- What is read of the elder world. -/
theorem St.old (H : St w (fun _ => False) (fun _ => True) M W) (p : World → Prop) (hp : Foot p w (fun k => k < w.heap.size)) (hM : ∀ B ∈ M, ∀ k, B.wf k → w.heap.size ≤ k) : St w (fun _ => False) (fun _ => True) (M ++ [Asn.ft p (fun k => k < w.heap.size)]) W :=
  H.add _ (Foot.step hp (fun k hk _ => H.low.block k hk (fun h => h))) (fun k hk => by rcases hk with hk | hk; exact hk.elim; exact Nat.lt_of_lt_of_le hk H.low.size) (fun k hk => hk.elim) (fun k hk => ⟨.inr (.inl trivial), fun B hB hb => by have := hM B hB k hb; have : k < w.heap.size := hk; omega⟩)
/-- What came out of a call, and is read. -/
theorem St.freshF (H : St w S R M W) (hb : Below W.heap.size W W') (p : World → Prop) (ok : Nat → Prop) (hh : Foot p W' ok) (hf : ∀ k, ok k → W.heap.size ≤ k) : St w S R (M ++ [Asn.ft p (fun k => ok k ∧ k < W'.heap.size)]) W' :=
  H.fresh hb _ (Foot.bound hh) (fun k hk => by rcases hk with hk | hk; exact hk.elim; exact ⟨hf k hk.1, hk.2⟩)
theorem St.rd (H : St w S R M W) (k : Nat) {p : World → Prop} (h : M[k]? = some (Asn.ft p ok)) : p W := Foot.now (H.get k h)
theorem St.qu (H : St w S R M W) (k : Nat) (h : M[k]? = some (Asn.qu d T v xs ok)) : Queue d T v xs ok W := H.get k h
theorem Queue.foot {A : Option Addr} {n c : Nat} (h : Queue d T (.slice A n c) xs ok W) (hb : ∀ k, ((Value.slice A n c).ownBlock = some k ∨ ok k) → k < W.heap.size) : Foot (fun W => d.C W A n xs) W (fun k => (Value.slice A n c).ownBlock = some k ∨ ok k) :=
  fun W' hW => (h.move (fun k hk => hW k hk (hb k hk))).read.2.2
/-- A queue of the call's own, as a result. -/
theorem St.quFresh (H : St w (fun _ => False) (fun _ => False) M W) (k : Nat) {A : Option Addr} {n c : Nat} (h : M[k]? = some (Asn.qu d T (.slice A n c) xs ok)) : Foot (fun W => d.C W A n xs) W (fun k => w.heap.size ≤ k ∧ k < W.heap.size) := by
  obtain ⟨h1, h2, h3, h4⟩ := H.has _ (List.mem_of_getElem? h)
  refine Foot.mono (Queue.foot (H.qu k h) h2) (fun j hj => ⟨?_, h2 j hj⟩)
  rcases hj with hj | hj
  · exact (h3 j hj).elim (fun q => q.elim) id
  · exact (h4 j hj).elim (fun q => q.elim) (fun q => q.elim (fun q => q.elim) id)
end
section
variable {P : Program} {ops : Array Oper} {Q : Exit → Act → World → Prop} {V : World → Prop} {ds : List Nat} {π : List (Nat × Nat)} {a : Act} {W W' w : World} {n i j d1 d2 : Nat} {L : List (Nat × Value)} {ty ty' t T : TypeId} {S R : Nat → Prop} {M : List Asn}
theorem Fr.skip (H : Fr n L a) {d : Nat} (h : L.lookup d = none) (v : Value) : Fr n L (a.put (some d) v) := by
  refine ⟨by simp [Act.put, H.sz], H.df, fun i u hi => ?_⟩
  simp only [Act.put, Array.getElem?_setIfInBounds, H.sz]
  rw [if_neg (fun e => by subst e; rw [h] at hi; cases hi)]
  exact H.ev i u hi
/-- What append of one element does to a queue. -/
theorem qu_run {α : Type} {d : Kd α} {W : World} (t ty e : TypeId) (z : Value) (bytes : Nat)
    (ht : P.underlying t = some (.slice e)) (hinfo : (P.info? e).map (fun i => (i.zero, i.size, i.bytes)) = some (some z, d.sz, bytes)) (hz : z.cells.size = d.sz) (hs0 : 0 < d.sz) (hb0 : 0 < bytes)
    (v : Value) (xs : List α) (p : α) (cs : List Value) (ok okp : Nat → Prop) (hq : Queue d e v xs ok W) (hp : Foot (fun W => d.K W p cs) W okp) (hb : ∀ k, ok k ∨ okp k → k < W.heap.size) (hn : ∀ k, okp k → v.ownBlock ≠ some k) (hl : (xs.length + 1) * bytes ≤ 140737488355328) :
    ∃ v1 w1, (Builtin.append_ #[t, t] ty #[v, .slice (some ⟨W.heap.size, 0, none⟩) 1 1]).run P (W.alloc (.cells cs.toArray e)) = .ok v1 w1 ∧ Queue d e v1 (xs ++ [p]) (fun k => ok k ∨ okp k) w1 ∧ Only (fun k => v.ownBlock = some k) W w1 ∧ (∀ k, v1.ownBlock = some k → v.ownBlock = some k ∨ W.heap.size ≤ k) := by
  obtain ⟨h0, es, h1, h2, h3⟩ := hq
  have hcl := d.K_len (Foot.now hp)
  have hone := d.K_one (Foot.now hp)
  have hM : (Kd.raw d.sz).M W 0 (fun _ => False) cs cs := ⟨rfl, hcl, hone⟩
  obtain ⟨v1, w1, r0, r1, r2, r3, r4⟩ := Kd.Q_run (P := P) (Kd.raw d.sz) 0 t ty e z bytes ht hinfo hz hs0 hb0 v es cs cs (fun _ => True) (fun _ => False) hM (fun k hk => hk.elim) (fun k _ => trivial) h1 (Below.refl 0 W) (Nat.zero_le _) (by rw [h2]; exact hl)
  have hat : ∀ k, v1.ownBlock = some k → v.ownBlock = some k ∨ W.heap.size ≤ k := by
    intro k hk
    rcases r4 with e | ⟨b, e, le⟩
    · exact .inl (e ▸ hk)
    · rw [e] at hk; cases hk; exact .inr le
  have hO : Only (fun k => v.ownBlock = some k) W w1 := ⟨r3.os, r3.tape, r3.output, r3.size, fun k hk hn => r3.block k hk (fun e => hn e.symm)⟩
  refine ⟨v1, w1, r0, ⟨fun k hk he => ?_, es ++ [cs], r1, by simp [h2], fun j t c ha hb' => ?_⟩, hO, hat⟩
  · rcases hat k he with q | q
    · rcases hk with hk | hk
      · exact h0 k hk q
      · exact hn k hk q
    · have := hb k hk; omega
  · have mv : ∀ k, ok k ∨ okp k → w1.heap[k]? = W.heap[k]? := fun k hk => hO.block k (hb k hk) (fun q => by
      rcases hk with hk | hk
      · exact h0 k hk q
      · exact hn k hk q)
    rcases Nat.lt_or_ge j xs.length with hj | hj
    · rw [List.getElem?_append_left hj] at ha
      rw [List.getElem?_append_left (by omega)] at hb'
      exact Foot.mono (Foot.step (h3 j t c ha hb') (fun k hk _ => mv k (.inl hk))) (fun k hk => .inl hk)
    · rw [List.getElem?_append_right hj] at ha
      rw [List.getElem?_append_right (by omega)] at hb'
      have : j - xs.length = 0 := by
        have := (List.getElem?_eq_some_iff.1 ha).1
        simpa using this
      rw [this] at ha
      rw [h2, this] at hb'
      simp at ha hb'
      subst ha hb'
      exact Foot.mono (Foot.step hp (fun k hk _ => mv k (.inr hk))) (fun k hk => .inr hk)
theorem Queue.bound {α : Type} {d : Kd α} {v : Value} {xs : List α} {ok : Nat → Prop} (h : Queue d T v xs ok W) : ∀ k, v.ownBlock = some k → k < W.heap.size := h.lt
theorem Fr.drop1 {d : Nat} {v : Value} (H : Fr n ((d, v) :: L) a) (h : L.lookup d = none) : Fr n L a :=
  ⟨H.sz, H.df, fun i u hi => H.ev i u (by
    have : (i == d) = false := beq_false_of_ne (fun e => by subst e; rw [h] at hi; cases hi)
    simpa [List.lookup, this] using hi)⟩
theorem run_build1 {t n bytes : Nat} {z xv : Value} (hu : P.underlying t = some (.slice T)) (hi : (P.info? T).map (fun i => (i.zero, i.size, i.bytes)) = some (some z, n, bytes)) (hz : z.cells.size = n) (h0 : 0 < n) (hn : n ≤ 16777216) (hx : xv.cells.size = n) (W : World) :
    (Instr.buildSlice t 1 #[(0, xv)]).run P W = .ok (.slice (some ⟨W.heap.size, 0, none⟩) 1 1) (W.alloc (.cells xv.cells T)) := by
  cases hie : P.info? T with
  | none => simp [hie] at hi
  | some ie =>
    simp only [hie, Option.map_some, Option.some.injEq, Prod.mk.injEq] at hi
    obtain ⟨h1, h2, h3⟩ := hi
    refine run_buildSlice W t T 1 _ xv.cells ie z hu hie h1 (by rw [h2]; omega) (by rw [h2]; omega) ?_
    rw [h2]
    have := Great.fill_whole h0 [xv] ((Array.range (1 * n)).map (z.cells[· % z.cells.size]!)) (by simpa using hx) (by simp)
    simpa using this
/-- A literal of one element, appended to a queue. -/
theorem sq_bapp {α : Type} (d : Kd α) {g1 g2 : Option (Nat × Bool)} {s x : Operand} {xv v : Value} {xs : List α} {p : α} {cs : List Value} {ok okp : Nat → Prop} {z : Value} {bytes : Nat} (k k' : Nat) (hkk : k ≠ k')
    (hi : (ops[i]?).map sk = some (some d1, .buildSlice t 1 #[(0, x)], ty, g1)) (hg1 : On ops L g1)
    (hj : (ops[j]?).map sk = some (some d2, .call { callee := .builtin .append, args := #[s, .tmp d1], argTypes := #[t, t] }, ty', g2)) (hg2 : ∀ u, On ops ((d1, u) :: L) g2)
    (F : Fr n L a) (h1n : d1 < n) (h2n : d2 < n) (hd : L.lookup d1 = none) (hs : ∀ a, Fr n L a → a.eval s = v) (hx : a.eval x = xv) (hxc : xv.cells = cs.toArray)
    (ht : P.underlying t = some (.slice T)) (hinfo : (P.info? T).map (fun i => (i.zero, i.size, i.bytes)) = some (some z, d.sz, bytes)) (hz : z.cells.size = d.sz) (hs0 : 0 < d.sz) (hs1 : d.sz ≤ 16777216) (hb0 : 0 < bytes)
    (H : St w S R M W) (hk : M[k]? = some (Asn.qu d T v xs ok)) (hk' : M[k']? = some (Asn.fk d okp p cs)) (hl : (xs.length + 1) * bytes ≤ 140737488355328)
    (hV1 : ∀ W', St w S R M W' → i ∉ ds → V W')
    (h : ∀ v1 W' a', St w S R (M.set k (Asn.qu d T v1 (xs ++ [p]) (fun k => ok k ∨ okp k))) W' → Fr n ((d2, v1) :: L) a' → (j ∉ ds → V W') ∧ wpSeq P ops Q V ds π a' W') : wpSeq P ops Q V ds ((i, 2) :: (j, 2) :: π) a W := by
  have hA := H.has _ (List.mem_of_getElem? hk)
  have hB := H.has _ (List.mem_of_getElem? hk')
  have hap := H.apart hk hk' hkk
  obtain ⟨v1, w1, r0, r1, r2, r3⟩ := qu_run (P := P) t ty' T z bytes ht hinfo hz hs0 hb0 v xs p cs ok okp (H.qu k hk) (H.get k' hk') (fun j hj => by
    rcases hj with hj | hj
    · exact hA.2.1 j (.inr hj)
    · exact hB.2.1 j (.inr hj)) (fun j hj e => (hap j).1 e (.inr hj)) hl
  refine sq2 (v := .slice (some ⟨W.heap.size, 0, none⟩) 1 1) (W' := W.alloc (.cells xv.cells T)) hi hg1 F h1n ?_ (hV1 _ (H.below ((Below.refl _ W).alloc (Nat.le_refl _) _))) (fun a' F' => ?_)
  · have := run_build1 (P := P) ht hinfo hz hs0 hs1 (by rw [hxc]; exact d.K_len (Foot.now (H.get k' hk'))) W (xv := xv)
    simp [ex, execOp, hx, this]
  have F2 := F'.drop1 hd
  have hs2 := hs a' F2
  have hx2 : a'.eval (.tmp d1) = .slice (some ⟨W.heap.size, 0, none⟩) 1 1 := F'.slot (by simp [List.lookup])
  refine sqw hj (hg2 _) F' fun o K ho hK => ?_
  obtain ⟨h1, h2, h3⟩ := sk_eq ho
  rw [← hxc] at r0
  unfold Oper.wp execOp
  rw [h2]
  simp only [resolve, invoke, builtin, Sem.run_bind, Sem.run_pure, Result.andThen_ok, List.map_toArray, List.map_cons, List.map_nil, hs2, hx2, h3, r0, Oper.upon, h1]
  have HN := H.updR k hk (B := Asn.qu d T v1 (xs ++ [p]) (fun k => ok k ∨ okp k)) r2 r1 (fun j hj => ?_) r3 (fun j hj => ?_)
  · have := h v1 w1 _ HN (F2.put d2 h2n v1)
    exact hK _ _ this.1 this.2
  · rcases hj with hj | hj
    · exact r1.lt j hj
    · rcases hj with hj | hj
      · exact Nat.lt_of_lt_of_le (hA.2.1 j (.inr hj)) r2.size
      · exact Nat.lt_of_lt_of_le (hB.2.1 j (.inr hj)) r2.size
  · rcases hj with hj | hj
    · exact .inr (.inl hj)
    · exact .inr (.inr (.inr ⟨k', _, Ne.symm hkk, hk', hj, fun h => h⟩))
end
end Go.Proofs.YtndicjikjcifaaaDoor
