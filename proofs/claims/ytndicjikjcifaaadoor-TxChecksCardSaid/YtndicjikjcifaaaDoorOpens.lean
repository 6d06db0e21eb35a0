/- From an argument's reading as data to a plain Lean value that its cells read as: one lemma a kind of type. No program in sight. -/
import Derived.Test.YtndicjikjcifaaaDoorBase
import Derived.ChangeArms
import Derived.Deep.Slices
import Derived.SizedLaws
import Derived.ChangeShapes
namespace Go.Proofs.YtndicjikjcifaaaDoor
open Go.RowKit Go.Proofs.YtndicjikjcifaaaDoorW.PrintWords Go.Proofs.YtndicjikjcifaaaDoorW.PrintLast

/-- Whatever reads as data of type T reads as a value of the kind d, of which G holds. -/
structure Opens (P : Program) (T : TypeId) {α : Type} (d : Kd α) (G : α → Prop) : Prop where
  size : P.cellsOf T = d.sz
  run : ∀ {H : Type} {enc : TypeId × Value → H} {w : World} {fuel : Nat} {cs : List Value} {x : DataW H × List MemPlace},
    DataW.trod enc P w 0 (fun _ => true) true fuel T cs = some x → (x.1.weights P T).all (· ≤ reachBytes) = true → ∃ a, d.K w a cs ∧ G a

section
variable {P : Program} {T : TypeId}
theorem Opens.int (k : IntKind) (hu : P.underlying T = some (.int k)) (hc : P.cellsOf T = 1) : Opens P T (Kd.int k) (fun n => (Lit.int k n).wf = true) :=
  ⟨hc, fun h _ => by
    obtain ⟨n, rfl, _, hw⟩ := DataW.trod_int hu h
    exact ⟨n, rfl, hw⟩⟩
theorem Opens.bool (hu : P.underlying T = some .bool) (hc : P.cellsOf T = 1) : Opens P T Kd.bool (fun _ => True) :=
  ⟨hc, fun h _ => by
    obtain ⟨n, rfl, _⟩ := DataW.trod_bool hu h
    exact ⟨n, rfl, trivial⟩⟩
theorem Opens.string (hu : P.underlying T = some .string) (hc : P.cellsOf T = 1) : Opens P T Kd.string (fun s => s.size ≤ 140737488351232) :=
  ⟨hc, fun h hw => by
    obtain ⟨s, rfl, rfl, hs⟩ := DataW.trod_string hu h
    refine ⟨s, rfl, ?_⟩
    have : s.data.toList.length ≤ reachBytes := by simpa [DataW.weights] using hw
    simpa [reachBytes] using this⟩

theorem cells_get {w : World} {base n : Nat} {a : Addr} {cs : List Value} (h : w.cells? base a n = some cs) : cs.length = n ∧ ∀ i u, cs[i]? = some u → w.cell? (a.add i) = some u := by
  unfold World.cells? at h
  split at h
  · have hl : cs.length = n := by simpa using mapM_some_length h
    refine ⟨hl, fun i u hu => ?_⟩
    have hi : i < n := by rw [← hl]; exact (List.getElem?_eq_some_iff.1 hu).1
    have := mapM_some_get h i i (by simp [hi])
    rw [this, hu]
  · cases h

theorem weightsAll_mem {H : Type} {e : TypeId} : ∀ {l : List (DataW H)} {d : DataW H}, d ∈ l → ∀ n ∈ d.weights P e, n ∈ DataW.weightsAll P e l
  | x :: r, d, h, n, hn => by
    rw [DataW.weightsAll]
    rcases List.mem_cons.1 h with rfl | h
    · exact List.mem_append_left _ hn
    · exact List.mem_append_right _ (weightsAll_mem h n hn)

theorem choose_list {α : Type} {Q : Nat → α → Prop} (n : Nat) (h : ∀ i, i < n → ∃ a, Q i a) : ∃ l : List α, l.length = n ∧ ∀ i a, l[i]? = some a → Q i a := by
  induction n with
  | zero => exact ⟨[], rfl, fun i a h => by simp at h⟩
  | succ n ih =>
    obtain ⟨l, hl, hq⟩ := ih (fun i hi => h i (by omega))
    obtain ⟨a, ha⟩ := h n (by omega)
    refine ⟨l ++ [a], by simp [hl], fun i b hb => ?_⟩
    rcases Nat.lt_or_ge i n with hi | hi
    · rw [List.getElem?_append_left (by omega)] at hb
      exact hq i b hb
    · have : i = n := by
        have := (List.getElem?_eq_some_iff.1 hb).1
        simp [hl] at this
        omega
      subst this
      rw [List.getElem?_append_right (by omega), hl] at hb
      simp at hb
      exact hb ▸ ha

theorem Opens.slice {e : TypeId} {α : Type} {d : Kd α} {G : α → Prop} (hu : P.underlying T = some (.slice e)) (hc : P.cellsOf T = 1) (he : Opens P e d G) (B : Nat) (hB : P.bytesOf e = B) :
    Opens P T (Kd.slice e d) (fun l => (∀ a ∈ l, G a) ∧ l.length * B ≤ 140737488351232 ∧ l.length ≤ maxLen) := by
  refine ⟨hc, fun {H} {enc} {w} {fuel} {cs} {x} h hw => ?_⟩
  rcases Go.Deep.open_slice hu h with ⟨rfl, _⟩ | ⟨a, len, cap, m, n, D, Pl, rfl, _, hl, hm, hmm, rfl, hx⟩
  · exact ⟨[], ⟨none, 0, rfl, Nat.le_refl _, rfl, by simp, fun h => by simp at h⟩, fun a h => by simp at h, by simp, by simp⟩
  · simp only [if_true] at hmm
    subst hmm
    have hw' : ∀ i, i < len → ((D i).weights P e).all (· ≤ reachBytes) = true := by
      intro i hi
      rw [List.all_eq_true] at hw ⊢
      intro z hz
      refine hw z ?_
      simp only [DataW.weights, hu]
      refine List.mem_cons_of_mem _ (List.mem_append_left _ (weightsAll_mem (d := D i) ?_ z hz))
      exact List.mem_map.2 ⟨i, by simpa using hi, rfl⟩
    have hlen : len * B ≤ 140737488351232 := by
      rw [List.all_eq_true] at hw
      have h1 := hw (((List.range len).map D).length * P.bytesOf e + ((List.range (m - len)).map fun j => D (len + j)).length * P.bytesOf e) (by
        simp only [DataW.weights, hu, Nat.add_mul]
        exact List.mem_cons_self)
      rw [hB] at h1
      simp [reachBytes] at h1
      omega
    obtain ⟨l, hll, hq⟩ := choose_list (Q := fun i a' => ∃ c, c.length = d.sz ∧ d.K w a' c ∧ (∀ j u, c[j]? = some u → w.cell? (a.add (i * d.sz + j)) = some u) ∧ G a') len (fun i hi => by
      obtain ⟨cs', hcs, ht⟩ := hx i (by omega)
      obtain ⟨a', hK, hG⟩ := he.run ht (hw' i hi)
      have hcg := cells_get hcs
      rw [he.size] at hcg
      refine ⟨a', cs', hcg.1, hK, fun j u hu => ?_, hG⟩
      have := hcg.2 j u hu
      rwa [add_add] at this)
    refine ⟨l, ⟨some a, m, by rw [hll], by omega, rfl, by rw [hll]; unfold maxLen at hm; omega, fun _ => ⟨a, rfl, fun j p hp => ?_⟩⟩, fun p hp => ?_, by rw [hll]; exact hlen, by rw [hll]; omega⟩
    · obtain ⟨c, h1, h2, h3, _⟩ := hq j p hp
      exact ⟨c, h1, h2, h3⟩
    · obtain ⟨j, hj⟩ := List.mem_iff_getElem?.1 hp
      obtain ⟨c, _, _, _, h4⟩ := hq j p hj
      exact h4

/-- The same of fields in line, from cell number o on. -/
structure Fields (P : Program) (fs : List Field) (o : Nat) {α : Type} (d : Kd α) (G : α → Prop) : Prop where
  run : ∀ {H : Type} {enc : TypeId × Value → H} {w : World} {fuel : Nat} {cs : List Value} {xs : List (DataW H × List MemPlace)}, xs.length = fs.length →
    (∀ (i : Nat) (f : Field), fs[i]? = some f → DataW.trod enc P w 0 (fun _ => true) true fuel f.type ((cs.drop f.offset).take (P.cellsOf f.type)) = xs[i]?) →
    (DataW.weightsEach P (fs.map (·.type)) (xs.map (·.1))).all (· ≤ reachBytes) = true → cs.length = o + d.sz → ∃ a, d.K w a (cs.drop o) ∧ G a
theorem Fields.one {f : Field} {o : Nat} {α : Type} {d : Kd α} {G : α → Prop} (ho : f.offset = o) (h : Opens P f.type d G) : Fields P [f] o d G :=
  ⟨fun {H} {enc} {w} {fuel} {cs} {xs} hl ht hw hc => by
    match xs, hl with
    | [x], _ =>
      have h1 := ht 0 f rfl
      rw [ho, h.size, List.take_of_length_le (by rw [List.length_drop]; omega)] at h1
      refine h.run h1 ?_
      simpa [DataW.weightsEach] using hw⟩
theorem Fields.cons {f : Field} {fs : List Field} {o : Nat} {α β : Type} {d : Kd α} {d' : Kd β} {G : α → Prop} {G' : β → Prop} (ho : f.offset = o) (h : Opens P f.type d G) (h' : Fields P fs (o + d.sz) d' G') :
    Fields P (f :: fs) o (Kd.pair d d') (fun x => G x.1 ∧ G' x.2) :=
  ⟨fun {H} {enc} {w} {fuel} {cs} {xs} hl ht hw hc => by
    match xs, hl with
    | x :: xs, hl =>
      have h1 := ht 0 f rfl
      rw [ho, h.size] at h1
      have hsz : (Kd.pair d d').sz = d.sz + d'.sz := rfl
      rw [hsz] at hc
      simp only [List.map_cons, DataW.weightsEach, List.all_append, Bool.and_eq_true] at hw
      obtain ⟨a, ha, hG⟩ := h.run h1 hw.1
      obtain ⟨b, hb, hG'⟩ := h'.run (cs := cs) (xs := xs) (by simpa using hl) (fun i f hf => by simpa using ht (i + 1) f (by simpa using hf)) hw.2 (by omega)
      refine ⟨(a, b), ⟨(cs.drop o).take d.sz, cs.drop (o + d.sz), ?_, ha, hb⟩, hG, hG'⟩
      rw [← List.drop_drop, List.take_append_drop]⟩
theorem Opens.struct {fs : Array Field} {α : Type} {d : Kd α} {G : α → Prop} (hu : P.underlying T = some (.struct fs)) (hc : P.cellsOf T = d.sz) (h : Fields P fs.toList 0 d G) : Opens P T d G :=
  ⟨hc, fun {H} {enc} {w} {fuel} {cs} {x} ht hw => by
    obtain ⟨xs, n, _, rfl, hl, hxl, hf⟩ := DataW.trod_struct hu ht
    obtain ⟨a, ha, hG⟩ := h.run (cs := cs) (xs := xs) (by simpa using hxl) (fun i f hi => hf i f (by simpa using hi)) (by simpa [DataW.weights, hu] using hw) (by omega)
    exact ⟨a, by simpa using ha, hG⟩⟩
theorem Opens.iso {α β : Type} {d : Kd α} {G : α → Prop} (h : Opens P T d G) (f : β → α) (g : α → β) (hfg : ∀ a, f (g a) = a) : Opens P T (Kd.iso d f) (fun b => G (f b)) :=
  ⟨h.size, fun ht hw => by
    obtain ⟨a, ha, hG⟩ := h.run ht hw
    exact ⟨g a, by show d.K _ (f (g a)) _; rw [hfg]; exact ha, by show G (f (g a)); rw [hfg]; exact hG⟩⟩
end
end Go.Proofs.YtndicjikjcifaaaDoor
