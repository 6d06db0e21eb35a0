/- tx.Decode. -/
import Derived.Test.YtndicjikjcifaaaDoorTxread
import Derived.Test.YtndicjikjcifaaaDoorWirel
namespace Go.Proofs.YtndicjikjcifaaaDoor
open Go.RowKit Go.Shelf Go.Lib Go.Proofs.YtndicjikjcifaaaDoorW.PrintWords Go.Proofs.YtndicjikjcifaaaDoorW.PrintLast
set_option linter.unusedVariables false
set_option linter.unusedSimpArgs false

theorem undo_no (g h : Nat) (w : World) (he : w.heap[g]? = some (.cells #[.int .i64 0] 24 (0, 0))) :
    CallsD Tryd.prog 50 #[.pointer (some ⟨g, 0, none⟩), .pointer (some ⟨h, 0, none⟩)] .returning w fun e u' w' => u' = .returning ∧ (e = .returned (.tuple #[]) ∧ w' = w) := by
  have c0 : w.cell? ⟨g, 0, none⟩ = some (.int .i64 0) := blk_cell he 0
  clear he
  go_enter_d Tryd.func50, Tryd.ntmps50
  go_wp2
  go_end0
  exact ⟨rfl, rfl⟩
def zset (w : World) (h : Nat) : World :=
  (((((((((w.setCell ⟨h, 0, none⟩ (.int .i64 0)).setCell ⟨h, 1, none⟩ (.string ⟨#[]⟩)).setCell ⟨h, 2, none⟩ (.string ⟨#[]⟩)).setCell ⟨h, 3, none⟩ (.int .u64 0)).setCell ⟨h, 4, none⟩ (.int .u64 0)).setCell ⟨h, 5, none⟩ (.string ⟨#[]⟩)).setCell ⟨h, 6, none⟩ (.string ⟨#[]⟩)).setCell ⟨h, 7, none⟩ (.slice none 0 0)).setCell ⟨h, 8, none⟩ (.slice none 0 0))
theorem zset_box (w : World) (h : Nat) (b0 b1 b2 b3 b4 b5 b6 b7 b8 : Value) (ht : w.heap[h]? = some (.cells #[b0, b1, b2, b3, b4, b5, b6, b7, b8] 33 (0, 0))) :
    (zset w h).heap[h]? = some (.cells #[.int .i64 0, .string ⟨#[]⟩, .string ⟨#[]⟩, .int .u64 0, .int .u64 0, .string ⟨#[]⟩, .string ⟨#[]⟩, .slice none 0 0, .slice none 0 0] 33 (0, 0)) := by
  have := blk_set (blk_set (blk_set (blk_set (blk_set (blk_set (blk_set (blk_set (blk_set ht 0 (.int .i64 0)) 1 (.string ⟨#[]⟩)) 2 (.string ⟨#[]⟩)) 3 (.int .u64 0)) 4 (.int .u64 0)) 5 (.string ⟨#[]⟩)) 6 (.string ⟨#[]⟩)) 7 (.slice none 0 0)) 8 (.slice none 0 0)
  simpa [zset] using this
theorem zset_blk (w : World) (h g : Nat) (hg : g ≠ h) : (zset w h).heap[g]? = w.heap[g]? := by
  simp only [zset]
  iterate 9 rw [Below.heap_setCell _ _ _ _ (by simpa using hg)]
theorem zset_below {w0 w : World} {h : Nat} (hl : Below w0.heap.size w0 w) (hh : w0.heap.size ≤ h) : Below w0.heap.size w0 (zset w h) := by
  simp only [zset]
  iterate 9 refine Below.setCell ?_ (by simpa using hh) _
  exact hl
theorem undo_yes (g h : Nat) (x : Int) (hx : x ≠ 0) (b0 b1 b2 b3 b4 b5 b6 b7 b8 : Value) (w : World) (he : w.heap[g]? = some (.cells #[.int .i64 x] 24 (0, 0))) (ht : w.heap[h]? = some (.cells #[b0, b1, b2, b3, b4, b5, b6, b7, b8] 33 (0, 0))) :
    CallsD Tryd.prog 50 #[.pointer (some ⟨g, 0, none⟩), .pointer (some ⟨h, 0, none⟩)] .returning w fun e u' w' => u' = .returning ∧ (e = .returned (.tuple #[]) ∧ w' = zset w h) := by
  have c0 : w.cell? ⟨g, 0, none⟩ = some (.int .i64 x) := blk_cell he 0
  have hx : (x == 0) = false := by simpa using hx
  have d0 : w.cell? ⟨h, 0, none⟩ = some b0 := blk_cell ht 0
  have f0 := blk_frozen ht 0
  have d1 : w.cell? ⟨h, 1, none⟩ = some b1 := blk_cell ht 1
  have f1 := blk_frozen ht 1
  have d2 : w.cell? ⟨h, 2, none⟩ = some b2 := blk_cell ht 2
  have f2 := blk_frozen ht 2
  have d3 : w.cell? ⟨h, 3, none⟩ = some b3 := blk_cell ht 3
  have f3 := blk_frozen ht 3
  have d4 : w.cell? ⟨h, 4, none⟩ = some b4 := blk_cell ht 4
  have f4 := blk_frozen ht 4
  have d5 : w.cell? ⟨h, 5, none⟩ = some b5 := blk_cell ht 5
  have f5 := blk_frozen ht 5
  have d6 : w.cell? ⟨h, 6, none⟩ = some b6 := blk_cell ht 6
  have f6 := blk_frozen ht 6
  have d7 : w.cell? ⟨h, 7, none⟩ = some b7 := blk_cell ht 7
  have f7 := blk_frozen ht 7
  have d8 : w.cell? ⟨h, 8, none⟩ = some b8 := blk_cell ht 8
  have f8 := blk_frozen ht 8
  clear he ht
  go_enter_d Tryd.func50, Tryd.ntmps50
  go_wp2
  go_end0
  exact ⟨rfl, rfl⟩

def zagg : Value := .agg #[.int .i64 0, .string ⟨#[]⟩, .string ⟨#[]⟩, .int .u64 0, .int .u64 0, .string ⟨#[]⟩, .string ⟨#[]⟩, .slice none 0 0, .slice none 0 0]
/-- The three boxes at a world. -/
structure Dx (w : World) (b0 b1 b2 b3 b4 b5 b6 b7 b8 : Value) (s : ByteArray) (W : World) : Prop where
  low : Below w.heap.size w W
  tx : W.heap[w.heap.size]? = some (.cells #[b0, b1, b2, b3, b4, b5, b6, b7, b8] 33 (0, 0))
  er : W.heap[w.heap.size + 1]? = some (.cells #[.int .i64 0] 24 (0, 0))
  rd : W.heap[w.heap.size + 1 + 1]? = some (.cells #[.string s] 77 (0, 0))
theorem Dx.size {w W : World} {b0 b1 b2 b3 b4 b5 b6 b7 b8 : Value} {s : ByteArray} (h : Dx w b0 b1 b2 b3 b4 b5 b6 b7 b8 s W) : w.heap.size + 1 + 1 < W.heap.size := by
  have := h.rd
  rcases Nat.lt_or_ge (w.heap.size + 1 + 1) W.heap.size with h | h
  · exact h
  · rw [Array.getElem?_eq_none h] at this; cases this
theorem Dx.read {w W W' : World} {b0 b1 b2 b3 b4 b5 b6 b7 b8 : Value} {s s' : ByteArray} (h : Dx w b0 b1 b2 b3 b4 b5 b6 b7 b8 s W) (hr : Rd (w.heap.size + 1 + 1) s' W W') : Dx w b0 b1 b2 b3 b4 b5 b6 b7 b8 s' W' :=
  ⟨hr.below h.low (by omega), (hr.blk (by omega) (by have := h.size; omega)).trans h.tx, (hr.blk (by omega) (by have := h.size; omega)).trans h.er, hr.box⟩
theorem Dx.step {w W W' : World} {b0 b1 b2 b3 b4 b5 b6 b7 b8 : Value} {s : ByteArray} (h : Dx w b0 b1 b2 b3 b4 b5 b6 b7 b8 s W) (hb : Below W.heap.size W W') : Dx w b0 b1 b2 b3 b4 b5 b6 b7 b8 s W' :=
  ⟨below_then h.low h.low.size hb, (hb.block _ (by have := h.size; omega)).trans h.tx, (hb.block _ (by have := h.size; omega)).trans h.er, (hb.block _ h.size).trans h.rd⟩

theorem Dx.set0 {w W : World} {b0 b1 b2 b3 b4 b5 b6 b7 b8 : Value} {s : ByteArray} (h : Dx w b0 b1 b2 b3 b4 b5 b6 b7 b8 s W) (v : Value) : Dx w v b1 b2 b3 b4 b5 b6 b7 b8 s (W.setCell ⟨w.heap.size, 0, none⟩ v) :=
  ⟨h.low.setCell (by simp) v, by simpa using blk_set h.tx 0 v, (Below.heap_setCell _ _ _ _ (by simp)).trans h.er, (Below.heap_setCell _ _ _ _ (by simp; omega)).trans h.rd⟩
theorem Dx.set1 {w W : World} {b0 b1 b2 b3 b4 b5 b6 b7 b8 : Value} {s : ByteArray} (h : Dx w b0 b1 b2 b3 b4 b5 b6 b7 b8 s W) (v : Value) : Dx w b0 v b2 b3 b4 b5 b6 b7 b8 s (W.setCell ⟨w.heap.size, 1, none⟩ v) :=
  ⟨h.low.setCell (by simp) v, by simpa using blk_set h.tx 1 v, (Below.heap_setCell _ _ _ _ (by simp)).trans h.er, (Below.heap_setCell _ _ _ _ (by simp; omega)).trans h.rd⟩
theorem Dx.set2 {w W : World} {b0 b1 b2 b3 b4 b5 b6 b7 b8 : Value} {s : ByteArray} (h : Dx w b0 b1 b2 b3 b4 b5 b6 b7 b8 s W) (v : Value) : Dx w b0 b1 v b3 b4 b5 b6 b7 b8 s (W.setCell ⟨w.heap.size, 2, none⟩ v) :=
  ⟨h.low.setCell (by simp) v, by simpa using blk_set h.tx 2 v, (Below.heap_setCell _ _ _ _ (by simp)).trans h.er, (Below.heap_setCell _ _ _ _ (by simp; omega)).trans h.rd⟩
theorem Dx.set3 {w W : World} {b0 b1 b2 b3 b4 b5 b6 b7 b8 : Value} {s : ByteArray} (h : Dx w b0 b1 b2 b3 b4 b5 b6 b7 b8 s W) (v : Value) : Dx w b0 b1 b2 v b4 b5 b6 b7 b8 s (W.setCell ⟨w.heap.size, 3, none⟩ v) :=
  ⟨h.low.setCell (by simp) v, by simpa using blk_set h.tx 3 v, (Below.heap_setCell _ _ _ _ (by simp)).trans h.er, (Below.heap_setCell _ _ _ _ (by simp; omega)).trans h.rd⟩
theorem Dx.set4 {w W : World} {b0 b1 b2 b3 b4 b5 b6 b7 b8 : Value} {s : ByteArray} (h : Dx w b0 b1 b2 b3 b4 b5 b6 b7 b8 s W) (v : Value) : Dx w b0 b1 b2 b3 v b5 b6 b7 b8 s (W.setCell ⟨w.heap.size, 4, none⟩ v) :=
  ⟨h.low.setCell (by simp) v, by simpa using blk_set h.tx 4 v, (Below.heap_setCell _ _ _ _ (by simp)).trans h.er, (Below.heap_setCell _ _ _ _ (by simp; omega)).trans h.rd⟩
theorem Dx.set5 {w W : World} {b0 b1 b2 b3 b4 b5 b6 b7 b8 : Value} {s : ByteArray} (h : Dx w b0 b1 b2 b3 b4 b5 b6 b7 b8 s W) (v : Value) : Dx w b0 b1 b2 b3 b4 v b6 b7 b8 s (W.setCell ⟨w.heap.size, 5, none⟩ v) :=
  ⟨h.low.setCell (by simp) v, by simpa using blk_set h.tx 5 v, (Below.heap_setCell _ _ _ _ (by simp)).trans h.er, (Below.heap_setCell _ _ _ _ (by simp; omega)).trans h.rd⟩
theorem Dx.set6 {w W : World} {b0 b1 b2 b3 b4 b5 b6 b7 b8 : Value} {s : ByteArray} (h : Dx w b0 b1 b2 b3 b4 b5 b6 b7 b8 s W) (v : Value) : Dx w b0 b1 b2 b3 b4 b5 v b7 b8 s (W.setCell ⟨w.heap.size, 6, none⟩ v) :=
  ⟨h.low.setCell (by simp) v, by simpa using blk_set h.tx 6 v, (Below.heap_setCell _ _ _ _ (by simp)).trans h.er, (Below.heap_setCell _ _ _ _ (by simp; omega)).trans h.rd⟩
theorem Dx.set7 {w W : World} {b0 b1 b2 b3 b4 b5 b6 b7 b8 : Value} {s : ByteArray} (h : Dx w b0 b1 b2 b3 b4 b5 b6 b7 b8 s W) (v : Value) : Dx w b0 b1 b2 b3 b4 b5 b6 v b8 s (W.setCell ⟨w.heap.size, 7, none⟩ v) :=
  ⟨h.low.setCell (by simp) v, by simpa using blk_set h.tx 7 v, (Below.heap_setCell _ _ _ _ (by simp)).trans h.er, (Below.heap_setCell _ _ _ _ (by simp; omega)).trans h.rd⟩
theorem Dx.set8 {w W : World} {b0 b1 b2 b3 b4 b5 b6 b7 b8 : Value} {s : ByteArray} (h : Dx w b0 b1 b2 b3 b4 b5 b6 b7 b8 s W) (v : Value) : Dx w b0 b1 b2 b3 b4 b5 b6 b7 v s (W.setCell ⟨w.heap.size, 8, none⟩ v) :=
  ⟨h.low.setCell (by simp) v, by simpa using blk_set h.tx 8 v, (Below.heap_setCell _ _ _ _ (by simp)).trans h.er, (Below.heap_setCell _ _ _ _ (by simp; omega)).trans h.rd⟩
theorem int_ok' (p : Nat) (s s' : ByteArray) (n k : Int) (w : World) (hg : gi s 9 0 0 = (n, k, 0)) (hr : rest s k = s') (h : w.heap[p]? = some (.cells #[.string s] 77 (0, 0))) :
    Calls Tryd.prog 52 #[.pointer (some ⟨p, 0, none⟩)] w fun e w' => e = .returned (.int .u64 n) ∧ Rd p s' w w' := by
  have := int_ok p s w h (by rw [hg])
  rw [hg] at this
  subst hr
  exact this
theorem text_ok' (p : Nat) (s s' f : ByteArray) (k : Int) (w : World) (hs : s.size < 4611686018427387904) (hg : gt s = (f, k, 0)) (hr : rest s k = s') (h : w.heap[p]? = some (.cells #[.string s] 77 (0, 0))) :
    Calls Tryd.prog 53 #[.pointer (some ⟨p, 0, none⟩)] w fun e w' => e = .returned (.string f) ∧ Rd p s' w w' := by
  have := text_ok p s w hs h (by rw [hg])
  rw [hg] at this
  subst hr
  exact this
theorem list_ok' (p : Nat) (s s' : ByteArray) (f : List ByteArray) (k : Int) (w : World) (hs : s.size < 4611686018427387904) (hg : gl s 8 = (f, k, 0)) (hr : rest s k = s') (h : w.heap[p]? = some (.cells #[.string s] 77 (0, 0))) :
    Calls Tryd.prog 54 #[.pointer (some ⟨p, 0, none⟩)] w fun e w' => ∃ v, e = .returned v ∧ Kd.R Kd.string 9 w' w.heap.size (fun _ => True) v f ∧ Rd p s' w w' := by
  have := list_ok p s w hs h (by rw [hg])
  rw [hg] at this
  subst hr
  exact this
theorem rest_size (s : ByteArray) (n : Int) : (rest s n).size ≤ s.size := by
  unfold rest
  rw [ByteArray.size_extract]
  omega
theorem Dx.first (w : World) (s : ByteArray) : Dx w (.int .i64 0) (.string ⟨#[]⟩) (.string ⟨#[]⟩) (.int .u64 0) (.int .u64 0) (.string ⟨#[]⟩) (.string ⟨#[]⟩) (.slice none 0 0) (.slice none 0 0) s
    (((w.alloc (.cells #[.int .i64 0, .string ⟨#[]⟩, .string ⟨#[]⟩, .int .u64 0, .int .u64 0, .string ⟨#[]⟩, .string ⟨#[]⟩, .slice none 0 0, .slice none 0 0] 33)).alloc (.cells #[.int .i64 0] 24)).alloc (.cells #[.string s] 77)) :=
  ⟨(((Below.refl _ w).alloc (Nat.le_refl _) _).alloc (by simp) _).alloc (by simp; omega) _, blk_alloc (blk_alloc (blk_new _ _) _) _, blk_alloc (blk_newAt _ _ (by simp)) _, blk_newAt _ _ (by simp)⟩
/-- What the two deferred calls leave behind a panic of ours. -/
theorem Dx.died {w W : World} {b0 b1 b2 b3 b4 b5 b6 b7 b8 : Value} {s : ByteArray} (h : Dx w b0 b1 b2 b3 b4 b5 b6 b7 b8 s W) (x : Int) :
    (W.setCell ⟨w.heap.size + 1, 0, none⟩ (.int .i64 x)).heap[w.heap.size + 1]? = some (.cells #[.int .i64 x] 24 (0, 0)) ∧
    (W.setCell ⟨w.heap.size + 1, 0, none⟩ (.int .i64 x)).heap[w.heap.size]? = some (.cells #[b0, b1, b2, b3, b4, b5, b6, b7, b8] 33 (0, 0)) ∧
    Below w.heap.size w (W.setCell ⟨w.heap.size + 1, 0, none⟩ (.int .i64 x)) :=
  ⟨by simpa using blk_set h.er 0 (.int .i64 x), (Below.heap_setCell _ _ _ _ (by simp)).trans h.tx, h.low.setCell (by simp) _⟩
set_option maxHeartbeats 8000000 in
set_option maxRecDepth 100000 in
theorem dec_no1 (s : ByteArray) (w : World) (HN : Hid ((gi s 9 0 0).2.2 ≠ 0)) :
    Calls Tryd.prog 25 #[.string s] w fun e w' => e = .returned (.tuple #[zagg, .int .i64 (gi s 9 0 0).2.2]) ∧ Below w.heap.size w w' := by
  have hmf : ∀ (fn : Fn) (first cap : Array Value) (w : World), (Instr.makeFunc fn first cap).run Tryd.prog w = .ok (.func fn first cap) w := fun _ _ _ _ => rfl
  go_enter_defers Tryd.func25, Tryd.ntmps25
  have HX := Lib.hid (Dx.first w s)
  go_wp2_with (first
  | (go_at_call 52
     refine (int_no (w.heap.size + 1 + 1) s _ HX.out.rd HN.out).mono ?_
     rintro e w2 ⟨rfl, hB⟩
     have HX := Lib.hid (HX.out.step hB)
     clear hB))
  refine leaves_cons (f := 51) (args := #[.pointer (some ⟨w.heap.size + 1, 0, none⟩)]) (by simp) (by simp [go_sem]) ?_
  refine (caught_panicking ⟨w.heap.size + 1, 0, none⟩ 0 (gi s 9 0 0).2.2 [] _ (blk_cell HX.out.er 0) (blk_frozen HX.out.er 0)).mono ?_
  rintro e u' w'' ⟨rfl, rfl, rfl⟩
  refine leaves_cons (f := 50) (args := #[.pointer (some ⟨w.heap.size + 1, 0, none⟩), .pointer (some ⟨w.heap.size, 0, none⟩)]) (by simp [settle]) (by simp [go_sem]) ?_
  have hdied := HX.out.died (gi s 9 0 0).2.2
  refine (undo_yes (w.heap.size + 1) w.heap.size (gi s 9 0 0).2.2 HN.out _ _ _ _ _ _ _ _ _ _ hdied.1 hdied.2.1).mono ?_
  rintro e u' w'' ⟨rfl, rfl, rfl⟩
  have hz := zset_box _ w.heap.size _ _ _ _ _ _ _ _ _ hdied.2.1
  have hze := (zset_blk _ w.heap.size (w.heap.size + 1) (by omega)).trans hdied.1
  have hzb := zset_below hdied.2.2 (Nat.le_refl _)
  generalize zset _ w.heap.size = Z at hz hze hzb ⊢
  have d0 : Z.cell? ⟨w.heap.size, 0, none⟩ = some (.int .i64 0) := blk_cell hz 0
  have d1 : Z.cell? ⟨w.heap.size, 1, none⟩ = some (.string ⟨#[]⟩) := blk_cell hz 1
  have d2 : Z.cell? ⟨w.heap.size, 2, none⟩ = some (.string ⟨#[]⟩) := blk_cell hz 2
  have d3 : Z.cell? ⟨w.heap.size, 3, none⟩ = some (.int .u64 0) := blk_cell hz 3
  have d4 : Z.cell? ⟨w.heap.size, 4, none⟩ = some (.int .u64 0) := blk_cell hz 4
  have d5 : Z.cell? ⟨w.heap.size, 5, none⟩ = some (.string ⟨#[]⟩) := blk_cell hz 5
  have d6 : Z.cell? ⟨w.heap.size, 6, none⟩ = some (.string ⟨#[]⟩) := blk_cell hz 6
  have d7 : Z.cell? ⟨w.heap.size, 7, none⟩ = some (.slice none 0 0) := blk_cell hz 7
  have d8 : Z.cell? ⟨w.heap.size, 8, none⟩ = some (.slice none 0 0) := blk_cell hz 8
  have de : Z.cell? ⟨w.heap.size + 1, 0, none⟩ = some (.int .i64 ((gi s 9 0 0).2.2)) := blk_cell hze 0
  clear hz hze hdied
  have HZ := Lib.hid hzb
  clear hzb
  simp [Leaves, settle, results, Tryd.results25, go_sem, d0, d1, d2, d3, d4, d5, d6, d7, d8, de]
  exact ⟨rfl, HZ.out⟩
set_option maxHeartbeats 8000000 in
set_option maxRecDepth 100000 in
theorem dec_no2 (s s1 : ByteArray) (kd : Int) (k1 : Int) (w : World) (E1 : Hid (gi s 9 0 0 = (kd, k1, 0))) (R1 : Hid (rest s k1 = s1)) (Z1 : Hid (s1.size < 4611686018427387904)) (HN : Hid ((gt s1).2.2 ≠ 0)) :
    Calls Tryd.prog 25 #[.string s] w fun e w' => e = .returned (.tuple #[zagg, .int .i64 (gt s1).2.2]) ∧ Below w.heap.size w w' := by
  have hmf : ∀ (fn : Fn) (first cap : Array Value) (w : World), (Instr.makeFunc fn first cap).run Tryd.prog w = .ok (.func fn first cap) w := fun _ _ _ _ => rfl
  go_enter_defers Tryd.func25, Tryd.ntmps25
  have HX := Lib.hid (Dx.first w s)
  go_wp2_with (first
  | (go_at_call 52
     refine (int_ok' (w.heap.size + 1 + 1) s s1 kd k1 _ E1.out R1.out HX.out.rd).mono ?_
     rintro e w2 ⟨rfl, hr⟩
     have HX := Lib.hid (HX.out.read hr)
     have t0 := blk_cell HX.out.tx 0; have u0 := blk_frozen HX.out.tx 0; simp only [List.getElem?_toArray, List.getElem?_cons_zero, List.getElem?_cons_succ] at t0
     have t1 := blk_cell HX.out.tx 1; have u1 := blk_frozen HX.out.tx 1; simp only [List.getElem?_toArray, List.getElem?_cons_zero, List.getElem?_cons_succ] at t1
     have t2 := blk_cell HX.out.tx 2; have u2 := blk_frozen HX.out.tx 2; simp only [List.getElem?_toArray, List.getElem?_cons_zero, List.getElem?_cons_succ] at t2
     have t3 := blk_cell HX.out.tx 3; have u3 := blk_frozen HX.out.tx 3; simp only [List.getElem?_toArray, List.getElem?_cons_zero, List.getElem?_cons_succ] at t3
     have t4 := blk_cell HX.out.tx 4; have u4 := blk_frozen HX.out.tx 4; simp only [List.getElem?_toArray, List.getElem?_cons_zero, List.getElem?_cons_succ] at t4
     have t5 := blk_cell HX.out.tx 5; have u5 := blk_frozen HX.out.tx 5; simp only [List.getElem?_toArray, List.getElem?_cons_zero, List.getElem?_cons_succ] at t5
     have t6 := blk_cell HX.out.tx 6; have u6 := blk_frozen HX.out.tx 6; simp only [List.getElem?_toArray, List.getElem?_cons_zero, List.getElem?_cons_succ] at t6
     have t7 := blk_cell HX.out.tx 7; have u7 := blk_frozen HX.out.tx 7; simp only [List.getElem?_toArray, List.getElem?_cons_zero, List.getElem?_cons_succ] at t7
     have t8 := blk_cell HX.out.tx 8; have u8 := blk_frozen HX.out.tx 8; simp only [List.getElem?_toArray, List.getElem?_cons_zero, List.getElem?_cons_succ] at t8
     clear hr)
  | (go_at_call 53
     refine (text_no (w.heap.size + 1 + 1) s1 _ Z1.out HX.out.rd HN.out).mono ?_
     rintro e w2 ⟨rfl, hB⟩
     have HX := Lib.hid (HX.out.step hB)
     clear hB))
  refine leaves_cons (f := 51) (args := #[.pointer (some ⟨w.heap.size + 1, 0, none⟩)]) (by simp) (by simp [go_sem]) ?_
  refine (caught_panicking ⟨w.heap.size + 1, 0, none⟩ 0 (gt s1).2.2 [] _ (blk_cell HX.out.er 0) (blk_frozen HX.out.er 0)).mono ?_
  rintro e u' w'' ⟨rfl, rfl, rfl⟩
  refine leaves_cons (f := 50) (args := #[.pointer (some ⟨w.heap.size + 1, 0, none⟩), .pointer (some ⟨w.heap.size, 0, none⟩)]) (by simp [settle]) (by simp [go_sem]) ?_
  have hdied := HX.out.died (gt s1).2.2
  refine (undo_yes (w.heap.size + 1) w.heap.size (gt s1).2.2 HN.out _ _ _ _ _ _ _ _ _ _ hdied.1 hdied.2.1).mono ?_
  rintro e u' w'' ⟨rfl, rfl, rfl⟩
  have hz := zset_box _ w.heap.size _ _ _ _ _ _ _ _ _ hdied.2.1
  have hze := (zset_blk _ w.heap.size (w.heap.size + 1) (by omega)).trans hdied.1
  have hzb := zset_below hdied.2.2 (Nat.le_refl _)
  generalize zset _ w.heap.size = Z at hz hze hzb ⊢
  have d0 : Z.cell? ⟨w.heap.size, 0, none⟩ = some (.int .i64 0) := blk_cell hz 0
  have d1 : Z.cell? ⟨w.heap.size, 1, none⟩ = some (.string ⟨#[]⟩) := blk_cell hz 1
  have d2 : Z.cell? ⟨w.heap.size, 2, none⟩ = some (.string ⟨#[]⟩) := blk_cell hz 2
  have d3 : Z.cell? ⟨w.heap.size, 3, none⟩ = some (.int .u64 0) := blk_cell hz 3
  have d4 : Z.cell? ⟨w.heap.size, 4, none⟩ = some (.int .u64 0) := blk_cell hz 4
  have d5 : Z.cell? ⟨w.heap.size, 5, none⟩ = some (.string ⟨#[]⟩) := blk_cell hz 5
  have d6 : Z.cell? ⟨w.heap.size, 6, none⟩ = some (.string ⟨#[]⟩) := blk_cell hz 6
  have d7 : Z.cell? ⟨w.heap.size, 7, none⟩ = some (.slice none 0 0) := blk_cell hz 7
  have d8 : Z.cell? ⟨w.heap.size, 8, none⟩ = some (.slice none 0 0) := blk_cell hz 8
  have de : Z.cell? ⟨w.heap.size + 1, 0, none⟩ = some (.int .i64 ((gt s1).2.2)) := blk_cell hze 0
  clear hz hze hdied
  have HZ := Lib.hid hzb
  clear hzb
  simp [Leaves, settle, results, Tryd.results25, go_sem, d0, d1, d2, d3, d4, d5, d6, d7, d8, de]
  exact ⟨rfl, HZ.out⟩
set_option maxHeartbeats 8000000 in
set_option maxRecDepth 100000 in
theorem dec_no3 (s s1 s2 : ByteArray) (kd : Int) (k1 : Int) (f : ByteArray) (k2 : Int) (w : World) (E1 : Hid (gi s 9 0 0 = (kd, k1, 0))) (R1 : Hid (rest s k1 = s1)) (Z1 : Hid (s1.size < 4611686018427387904)) (E2 : Hid (gt s1 = (f, k2, 0))) (R2 : Hid (rest s1 k2 = s2)) (Z2 : Hid (s2.size < 4611686018427387904)) (HN : Hid ((gt s2).2.2 ≠ 0)) :
    Calls Tryd.prog 25 #[.string s] w fun e w' => e = .returned (.tuple #[zagg, .int .i64 (gt s2).2.2]) ∧ Below w.heap.size w w' := by
  have hmf : ∀ (fn : Fn) (first cap : Array Value) (w : World), (Instr.makeFunc fn first cap).run Tryd.prog w = .ok (.func fn first cap) w := fun _ _ _ _ => rfl
  go_enter_defers Tryd.func25, Tryd.ntmps25
  have HX := Lib.hid (Dx.first w s)
  go_wp2_with (first
  | (go_at_call 52
     refine (int_ok' (w.heap.size + 1 + 1) s s1 kd k1 _ E1.out R1.out HX.out.rd).mono ?_
     rintro e w2 ⟨rfl, hr⟩
     have HX := Lib.hid (HX.out.read hr)
     have t0 := blk_cell HX.out.tx 0; have u0 := blk_frozen HX.out.tx 0; simp only [List.getElem?_toArray, List.getElem?_cons_zero, List.getElem?_cons_succ] at t0
     have t1 := blk_cell HX.out.tx 1; have u1 := blk_frozen HX.out.tx 1; simp only [List.getElem?_toArray, List.getElem?_cons_zero, List.getElem?_cons_succ] at t1
     have t2 := blk_cell HX.out.tx 2; have u2 := blk_frozen HX.out.tx 2; simp only [List.getElem?_toArray, List.getElem?_cons_zero, List.getElem?_cons_succ] at t2
     have t3 := blk_cell HX.out.tx 3; have u3 := blk_frozen HX.out.tx 3; simp only [List.getElem?_toArray, List.getElem?_cons_zero, List.getElem?_cons_succ] at t3
     have t4 := blk_cell HX.out.tx 4; have u4 := blk_frozen HX.out.tx 4; simp only [List.getElem?_toArray, List.getElem?_cons_zero, List.getElem?_cons_succ] at t4
     have t5 := blk_cell HX.out.tx 5; have u5 := blk_frozen HX.out.tx 5; simp only [List.getElem?_toArray, List.getElem?_cons_zero, List.getElem?_cons_succ] at t5
     have t6 := blk_cell HX.out.tx 6; have u6 := blk_frozen HX.out.tx 6; simp only [List.getElem?_toArray, List.getElem?_cons_zero, List.getElem?_cons_succ] at t6
     have t7 := blk_cell HX.out.tx 7; have u7 := blk_frozen HX.out.tx 7; simp only [List.getElem?_toArray, List.getElem?_cons_zero, List.getElem?_cons_succ] at t7
     have t8 := blk_cell HX.out.tx 8; have u8 := blk_frozen HX.out.tx 8; simp only [List.getElem?_toArray, List.getElem?_cons_zero, List.getElem?_cons_succ] at t8
     clear hr)
  | (go_at_call 53
     refine (text_ok' (w.heap.size + 1 + 1) s1 s2 f k2 _ Z1.out E2.out R2.out HX.out.rd).mono ?_
     rintro e w2 ⟨rfl, hr⟩
     have HX := Lib.hid (HX.out.read hr)
     have t0 := blk_cell HX.out.tx 0; have u0 := blk_frozen HX.out.tx 0; simp only [List.getElem?_toArray, List.getElem?_cons_zero, List.getElem?_cons_succ] at t0
     have t1 := blk_cell HX.out.tx 1; have u1 := blk_frozen HX.out.tx 1; simp only [List.getElem?_toArray, List.getElem?_cons_zero, List.getElem?_cons_succ] at t1
     have t2 := blk_cell HX.out.tx 2; have u2 := blk_frozen HX.out.tx 2; simp only [List.getElem?_toArray, List.getElem?_cons_zero, List.getElem?_cons_succ] at t2
     have t3 := blk_cell HX.out.tx 3; have u3 := blk_frozen HX.out.tx 3; simp only [List.getElem?_toArray, List.getElem?_cons_zero, List.getElem?_cons_succ] at t3
     have t4 := blk_cell HX.out.tx 4; have u4 := blk_frozen HX.out.tx 4; simp only [List.getElem?_toArray, List.getElem?_cons_zero, List.getElem?_cons_succ] at t4
     have t5 := blk_cell HX.out.tx 5; have u5 := blk_frozen HX.out.tx 5; simp only [List.getElem?_toArray, List.getElem?_cons_zero, List.getElem?_cons_succ] at t5
     have t6 := blk_cell HX.out.tx 6; have u6 := blk_frozen HX.out.tx 6; simp only [List.getElem?_toArray, List.getElem?_cons_zero, List.getElem?_cons_succ] at t6
     have t7 := blk_cell HX.out.tx 7; have u7 := blk_frozen HX.out.tx 7; simp only [List.getElem?_toArray, List.getElem?_cons_zero, List.getElem?_cons_succ] at t7
     have t8 := blk_cell HX.out.tx 8; have u8 := blk_frozen HX.out.tx 8; simp only [List.getElem?_toArray, List.getElem?_cons_zero, List.getElem?_cons_succ] at t8
     clear hr)
  | (go_at_call 53
     refine (text_no (w.heap.size + 1 + 1) s2 _ Z2.out HX.out.rd HN.out).mono ?_
     rintro e w2 ⟨rfl, hB⟩
     have HX := Lib.hid (HX.out.step hB)
     clear hB))
  refine leaves_cons (f := 51) (args := #[.pointer (some ⟨w.heap.size + 1, 0, none⟩)]) (by simp) (by simp [go_sem]) ?_
  refine (caught_panicking ⟨w.heap.size + 1, 0, none⟩ 0 (gt s2).2.2 [] _ (blk_cell HX.out.er 0) (blk_frozen HX.out.er 0)).mono ?_
  rintro e u' w'' ⟨rfl, rfl, rfl⟩
  refine leaves_cons (f := 50) (args := #[.pointer (some ⟨w.heap.size + 1, 0, none⟩), .pointer (some ⟨w.heap.size, 0, none⟩)]) (by simp [settle]) (by simp [go_sem]) ?_
  have hdied := HX.out.died (gt s2).2.2
  refine (undo_yes (w.heap.size + 1) w.heap.size (gt s2).2.2 HN.out _ _ _ _ _ _ _ _ _ _ hdied.1 hdied.2.1).mono ?_
  rintro e u' w'' ⟨rfl, rfl, rfl⟩
  have hz := zset_box _ w.heap.size _ _ _ _ _ _ _ _ _ hdied.2.1
  have hze := (zset_blk _ w.heap.size (w.heap.size + 1) (by omega)).trans hdied.1
  have hzb := zset_below hdied.2.2 (Nat.le_refl _)
  generalize zset _ w.heap.size = Z at hz hze hzb ⊢
  have d0 : Z.cell? ⟨w.heap.size, 0, none⟩ = some (.int .i64 0) := blk_cell hz 0
  have d1 : Z.cell? ⟨w.heap.size, 1, none⟩ = some (.string ⟨#[]⟩) := blk_cell hz 1
  have d2 : Z.cell? ⟨w.heap.size, 2, none⟩ = some (.string ⟨#[]⟩) := blk_cell hz 2
  have d3 : Z.cell? ⟨w.heap.size, 3, none⟩ = some (.int .u64 0) := blk_cell hz 3
  have d4 : Z.cell? ⟨w.heap.size, 4, none⟩ = some (.int .u64 0) := blk_cell hz 4
  have d5 : Z.cell? ⟨w.heap.size, 5, none⟩ = some (.string ⟨#[]⟩) := blk_cell hz 5
  have d6 : Z.cell? ⟨w.heap.size, 6, none⟩ = some (.string ⟨#[]⟩) := blk_cell hz 6
  have d7 : Z.cell? ⟨w.heap.size, 7, none⟩ = some (.slice none 0 0) := blk_cell hz 7
  have d8 : Z.cell? ⟨w.heap.size, 8, none⟩ = some (.slice none 0 0) := blk_cell hz 8
  have de : Z.cell? ⟨w.heap.size + 1, 0, none⟩ = some (.int .i64 ((gt s2).2.2)) := blk_cell hze 0
  clear hz hze hdied
  have HZ := Lib.hid hzb
  clear hzb
  simp [Leaves, settle, results, Tryd.results25, go_sem, d0, d1, d2, d3, d4, d5, d6, d7, d8, de]
  exact ⟨rfl, HZ.out⟩
set_option maxHeartbeats 8000000 in
set_option maxRecDepth 100000 in
theorem dec_no4 (s s1 s2 s3 : ByteArray) (kd : Int) (k1 : Int) (f : ByteArray) (k2 : Int) (t : ByteArray) (k3 : Int) (w : World) (E1 : Hid (gi s 9 0 0 = (kd, k1, 0))) (R1 : Hid (rest s k1 = s1)) (Z1 : Hid (s1.size < 4611686018427387904)) (E2 : Hid (gt s1 = (f, k2, 0))) (R2 : Hid (rest s1 k2 = s2)) (Z2 : Hid (s2.size < 4611686018427387904)) (E3 : Hid (gt s2 = (t, k3, 0))) (R3 : Hid (rest s2 k3 = s3)) (Z3 : Hid (s3.size < 4611686018427387904)) (HN : Hid ((gi s3 9 0 0).2.2 ≠ 0)) :
    Calls Tryd.prog 25 #[.string s] w fun e w' => e = .returned (.tuple #[zagg, .int .i64 (gi s3 9 0 0).2.2]) ∧ Below w.heap.size w w' := by
  have hmf : ∀ (fn : Fn) (first cap : Array Value) (w : World), (Instr.makeFunc fn first cap).run Tryd.prog w = .ok (.func fn first cap) w := fun _ _ _ _ => rfl
  go_enter_defers Tryd.func25, Tryd.ntmps25
  have HX := Lib.hid (Dx.first w s)
  go_wp2_with (first
  | (go_at_call 52
     refine (int_ok' (w.heap.size + 1 + 1) s s1 kd k1 _ E1.out R1.out HX.out.rd).mono ?_
     rintro e w2 ⟨rfl, hr⟩
     have HX := Lib.hid (HX.out.read hr)
     have t0 := blk_cell HX.out.tx 0; have u0 := blk_frozen HX.out.tx 0; simp only [List.getElem?_toArray, List.getElem?_cons_zero, List.getElem?_cons_succ] at t0
     have t1 := blk_cell HX.out.tx 1; have u1 := blk_frozen HX.out.tx 1; simp only [List.getElem?_toArray, List.getElem?_cons_zero, List.getElem?_cons_succ] at t1
     have t2 := blk_cell HX.out.tx 2; have u2 := blk_frozen HX.out.tx 2; simp only [List.getElem?_toArray, List.getElem?_cons_zero, List.getElem?_cons_succ] at t2
     have t3 := blk_cell HX.out.tx 3; have u3 := blk_frozen HX.out.tx 3; simp only [List.getElem?_toArray, List.getElem?_cons_zero, List.getElem?_cons_succ] at t3
     have t4 := blk_cell HX.out.tx 4; have u4 := blk_frozen HX.out.tx 4; simp only [List.getElem?_toArray, List.getElem?_cons_zero, List.getElem?_cons_succ] at t4
     have t5 := blk_cell HX.out.tx 5; have u5 := blk_frozen HX.out.tx 5; simp only [List.getElem?_toArray, List.getElem?_cons_zero, List.getElem?_cons_succ] at t5
     have t6 := blk_cell HX.out.tx 6; have u6 := blk_frozen HX.out.tx 6; simp only [List.getElem?_toArray, List.getElem?_cons_zero, List.getElem?_cons_succ] at t6
     have t7 := blk_cell HX.out.tx 7; have u7 := blk_frozen HX.out.tx 7; simp only [List.getElem?_toArray, List.getElem?_cons_zero, List.getElem?_cons_succ] at t7
     have t8 := blk_cell HX.out.tx 8; have u8 := blk_frozen HX.out.tx 8; simp only [List.getElem?_toArray, List.getElem?_cons_zero, List.getElem?_cons_succ] at t8
     clear hr)
  | (go_at_call 53
     refine (text_ok' (w.heap.size + 1 + 1) s1 s2 f k2 _ Z1.out E2.out R2.out HX.out.rd).mono ?_
     rintro e w2 ⟨rfl, hr⟩
     have HX := Lib.hid (HX.out.read hr)
     have t0 := blk_cell HX.out.tx 0; have u0 := blk_frozen HX.out.tx 0; simp only [List.getElem?_toArray, List.getElem?_cons_zero, List.getElem?_cons_succ] at t0
     have t1 := blk_cell HX.out.tx 1; have u1 := blk_frozen HX.out.tx 1; simp only [List.getElem?_toArray, List.getElem?_cons_zero, List.getElem?_cons_succ] at t1
     have t2 := blk_cell HX.out.tx 2; have u2 := blk_frozen HX.out.tx 2; simp only [List.getElem?_toArray, List.getElem?_cons_zero, List.getElem?_cons_succ] at t2
     have t3 := blk_cell HX.out.tx 3; have u3 := blk_frozen HX.out.tx 3; simp only [List.getElem?_toArray, List.getElem?_cons_zero, List.getElem?_cons_succ] at t3
     have t4 := blk_cell HX.out.tx 4; have u4 := blk_frozen HX.out.tx 4; simp only [List.getElem?_toArray, List.getElem?_cons_zero, List.getElem?_cons_succ] at t4
     have t5 := blk_cell HX.out.tx 5; have u5 := blk_frozen HX.out.tx 5; simp only [List.getElem?_toArray, List.getElem?_cons_zero, List.getElem?_cons_succ] at t5
     have t6 := blk_cell HX.out.tx 6; have u6 := blk_frozen HX.out.tx 6; simp only [List.getElem?_toArray, List.getElem?_cons_zero, List.getElem?_cons_succ] at t6
     have t7 := blk_cell HX.out.tx 7; have u7 := blk_frozen HX.out.tx 7; simp only [List.getElem?_toArray, List.getElem?_cons_zero, List.getElem?_cons_succ] at t7
     have t8 := blk_cell HX.out.tx 8; have u8 := blk_frozen HX.out.tx 8; simp only [List.getElem?_toArray, List.getElem?_cons_zero, List.getElem?_cons_succ] at t8
     clear hr)
  | (go_at_call 53
     refine (text_ok' (w.heap.size + 1 + 1) s2 s3 t k3 _ Z2.out E3.out R3.out HX.out.rd).mono ?_
     rintro e w2 ⟨rfl, hr⟩
     have HX := Lib.hid (HX.out.read hr)
     have t0 := blk_cell HX.out.tx 0; have u0 := blk_frozen HX.out.tx 0; simp only [List.getElem?_toArray, List.getElem?_cons_zero, List.getElem?_cons_succ] at t0
     have t1 := blk_cell HX.out.tx 1; have u1 := blk_frozen HX.out.tx 1; simp only [List.getElem?_toArray, List.getElem?_cons_zero, List.getElem?_cons_succ] at t1
     have t2 := blk_cell HX.out.tx 2; have u2 := blk_frozen HX.out.tx 2; simp only [List.getElem?_toArray, List.getElem?_cons_zero, List.getElem?_cons_succ] at t2
     have t3 := blk_cell HX.out.tx 3; have u3 := blk_frozen HX.out.tx 3; simp only [List.getElem?_toArray, List.getElem?_cons_zero, List.getElem?_cons_succ] at t3
     have t4 := blk_cell HX.out.tx 4; have u4 := blk_frozen HX.out.tx 4; simp only [List.getElem?_toArray, List.getElem?_cons_zero, List.getElem?_cons_succ] at t4
     have t5 := blk_cell HX.out.tx 5; have u5 := blk_frozen HX.out.tx 5; simp only [List.getElem?_toArray, List.getElem?_cons_zero, List.getElem?_cons_succ] at t5
     have t6 := blk_cell HX.out.tx 6; have u6 := blk_frozen HX.out.tx 6; simp only [List.getElem?_toArray, List.getElem?_cons_zero, List.getElem?_cons_succ] at t6
     have t7 := blk_cell HX.out.tx 7; have u7 := blk_frozen HX.out.tx 7; simp only [List.getElem?_toArray, List.getElem?_cons_zero, List.getElem?_cons_succ] at t7
     have t8 := blk_cell HX.out.tx 8; have u8 := blk_frozen HX.out.tx 8; simp only [List.getElem?_toArray, List.getElem?_cons_zero, List.getElem?_cons_succ] at t8
     clear hr)
  | (go_at_call 52
     refine (int_no (w.heap.size + 1 + 1) s3 _ ((HX.out.set1 (.string f)).set2 (.string t)).rd HN.out).mono ?_
     rintro e w2 ⟨rfl, hB⟩
     have HX := Lib.hid (((HX.out.set1 (.string f)).set2 (.string t)).step hB)
     clear hB))
  refine leaves_cons (f := 51) (args := #[.pointer (some ⟨w.heap.size + 1, 0, none⟩)]) (by simp) (by simp [go_sem]) ?_
  refine (caught_panicking ⟨w.heap.size + 1, 0, none⟩ 0 (gi s3 9 0 0).2.2 [] _ (blk_cell HX.out.er 0) (blk_frozen HX.out.er 0)).mono ?_
  rintro e u' w'' ⟨rfl, rfl, rfl⟩
  refine leaves_cons (f := 50) (args := #[.pointer (some ⟨w.heap.size + 1, 0, none⟩), .pointer (some ⟨w.heap.size, 0, none⟩)]) (by simp [settle]) (by simp [go_sem]) ?_
  have hdied := HX.out.died (gi s3 9 0 0).2.2
  refine (undo_yes (w.heap.size + 1) w.heap.size (gi s3 9 0 0).2.2 HN.out _ _ _ _ _ _ _ _ _ _ hdied.1 hdied.2.1).mono ?_
  rintro e u' w'' ⟨rfl, rfl, rfl⟩
  have hz := zset_box _ w.heap.size _ _ _ _ _ _ _ _ _ hdied.2.1
  have hze := (zset_blk _ w.heap.size (w.heap.size + 1) (by omega)).trans hdied.1
  have hzb := zset_below hdied.2.2 (Nat.le_refl _)
  generalize zset _ w.heap.size = Z at hz hze hzb ⊢
  have d0 : Z.cell? ⟨w.heap.size, 0, none⟩ = some (.int .i64 0) := blk_cell hz 0
  have d1 : Z.cell? ⟨w.heap.size, 1, none⟩ = some (.string ⟨#[]⟩) := blk_cell hz 1
  have d2 : Z.cell? ⟨w.heap.size, 2, none⟩ = some (.string ⟨#[]⟩) := blk_cell hz 2
  have d3 : Z.cell? ⟨w.heap.size, 3, none⟩ = some (.int .u64 0) := blk_cell hz 3
  have d4 : Z.cell? ⟨w.heap.size, 4, none⟩ = some (.int .u64 0) := blk_cell hz 4
  have d5 : Z.cell? ⟨w.heap.size, 5, none⟩ = some (.string ⟨#[]⟩) := blk_cell hz 5
  have d6 : Z.cell? ⟨w.heap.size, 6, none⟩ = some (.string ⟨#[]⟩) := blk_cell hz 6
  have d7 : Z.cell? ⟨w.heap.size, 7, none⟩ = some (.slice none 0 0) := blk_cell hz 7
  have d8 : Z.cell? ⟨w.heap.size, 8, none⟩ = some (.slice none 0 0) := blk_cell hz 8
  have de : Z.cell? ⟨w.heap.size + 1, 0, none⟩ = some (.int .i64 ((gi s3 9 0 0).2.2)) := blk_cell hze 0
  clear hz hze hdied
  have HZ := Lib.hid hzb
  clear hzb
  simp [Leaves, settle, results, Tryd.results25, go_sem, d0, d1, d2, d3, d4, d5, d6, d7, d8, de]
  exact ⟨rfl, HZ.out⟩
set_option maxHeartbeats 8000000 in
set_option maxRecDepth 100000 in
theorem dec_no5 (s s1 s2 s3 s4 : ByteArray) (kd : Int) (k1 : Int) (f : ByteArray) (k2 : Int) (t : ByteArray) (k3 : Int) (am : Int) (k4 : Int) (w : World) (E1 : Hid (gi s 9 0 0 = (kd, k1, 0))) (R1 : Hid (rest s k1 = s1)) (Z1 : Hid (s1.size < 4611686018427387904)) (E2 : Hid (gt s1 = (f, k2, 0))) (R2 : Hid (rest s1 k2 = s2)) (Z2 : Hid (s2.size < 4611686018427387904)) (E3 : Hid (gt s2 = (t, k3, 0))) (R3 : Hid (rest s2 k3 = s3)) (Z3 : Hid (s3.size < 4611686018427387904)) (E4 : Hid (gi s3 9 0 0 = (am, k4, 0))) (R4 : Hid (rest s3 k4 = s4)) (Z4 : Hid (s4.size < 4611686018427387904)) (HN : Hid ((gi s4 9 0 0).2.2 ≠ 0)) :
    Calls Tryd.prog 25 #[.string s] w fun e w' => e = .returned (.tuple #[zagg, .int .i64 (gi s4 9 0 0).2.2]) ∧ Below w.heap.size w w' := by
  have hmf : ∀ (fn : Fn) (first cap : Array Value) (w : World), (Instr.makeFunc fn first cap).run Tryd.prog w = .ok (.func fn first cap) w := fun _ _ _ _ => rfl
  go_enter_defers Tryd.func25, Tryd.ntmps25
  have HX := Lib.hid (Dx.first w s)
  go_wp2_with (first
  | (go_at_call 52
     refine (int_ok' (w.heap.size + 1 + 1) s s1 kd k1 _ E1.out R1.out HX.out.rd).mono ?_
     rintro e w2 ⟨rfl, hr⟩
     have HX := Lib.hid (HX.out.read hr)
     have t0 := blk_cell HX.out.tx 0; have u0 := blk_frozen HX.out.tx 0; simp only [List.getElem?_toArray, List.getElem?_cons_zero, List.getElem?_cons_succ] at t0
     have t1 := blk_cell HX.out.tx 1; have u1 := blk_frozen HX.out.tx 1; simp only [List.getElem?_toArray, List.getElem?_cons_zero, List.getElem?_cons_succ] at t1
     have t2 := blk_cell HX.out.tx 2; have u2 := blk_frozen HX.out.tx 2; simp only [List.getElem?_toArray, List.getElem?_cons_zero, List.getElem?_cons_succ] at t2
     have t3 := blk_cell HX.out.tx 3; have u3 := blk_frozen HX.out.tx 3; simp only [List.getElem?_toArray, List.getElem?_cons_zero, List.getElem?_cons_succ] at t3
     have t4 := blk_cell HX.out.tx 4; have u4 := blk_frozen HX.out.tx 4; simp only [List.getElem?_toArray, List.getElem?_cons_zero, List.getElem?_cons_succ] at t4
     have t5 := blk_cell HX.out.tx 5; have u5 := blk_frozen HX.out.tx 5; simp only [List.getElem?_toArray, List.getElem?_cons_zero, List.getElem?_cons_succ] at t5
     have t6 := blk_cell HX.out.tx 6; have u6 := blk_frozen HX.out.tx 6; simp only [List.getElem?_toArray, List.getElem?_cons_zero, List.getElem?_cons_succ] at t6
     have t7 := blk_cell HX.out.tx 7; have u7 := blk_frozen HX.out.tx 7; simp only [List.getElem?_toArray, List.getElem?_cons_zero, List.getElem?_cons_succ] at t7
     have t8 := blk_cell HX.out.tx 8; have u8 := blk_frozen HX.out.tx 8; simp only [List.getElem?_toArray, List.getElem?_cons_zero, List.getElem?_cons_succ] at t8
     clear hr)
  | (go_at_call 53
     refine (text_ok' (w.heap.size + 1 + 1) s1 s2 f k2 _ Z1.out E2.out R2.out HX.out.rd).mono ?_
     rintro e w2 ⟨rfl, hr⟩
     have HX := Lib.hid (HX.out.read hr)
     have t0 := blk_cell HX.out.tx 0; have u0 := blk_frozen HX.out.tx 0; simp only [List.getElem?_toArray, List.getElem?_cons_zero, List.getElem?_cons_succ] at t0
     have t1 := blk_cell HX.out.tx 1; have u1 := blk_frozen HX.out.tx 1; simp only [List.getElem?_toArray, List.getElem?_cons_zero, List.getElem?_cons_succ] at t1
     have t2 := blk_cell HX.out.tx 2; have u2 := blk_frozen HX.out.tx 2; simp only [List.getElem?_toArray, List.getElem?_cons_zero, List.getElem?_cons_succ] at t2
     have t3 := blk_cell HX.out.tx 3; have u3 := blk_frozen HX.out.tx 3; simp only [List.getElem?_toArray, List.getElem?_cons_zero, List.getElem?_cons_succ] at t3
     have t4 := blk_cell HX.out.tx 4; have u4 := blk_frozen HX.out.tx 4; simp only [List.getElem?_toArray, List.getElem?_cons_zero, List.getElem?_cons_succ] at t4
     have t5 := blk_cell HX.out.tx 5; have u5 := blk_frozen HX.out.tx 5; simp only [List.getElem?_toArray, List.getElem?_cons_zero, List.getElem?_cons_succ] at t5
     have t6 := blk_cell HX.out.tx 6; have u6 := blk_frozen HX.out.tx 6; simp only [List.getElem?_toArray, List.getElem?_cons_zero, List.getElem?_cons_succ] at t6
     have t7 := blk_cell HX.out.tx 7; have u7 := blk_frozen HX.out.tx 7; simp only [List.getElem?_toArray, List.getElem?_cons_zero, List.getElem?_cons_succ] at t7
     have t8 := blk_cell HX.out.tx 8; have u8 := blk_frozen HX.out.tx 8; simp only [List.getElem?_toArray, List.getElem?_cons_zero, List.getElem?_cons_succ] at t8
     clear hr)
  | (go_at_call 53
     refine (text_ok' (w.heap.size + 1 + 1) s2 s3 t k3 _ Z2.out E3.out R3.out HX.out.rd).mono ?_
     rintro e w2 ⟨rfl, hr⟩
     have HX := Lib.hid (HX.out.read hr)
     have t0 := blk_cell HX.out.tx 0; have u0 := blk_frozen HX.out.tx 0; simp only [List.getElem?_toArray, List.getElem?_cons_zero, List.getElem?_cons_succ] at t0
     have t1 := blk_cell HX.out.tx 1; have u1 := blk_frozen HX.out.tx 1; simp only [List.getElem?_toArray, List.getElem?_cons_zero, List.getElem?_cons_succ] at t1
     have t2 := blk_cell HX.out.tx 2; have u2 := blk_frozen HX.out.tx 2; simp only [List.getElem?_toArray, List.getElem?_cons_zero, List.getElem?_cons_succ] at t2
     have t3 := blk_cell HX.out.tx 3; have u3 := blk_frozen HX.out.tx 3; simp only [List.getElem?_toArray, List.getElem?_cons_zero, List.getElem?_cons_succ] at t3
     have t4 := blk_cell HX.out.tx 4; have u4 := blk_frozen HX.out.tx 4; simp only [List.getElem?_toArray, List.getElem?_cons_zero, List.getElem?_cons_succ] at t4
     have t5 := blk_cell HX.out.tx 5; have u5 := blk_frozen HX.out.tx 5; simp only [List.getElem?_toArray, List.getElem?_cons_zero, List.getElem?_cons_succ] at t5
     have t6 := blk_cell HX.out.tx 6; have u6 := blk_frozen HX.out.tx 6; simp only [List.getElem?_toArray, List.getElem?_cons_zero, List.getElem?_cons_succ] at t6
     have t7 := blk_cell HX.out.tx 7; have u7 := blk_frozen HX.out.tx 7; simp only [List.getElem?_toArray, List.getElem?_cons_zero, List.getElem?_cons_succ] at t7
     have t8 := blk_cell HX.out.tx 8; have u8 := blk_frozen HX.out.tx 8; simp only [List.getElem?_toArray, List.getElem?_cons_zero, List.getElem?_cons_succ] at t8
     clear hr)
  | (go_at_call 52
     refine (int_ok' (w.heap.size + 1 + 1) s3 s4 am k4 _ E4.out R4.out ((HX.out.set1 (.string f)).set2 (.string t)).rd).mono ?_
     rintro e w2 ⟨rfl, hr⟩
     have HX := Lib.hid (((HX.out.set1 (.string f)).set2 (.string t)).read hr)
     have t0 := blk_cell HX.out.tx 0; have u0 := blk_frozen HX.out.tx 0; simp only [List.getElem?_toArray, List.getElem?_cons_zero, List.getElem?_cons_succ] at t0
     have t1 := blk_cell HX.out.tx 1; have u1 := blk_frozen HX.out.tx 1; simp only [List.getElem?_toArray, List.getElem?_cons_zero, List.getElem?_cons_succ] at t1
     have t2 := blk_cell HX.out.tx 2; have u2 := blk_frozen HX.out.tx 2; simp only [List.getElem?_toArray, List.getElem?_cons_zero, List.getElem?_cons_succ] at t2
     have t3 := blk_cell HX.out.tx 3; have u3 := blk_frozen HX.out.tx 3; simp only [List.getElem?_toArray, List.getElem?_cons_zero, List.getElem?_cons_succ] at t3
     have t4 := blk_cell HX.out.tx 4; have u4 := blk_frozen HX.out.tx 4; simp only [List.getElem?_toArray, List.getElem?_cons_zero, List.getElem?_cons_succ] at t4
     have t5 := blk_cell HX.out.tx 5; have u5 := blk_frozen HX.out.tx 5; simp only [List.getElem?_toArray, List.getElem?_cons_zero, List.getElem?_cons_succ] at t5
     have t6 := blk_cell HX.out.tx 6; have u6 := blk_frozen HX.out.tx 6; simp only [List.getElem?_toArray, List.getElem?_cons_zero, List.getElem?_cons_succ] at t6
     have t7 := blk_cell HX.out.tx 7; have u7 := blk_frozen HX.out.tx 7; simp only [List.getElem?_toArray, List.getElem?_cons_zero, List.getElem?_cons_succ] at t7
     have t8 := blk_cell HX.out.tx 8; have u8 := blk_frozen HX.out.tx 8; simp only [List.getElem?_toArray, List.getElem?_cons_zero, List.getElem?_cons_succ] at t8
     clear hr)
  | (go_at_call 52
     refine (int_no (w.heap.size + 1 + 1) s4 _ HX.out.rd HN.out).mono ?_
     rintro e w2 ⟨rfl, hB⟩
     have HX := Lib.hid (HX.out.step hB)
     clear hB))
  refine leaves_cons (f := 51) (args := #[.pointer (some ⟨w.heap.size + 1, 0, none⟩)]) (by simp) (by simp [go_sem]) ?_
  refine (caught_panicking ⟨w.heap.size + 1, 0, none⟩ 0 (gi s4 9 0 0).2.2 [] _ (blk_cell HX.out.er 0) (blk_frozen HX.out.er 0)).mono ?_
  rintro e u' w'' ⟨rfl, rfl, rfl⟩
  refine leaves_cons (f := 50) (args := #[.pointer (some ⟨w.heap.size + 1, 0, none⟩), .pointer (some ⟨w.heap.size, 0, none⟩)]) (by simp [settle]) (by simp [go_sem]) ?_
  have hdied := HX.out.died (gi s4 9 0 0).2.2
  refine (undo_yes (w.heap.size + 1) w.heap.size (gi s4 9 0 0).2.2 HN.out _ _ _ _ _ _ _ _ _ _ hdied.1 hdied.2.1).mono ?_
  rintro e u' w'' ⟨rfl, rfl, rfl⟩
  have hz := zset_box _ w.heap.size _ _ _ _ _ _ _ _ _ hdied.2.1
  have hze := (zset_blk _ w.heap.size (w.heap.size + 1) (by omega)).trans hdied.1
  have hzb := zset_below hdied.2.2 (Nat.le_refl _)
  generalize zset _ w.heap.size = Z at hz hze hzb ⊢
  have d0 : Z.cell? ⟨w.heap.size, 0, none⟩ = some (.int .i64 0) := blk_cell hz 0
  have d1 : Z.cell? ⟨w.heap.size, 1, none⟩ = some (.string ⟨#[]⟩) := blk_cell hz 1
  have d2 : Z.cell? ⟨w.heap.size, 2, none⟩ = some (.string ⟨#[]⟩) := blk_cell hz 2
  have d3 : Z.cell? ⟨w.heap.size, 3, none⟩ = some (.int .u64 0) := blk_cell hz 3
  have d4 : Z.cell? ⟨w.heap.size, 4, none⟩ = some (.int .u64 0) := blk_cell hz 4
  have d5 : Z.cell? ⟨w.heap.size, 5, none⟩ = some (.string ⟨#[]⟩) := blk_cell hz 5
  have d6 : Z.cell? ⟨w.heap.size, 6, none⟩ = some (.string ⟨#[]⟩) := blk_cell hz 6
  have d7 : Z.cell? ⟨w.heap.size, 7, none⟩ = some (.slice none 0 0) := blk_cell hz 7
  have d8 : Z.cell? ⟨w.heap.size, 8, none⟩ = some (.slice none 0 0) := blk_cell hz 8
  have de : Z.cell? ⟨w.heap.size + 1, 0, none⟩ = some (.int .i64 ((gi s4 9 0 0).2.2)) := blk_cell hze 0
  clear hz hze hdied
  have HZ := Lib.hid hzb
  clear hzb
  simp [Leaves, settle, results, Tryd.results25, go_sem, d0, d1, d2, d3, d4, d5, d6, d7, d8, de]
  exact ⟨rfl, HZ.out⟩
set_option maxHeartbeats 8000000 in
set_option maxRecDepth 100000 in
theorem dec_no6 (s s1 s2 s3 s4 s5 : ByteArray) (kd : Int) (k1 : Int) (f : ByteArray) (k2 : Int) (t : ByteArray) (k3 : Int) (am : Int) (k4 : Int) (nc : Int) (k5 : Int) (w : World) (E1 : Hid (gi s 9 0 0 = (kd, k1, 0))) (R1 : Hid (rest s k1 = s1)) (Z1 : Hid (s1.size < 4611686018427387904)) (E2 : Hid (gt s1 = (f, k2, 0))) (R2 : Hid (rest s1 k2 = s2)) (Z2 : Hid (s2.size < 4611686018427387904)) (E3 : Hid (gt s2 = (t, k3, 0))) (R3 : Hid (rest s2 k3 = s3)) (Z3 : Hid (s3.size < 4611686018427387904)) (E4 : Hid (gi s3 9 0 0 = (am, k4, 0))) (R4 : Hid (rest s3 k4 = s4)) (Z4 : Hid (s4.size < 4611686018427387904)) (E5 : Hid (gi s4 9 0 0 = (nc, k5, 0))) (R5 : Hid (rest s4 k5 = s5)) (Z5 : Hid (s5.size < 4611686018427387904)) (HN : Hid ((gt s5).2.2 ≠ 0)) :
    Calls Tryd.prog 25 #[.string s] w fun e w' => e = .returned (.tuple #[zagg, .int .i64 (gt s5).2.2]) ∧ Below w.heap.size w w' := by
  have hmf : ∀ (fn : Fn) (first cap : Array Value) (w : World), (Instr.makeFunc fn first cap).run Tryd.prog w = .ok (.func fn first cap) w := fun _ _ _ _ => rfl
  go_enter_defers Tryd.func25, Tryd.ntmps25
  have HX := Lib.hid (Dx.first w s)
  go_wp2_with (first
  | (go_at_call 52
     refine (int_ok' (w.heap.size + 1 + 1) s s1 kd k1 _ E1.out R1.out HX.out.rd).mono ?_
     rintro e w2 ⟨rfl, hr⟩
     have HX := Lib.hid (HX.out.read hr)
     have t0 := blk_cell HX.out.tx 0; have u0 := blk_frozen HX.out.tx 0; simp only [List.getElem?_toArray, List.getElem?_cons_zero, List.getElem?_cons_succ] at t0
     have t1 := blk_cell HX.out.tx 1; have u1 := blk_frozen HX.out.tx 1; simp only [List.getElem?_toArray, List.getElem?_cons_zero, List.getElem?_cons_succ] at t1
     have t2 := blk_cell HX.out.tx 2; have u2 := blk_frozen HX.out.tx 2; simp only [List.getElem?_toArray, List.getElem?_cons_zero, List.getElem?_cons_succ] at t2
     have t3 := blk_cell HX.out.tx 3; have u3 := blk_frozen HX.out.tx 3; simp only [List.getElem?_toArray, List.getElem?_cons_zero, List.getElem?_cons_succ] at t3
     have t4 := blk_cell HX.out.tx 4; have u4 := blk_frozen HX.out.tx 4; simp only [List.getElem?_toArray, List.getElem?_cons_zero, List.getElem?_cons_succ] at t4
     have t5 := blk_cell HX.out.tx 5; have u5 := blk_frozen HX.out.tx 5; simp only [List.getElem?_toArray, List.getElem?_cons_zero, List.getElem?_cons_succ] at t5
     have t6 := blk_cell HX.out.tx 6; have u6 := blk_frozen HX.out.tx 6; simp only [List.getElem?_toArray, List.getElem?_cons_zero, List.getElem?_cons_succ] at t6
     have t7 := blk_cell HX.out.tx 7; have u7 := blk_frozen HX.out.tx 7; simp only [List.getElem?_toArray, List.getElem?_cons_zero, List.getElem?_cons_succ] at t7
     have t8 := blk_cell HX.out.tx 8; have u8 := blk_frozen HX.out.tx 8; simp only [List.getElem?_toArray, List.getElem?_cons_zero, List.getElem?_cons_succ] at t8
     clear hr)
  | (go_at_call 53
     refine (text_ok' (w.heap.size + 1 + 1) s1 s2 f k2 _ Z1.out E2.out R2.out HX.out.rd).mono ?_
     rintro e w2 ⟨rfl, hr⟩
     have HX := Lib.hid (HX.out.read hr)
     have t0 := blk_cell HX.out.tx 0; have u0 := blk_frozen HX.out.tx 0; simp only [List.getElem?_toArray, List.getElem?_cons_zero, List.getElem?_cons_succ] at t0
     have t1 := blk_cell HX.out.tx 1; have u1 := blk_frozen HX.out.tx 1; simp only [List.getElem?_toArray, List.getElem?_cons_zero, List.getElem?_cons_succ] at t1
     have t2 := blk_cell HX.out.tx 2; have u2 := blk_frozen HX.out.tx 2; simp only [List.getElem?_toArray, List.getElem?_cons_zero, List.getElem?_cons_succ] at t2
     have t3 := blk_cell HX.out.tx 3; have u3 := blk_frozen HX.out.tx 3; simp only [List.getElem?_toArray, List.getElem?_cons_zero, List.getElem?_cons_succ] at t3
     have t4 := blk_cell HX.out.tx 4; have u4 := blk_frozen HX.out.tx 4; simp only [List.getElem?_toArray, List.getElem?_cons_zero, List.getElem?_cons_succ] at t4
     have t5 := blk_cell HX.out.tx 5; have u5 := blk_frozen HX.out.tx 5; simp only [List.getElem?_toArray, List.getElem?_cons_zero, List.getElem?_cons_succ] at t5
     have t6 := blk_cell HX.out.tx 6; have u6 := blk_frozen HX.out.tx 6; simp only [List.getElem?_toArray, List.getElem?_cons_zero, List.getElem?_cons_succ] at t6
     have t7 := blk_cell HX.out.tx 7; have u7 := blk_frozen HX.out.tx 7; simp only [List.getElem?_toArray, List.getElem?_cons_zero, List.getElem?_cons_succ] at t7
     have t8 := blk_cell HX.out.tx 8; have u8 := blk_frozen HX.out.tx 8; simp only [List.getElem?_toArray, List.getElem?_cons_zero, List.getElem?_cons_succ] at t8
     clear hr)
  | (go_at_call 53
     refine (text_ok' (w.heap.size + 1 + 1) s2 s3 t k3 _ Z2.out E3.out R3.out HX.out.rd).mono ?_
     rintro e w2 ⟨rfl, hr⟩
     have HX := Lib.hid (HX.out.read hr)
     have t0 := blk_cell HX.out.tx 0; have u0 := blk_frozen HX.out.tx 0; simp only [List.getElem?_toArray, List.getElem?_cons_zero, List.getElem?_cons_succ] at t0
     have t1 := blk_cell HX.out.tx 1; have u1 := blk_frozen HX.out.tx 1; simp only [List.getElem?_toArray, List.getElem?_cons_zero, List.getElem?_cons_succ] at t1
     have t2 := blk_cell HX.out.tx 2; have u2 := blk_frozen HX.out.tx 2; simp only [List.getElem?_toArray, List.getElem?_cons_zero, List.getElem?_cons_succ] at t2
     have t3 := blk_cell HX.out.tx 3; have u3 := blk_frozen HX.out.tx 3; simp only [List.getElem?_toArray, List.getElem?_cons_zero, List.getElem?_cons_succ] at t3
     have t4 := blk_cell HX.out.tx 4; have u4 := blk_frozen HX.out.tx 4; simp only [List.getElem?_toArray, List.getElem?_cons_zero, List.getElem?_cons_succ] at t4
     have t5 := blk_cell HX.out.tx 5; have u5 := blk_frozen HX.out.tx 5; simp only [List.getElem?_toArray, List.getElem?_cons_zero, List.getElem?_cons_succ] at t5
     have t6 := blk_cell HX.out.tx 6; have u6 := blk_frozen HX.out.tx 6; simp only [List.getElem?_toArray, List.getElem?_cons_zero, List.getElem?_cons_succ] at t6
     have t7 := blk_cell HX.out.tx 7; have u7 := blk_frozen HX.out.tx 7; simp only [List.getElem?_toArray, List.getElem?_cons_zero, List.getElem?_cons_succ] at t7
     have t8 := blk_cell HX.out.tx 8; have u8 := blk_frozen HX.out.tx 8; simp only [List.getElem?_toArray, List.getElem?_cons_zero, List.getElem?_cons_succ] at t8
     clear hr)
  | (go_at_call 52
     refine (int_ok' (w.heap.size + 1 + 1) s3 s4 am k4 _ E4.out R4.out ((HX.out.set1 (.string f)).set2 (.string t)).rd).mono ?_
     rintro e w2 ⟨rfl, hr⟩
     have HX := Lib.hid (((HX.out.set1 (.string f)).set2 (.string t)).read hr)
     have t0 := blk_cell HX.out.tx 0; have u0 := blk_frozen HX.out.tx 0; simp only [List.getElem?_toArray, List.getElem?_cons_zero, List.getElem?_cons_succ] at t0
     have t1 := blk_cell HX.out.tx 1; have u1 := blk_frozen HX.out.tx 1; simp only [List.getElem?_toArray, List.getElem?_cons_zero, List.getElem?_cons_succ] at t1
     have t2 := blk_cell HX.out.tx 2; have u2 := blk_frozen HX.out.tx 2; simp only [List.getElem?_toArray, List.getElem?_cons_zero, List.getElem?_cons_succ] at t2
     have t3 := blk_cell HX.out.tx 3; have u3 := blk_frozen HX.out.tx 3; simp only [List.getElem?_toArray, List.getElem?_cons_zero, List.getElem?_cons_succ] at t3
     have t4 := blk_cell HX.out.tx 4; have u4 := blk_frozen HX.out.tx 4; simp only [List.getElem?_toArray, List.getElem?_cons_zero, List.getElem?_cons_succ] at t4
     have t5 := blk_cell HX.out.tx 5; have u5 := blk_frozen HX.out.tx 5; simp only [List.getElem?_toArray, List.getElem?_cons_zero, List.getElem?_cons_succ] at t5
     have t6 := blk_cell HX.out.tx 6; have u6 := blk_frozen HX.out.tx 6; simp only [List.getElem?_toArray, List.getElem?_cons_zero, List.getElem?_cons_succ] at t6
     have t7 := blk_cell HX.out.tx 7; have u7 := blk_frozen HX.out.tx 7; simp only [List.getElem?_toArray, List.getElem?_cons_zero, List.getElem?_cons_succ] at t7
     have t8 := blk_cell HX.out.tx 8; have u8 := blk_frozen HX.out.tx 8; simp only [List.getElem?_toArray, List.getElem?_cons_zero, List.getElem?_cons_succ] at t8
     clear hr)
  | (go_at_call 52
     refine (int_ok' (w.heap.size + 1 + 1) s4 s5 nc k5 _ E5.out R5.out HX.out.rd).mono ?_
     rintro e w2 ⟨rfl, hr⟩
     have HX := Lib.hid (HX.out.read hr)
     have t0 := blk_cell HX.out.tx 0; have u0 := blk_frozen HX.out.tx 0; simp only [List.getElem?_toArray, List.getElem?_cons_zero, List.getElem?_cons_succ] at t0
     have t1 := blk_cell HX.out.tx 1; have u1 := blk_frozen HX.out.tx 1; simp only [List.getElem?_toArray, List.getElem?_cons_zero, List.getElem?_cons_succ] at t1
     have t2 := blk_cell HX.out.tx 2; have u2 := blk_frozen HX.out.tx 2; simp only [List.getElem?_toArray, List.getElem?_cons_zero, List.getElem?_cons_succ] at t2
     have t3 := blk_cell HX.out.tx 3; have u3 := blk_frozen HX.out.tx 3; simp only [List.getElem?_toArray, List.getElem?_cons_zero, List.getElem?_cons_succ] at t3
     have t4 := blk_cell HX.out.tx 4; have u4 := blk_frozen HX.out.tx 4; simp only [List.getElem?_toArray, List.getElem?_cons_zero, List.getElem?_cons_succ] at t4
     have t5 := blk_cell HX.out.tx 5; have u5 := blk_frozen HX.out.tx 5; simp only [List.getElem?_toArray, List.getElem?_cons_zero, List.getElem?_cons_succ] at t5
     have t6 := blk_cell HX.out.tx 6; have u6 := blk_frozen HX.out.tx 6; simp only [List.getElem?_toArray, List.getElem?_cons_zero, List.getElem?_cons_succ] at t6
     have t7 := blk_cell HX.out.tx 7; have u7 := blk_frozen HX.out.tx 7; simp only [List.getElem?_toArray, List.getElem?_cons_zero, List.getElem?_cons_succ] at t7
     have t8 := blk_cell HX.out.tx 8; have u8 := blk_frozen HX.out.tx 8; simp only [List.getElem?_toArray, List.getElem?_cons_zero, List.getElem?_cons_succ] at t8
     clear hr)
  | (go_at_call 53
     refine (text_no (w.heap.size + 1 + 1) s5 _ Z5.out ((HX.out.set3 (.int .u64 am)).set4 (.int .u64 nc)).rd HN.out).mono ?_
     rintro e w2 ⟨rfl, hB⟩
     have HX := Lib.hid (((HX.out.set3 (.int .u64 am)).set4 (.int .u64 nc)).step hB)
     clear hB))
  refine leaves_cons (f := 51) (args := #[.pointer (some ⟨w.heap.size + 1, 0, none⟩)]) (by simp) (by simp [go_sem]) ?_
  refine (caught_panicking ⟨w.heap.size + 1, 0, none⟩ 0 (gt s5).2.2 [] _ (blk_cell HX.out.er 0) (blk_frozen HX.out.er 0)).mono ?_
  rintro e u' w'' ⟨rfl, rfl, rfl⟩
  refine leaves_cons (f := 50) (args := #[.pointer (some ⟨w.heap.size + 1, 0, none⟩), .pointer (some ⟨w.heap.size, 0, none⟩)]) (by simp [settle]) (by simp [go_sem]) ?_
  have hdied := HX.out.died (gt s5).2.2
  refine (undo_yes (w.heap.size + 1) w.heap.size (gt s5).2.2 HN.out _ _ _ _ _ _ _ _ _ _ hdied.1 hdied.2.1).mono ?_
  rintro e u' w'' ⟨rfl, rfl, rfl⟩
  have hz := zset_box _ w.heap.size _ _ _ _ _ _ _ _ _ hdied.2.1
  have hze := (zset_blk _ w.heap.size (w.heap.size + 1) (by omega)).trans hdied.1
  have hzb := zset_below hdied.2.2 (Nat.le_refl _)
  generalize zset _ w.heap.size = Z at hz hze hzb ⊢
  have d0 : Z.cell? ⟨w.heap.size, 0, none⟩ = some (.int .i64 0) := blk_cell hz 0
  have d1 : Z.cell? ⟨w.heap.size, 1, none⟩ = some (.string ⟨#[]⟩) := blk_cell hz 1
  have d2 : Z.cell? ⟨w.heap.size, 2, none⟩ = some (.string ⟨#[]⟩) := blk_cell hz 2
  have d3 : Z.cell? ⟨w.heap.size, 3, none⟩ = some (.int .u64 0) := blk_cell hz 3
  have d4 : Z.cell? ⟨w.heap.size, 4, none⟩ = some (.int .u64 0) := blk_cell hz 4
  have d5 : Z.cell? ⟨w.heap.size, 5, none⟩ = some (.string ⟨#[]⟩) := blk_cell hz 5
  have d6 : Z.cell? ⟨w.heap.size, 6, none⟩ = some (.string ⟨#[]⟩) := blk_cell hz 6
  have d7 : Z.cell? ⟨w.heap.size, 7, none⟩ = some (.slice none 0 0) := blk_cell hz 7
  have d8 : Z.cell? ⟨w.heap.size, 8, none⟩ = some (.slice none 0 0) := blk_cell hz 8
  have de : Z.cell? ⟨w.heap.size + 1, 0, none⟩ = some (.int .i64 ((gt s5).2.2)) := blk_cell hze 0
  clear hz hze hdied
  have HZ := Lib.hid hzb
  clear hzb
  simp [Leaves, settle, results, Tryd.results25, go_sem, d0, d1, d2, d3, d4, d5, d6, d7, d8, de]
  exact ⟨rfl, HZ.out⟩
set_option maxHeartbeats 8000000 in
set_option maxRecDepth 100000 in
theorem dec_no7 (s s1 s2 s3 s4 s5 s6 : ByteArray) (kd : Int) (k1 : Int) (f : ByteArray) (k2 : Int) (t : ByteArray) (k3 : Int) (am : Int) (k4 : Int) (nc : Int) (k5 : Int) (ky' : ByteArray) (k6 : Int) (w : World) (E1 : Hid (gi s 9 0 0 = (kd, k1, 0))) (R1 : Hid (rest s k1 = s1)) (Z1 : Hid (s1.size < 4611686018427387904)) (E2 : Hid (gt s1 = (f, k2, 0))) (R2 : Hid (rest s1 k2 = s2)) (Z2 : Hid (s2.size < 4611686018427387904)) (E3 : Hid (gt s2 = (t, k3, 0))) (R3 : Hid (rest s2 k3 = s3)) (Z3 : Hid (s3.size < 4611686018427387904)) (E4 : Hid (gi s3 9 0 0 = (am, k4, 0))) (R4 : Hid (rest s3 k4 = s4)) (Z4 : Hid (s4.size < 4611686018427387904)) (E5 : Hid (gi s4 9 0 0 = (nc, k5, 0))) (R5 : Hid (rest s4 k5 = s5)) (Z5 : Hid (s5.size < 4611686018427387904)) (E6 : Hid (gt s5 = (ky', k6, 0))) (R6 : Hid (rest s5 k6 = s6)) (Z6 : Hid (s6.size < 4611686018427387904)) (HN : Hid ((gt s6).2.2 ≠ 0)) :
    Calls Tryd.prog 25 #[.string s] w fun e w' => e = .returned (.tuple #[zagg, .int .i64 (gt s6).2.2]) ∧ Below w.heap.size w w' := by
  have hmf : ∀ (fn : Fn) (first cap : Array Value) (w : World), (Instr.makeFunc fn first cap).run Tryd.prog w = .ok (.func fn first cap) w := fun _ _ _ _ => rfl
  go_enter_defers Tryd.func25, Tryd.ntmps25
  have HX := Lib.hid (Dx.first w s)
  go_wp2_with (first
  | (go_at_call 52
     refine (int_ok' (w.heap.size + 1 + 1) s s1 kd k1 _ E1.out R1.out HX.out.rd).mono ?_
     rintro e w2 ⟨rfl, hr⟩
     have HX := Lib.hid (HX.out.read hr)
     have t0 := blk_cell HX.out.tx 0; have u0 := blk_frozen HX.out.tx 0; simp only [List.getElem?_toArray, List.getElem?_cons_zero, List.getElem?_cons_succ] at t0
     have t1 := blk_cell HX.out.tx 1; have u1 := blk_frozen HX.out.tx 1; simp only [List.getElem?_toArray, List.getElem?_cons_zero, List.getElem?_cons_succ] at t1
     have t2 := blk_cell HX.out.tx 2; have u2 := blk_frozen HX.out.tx 2; simp only [List.getElem?_toArray, List.getElem?_cons_zero, List.getElem?_cons_succ] at t2
     have t3 := blk_cell HX.out.tx 3; have u3 := blk_frozen HX.out.tx 3; simp only [List.getElem?_toArray, List.getElem?_cons_zero, List.getElem?_cons_succ] at t3
     have t4 := blk_cell HX.out.tx 4; have u4 := blk_frozen HX.out.tx 4; simp only [List.getElem?_toArray, List.getElem?_cons_zero, List.getElem?_cons_succ] at t4
     have t5 := blk_cell HX.out.tx 5; have u5 := blk_frozen HX.out.tx 5; simp only [List.getElem?_toArray, List.getElem?_cons_zero, List.getElem?_cons_succ] at t5
     have t6 := blk_cell HX.out.tx 6; have u6 := blk_frozen HX.out.tx 6; simp only [List.getElem?_toArray, List.getElem?_cons_zero, List.getElem?_cons_succ] at t6
     have t7 := blk_cell HX.out.tx 7; have u7 := blk_frozen HX.out.tx 7; simp only [List.getElem?_toArray, List.getElem?_cons_zero, List.getElem?_cons_succ] at t7
     have t8 := blk_cell HX.out.tx 8; have u8 := blk_frozen HX.out.tx 8; simp only [List.getElem?_toArray, List.getElem?_cons_zero, List.getElem?_cons_succ] at t8
     clear hr)
  | (go_at_call 53
     refine (text_ok' (w.heap.size + 1 + 1) s1 s2 f k2 _ Z1.out E2.out R2.out HX.out.rd).mono ?_
     rintro e w2 ⟨rfl, hr⟩
     have HX := Lib.hid (HX.out.read hr)
     have t0 := blk_cell HX.out.tx 0; have u0 := blk_frozen HX.out.tx 0; simp only [List.getElem?_toArray, List.getElem?_cons_zero, List.getElem?_cons_succ] at t0
     have t1 := blk_cell HX.out.tx 1; have u1 := blk_frozen HX.out.tx 1; simp only [List.getElem?_toArray, List.getElem?_cons_zero, List.getElem?_cons_succ] at t1
     have t2 := blk_cell HX.out.tx 2; have u2 := blk_frozen HX.out.tx 2; simp only [List.getElem?_toArray, List.getElem?_cons_zero, List.getElem?_cons_succ] at t2
     have t3 := blk_cell HX.out.tx 3; have u3 := blk_frozen HX.out.tx 3; simp only [List.getElem?_toArray, List.getElem?_cons_zero, List.getElem?_cons_succ] at t3
     have t4 := blk_cell HX.out.tx 4; have u4 := blk_frozen HX.out.tx 4; simp only [List.getElem?_toArray, List.getElem?_cons_zero, List.getElem?_cons_succ] at t4
     have t5 := blk_cell HX.out.tx 5; have u5 := blk_frozen HX.out.tx 5; simp only [List.getElem?_toArray, List.getElem?_cons_zero, List.getElem?_cons_succ] at t5
     have t6 := blk_cell HX.out.tx 6; have u6 := blk_frozen HX.out.tx 6; simp only [List.getElem?_toArray, List.getElem?_cons_zero, List.getElem?_cons_succ] at t6
     have t7 := blk_cell HX.out.tx 7; have u7 := blk_frozen HX.out.tx 7; simp only [List.getElem?_toArray, List.getElem?_cons_zero, List.getElem?_cons_succ] at t7
     have t8 := blk_cell HX.out.tx 8; have u8 := blk_frozen HX.out.tx 8; simp only [List.getElem?_toArray, List.getElem?_cons_zero, List.getElem?_cons_succ] at t8
     clear hr)
  | (go_at_call 53
     refine (text_ok' (w.heap.size + 1 + 1) s2 s3 t k3 _ Z2.out E3.out R3.out HX.out.rd).mono ?_
     rintro e w2 ⟨rfl, hr⟩
     have HX := Lib.hid (HX.out.read hr)
     have t0 := blk_cell HX.out.tx 0; have u0 := blk_frozen HX.out.tx 0; simp only [List.getElem?_toArray, List.getElem?_cons_zero, List.getElem?_cons_succ] at t0
     have t1 := blk_cell HX.out.tx 1; have u1 := blk_frozen HX.out.tx 1; simp only [List.getElem?_toArray, List.getElem?_cons_zero, List.getElem?_cons_succ] at t1
     have t2 := blk_cell HX.out.tx 2; have u2 := blk_frozen HX.out.tx 2; simp only [List.getElem?_toArray, List.getElem?_cons_zero, List.getElem?_cons_succ] at t2
     have t3 := blk_cell HX.out.tx 3; have u3 := blk_frozen HX.out.tx 3; simp only [List.getElem?_toArray, List.getElem?_cons_zero, List.getElem?_cons_succ] at t3
     have t4 := blk_cell HX.out.tx 4; have u4 := blk_frozen HX.out.tx 4; simp only [List.getElem?_toArray, List.getElem?_cons_zero, List.getElem?_cons_succ] at t4
     have t5 := blk_cell HX.out.tx 5; have u5 := blk_frozen HX.out.tx 5; simp only [List.getElem?_toArray, List.getElem?_cons_zero, List.getElem?_cons_succ] at t5
     have t6 := blk_cell HX.out.tx 6; have u6 := blk_frozen HX.out.tx 6; simp only [List.getElem?_toArray, List.getElem?_cons_zero, List.getElem?_cons_succ] at t6
     have t7 := blk_cell HX.out.tx 7; have u7 := blk_frozen HX.out.tx 7; simp only [List.getElem?_toArray, List.getElem?_cons_zero, List.getElem?_cons_succ] at t7
     have t8 := blk_cell HX.out.tx 8; have u8 := blk_frozen HX.out.tx 8; simp only [List.getElem?_toArray, List.getElem?_cons_zero, List.getElem?_cons_succ] at t8
     clear hr)
  | (go_at_call 52
     refine (int_ok' (w.heap.size + 1 + 1) s3 s4 am k4 _ E4.out R4.out ((HX.out.set1 (.string f)).set2 (.string t)).rd).mono ?_
     rintro e w2 ⟨rfl, hr⟩
     have HX := Lib.hid (((HX.out.set1 (.string f)).set2 (.string t)).read hr)
     have t0 := blk_cell HX.out.tx 0; have u0 := blk_frozen HX.out.tx 0; simp only [List.getElem?_toArray, List.getElem?_cons_zero, List.getElem?_cons_succ] at t0
     have t1 := blk_cell HX.out.tx 1; have u1 := blk_frozen HX.out.tx 1; simp only [List.getElem?_toArray, List.getElem?_cons_zero, List.getElem?_cons_succ] at t1
     have t2 := blk_cell HX.out.tx 2; have u2 := blk_frozen HX.out.tx 2; simp only [List.getElem?_toArray, List.getElem?_cons_zero, List.getElem?_cons_succ] at t2
     have t3 := blk_cell HX.out.tx 3; have u3 := blk_frozen HX.out.tx 3; simp only [List.getElem?_toArray, List.getElem?_cons_zero, List.getElem?_cons_succ] at t3
     have t4 := blk_cell HX.out.tx 4; have u4 := blk_frozen HX.out.tx 4; simp only [List.getElem?_toArray, List.getElem?_cons_zero, List.getElem?_cons_succ] at t4
     have t5 := blk_cell HX.out.tx 5; have u5 := blk_frozen HX.out.tx 5; simp only [List.getElem?_toArray, List.getElem?_cons_zero, List.getElem?_cons_succ] at t5
     have t6 := blk_cell HX.out.tx 6; have u6 := blk_frozen HX.out.tx 6; simp only [List.getElem?_toArray, List.getElem?_cons_zero, List.getElem?_cons_succ] at t6
     have t7 := blk_cell HX.out.tx 7; have u7 := blk_frozen HX.out.tx 7; simp only [List.getElem?_toArray, List.getElem?_cons_zero, List.getElem?_cons_succ] at t7
     have t8 := blk_cell HX.out.tx 8; have u8 := blk_frozen HX.out.tx 8; simp only [List.getElem?_toArray, List.getElem?_cons_zero, List.getElem?_cons_succ] at t8
     clear hr)
  | (go_at_call 52
     refine (int_ok' (w.heap.size + 1 + 1) s4 s5 nc k5 _ E5.out R5.out HX.out.rd).mono ?_
     rintro e w2 ⟨rfl, hr⟩
     have HX := Lib.hid (HX.out.read hr)
     have t0 := blk_cell HX.out.tx 0; have u0 := blk_frozen HX.out.tx 0; simp only [List.getElem?_toArray, List.getElem?_cons_zero, List.getElem?_cons_succ] at t0
     have t1 := blk_cell HX.out.tx 1; have u1 := blk_frozen HX.out.tx 1; simp only [List.getElem?_toArray, List.getElem?_cons_zero, List.getElem?_cons_succ] at t1
     have t2 := blk_cell HX.out.tx 2; have u2 := blk_frozen HX.out.tx 2; simp only [List.getElem?_toArray, List.getElem?_cons_zero, List.getElem?_cons_succ] at t2
     have t3 := blk_cell HX.out.tx 3; have u3 := blk_frozen HX.out.tx 3; simp only [List.getElem?_toArray, List.getElem?_cons_zero, List.getElem?_cons_succ] at t3
     have t4 := blk_cell HX.out.tx 4; have u4 := blk_frozen HX.out.tx 4; simp only [List.getElem?_toArray, List.getElem?_cons_zero, List.getElem?_cons_succ] at t4
     have t5 := blk_cell HX.out.tx 5; have u5 := blk_frozen HX.out.tx 5; simp only [List.getElem?_toArray, List.getElem?_cons_zero, List.getElem?_cons_succ] at t5
     have t6 := blk_cell HX.out.tx 6; have u6 := blk_frozen HX.out.tx 6; simp only [List.getElem?_toArray, List.getElem?_cons_zero, List.getElem?_cons_succ] at t6
     have t7 := blk_cell HX.out.tx 7; have u7 := blk_frozen HX.out.tx 7; simp only [List.getElem?_toArray, List.getElem?_cons_zero, List.getElem?_cons_succ] at t7
     have t8 := blk_cell HX.out.tx 8; have u8 := blk_frozen HX.out.tx 8; simp only [List.getElem?_toArray, List.getElem?_cons_zero, List.getElem?_cons_succ] at t8
     clear hr)
  | (go_at_call 53
     refine (text_ok' (w.heap.size + 1 + 1) s5 s6 ky' k6 _ Z5.out E6.out R6.out ((HX.out.set3 (.int .u64 am)).set4 (.int .u64 nc)).rd).mono ?_
     rintro e w2 ⟨rfl, hr⟩
     have HX := Lib.hid (((HX.out.set3 (.int .u64 am)).set4 (.int .u64 nc)).read hr)
     have t0 := blk_cell HX.out.tx 0; have u0 := blk_frozen HX.out.tx 0; simp only [List.getElem?_toArray, List.getElem?_cons_zero, List.getElem?_cons_succ] at t0
     have t1 := blk_cell HX.out.tx 1; have u1 := blk_frozen HX.out.tx 1; simp only [List.getElem?_toArray, List.getElem?_cons_zero, List.getElem?_cons_succ] at t1
     have t2 := blk_cell HX.out.tx 2; have u2 := blk_frozen HX.out.tx 2; simp only [List.getElem?_toArray, List.getElem?_cons_zero, List.getElem?_cons_succ] at t2
     have t3 := blk_cell HX.out.tx 3; have u3 := blk_frozen HX.out.tx 3; simp only [List.getElem?_toArray, List.getElem?_cons_zero, List.getElem?_cons_succ] at t3
     have t4 := blk_cell HX.out.tx 4; have u4 := blk_frozen HX.out.tx 4; simp only [List.getElem?_toArray, List.getElem?_cons_zero, List.getElem?_cons_succ] at t4
     have t5 := blk_cell HX.out.tx 5; have u5 := blk_frozen HX.out.tx 5; simp only [List.getElem?_toArray, List.getElem?_cons_zero, List.getElem?_cons_succ] at t5
     have t6 := blk_cell HX.out.tx 6; have u6 := blk_frozen HX.out.tx 6; simp only [List.getElem?_toArray, List.getElem?_cons_zero, List.getElem?_cons_succ] at t6
     have t7 := blk_cell HX.out.tx 7; have u7 := blk_frozen HX.out.tx 7; simp only [List.getElem?_toArray, List.getElem?_cons_zero, List.getElem?_cons_succ] at t7
     have t8 := blk_cell HX.out.tx 8; have u8 := blk_frozen HX.out.tx 8; simp only [List.getElem?_toArray, List.getElem?_cons_zero, List.getElem?_cons_succ] at t8
     clear hr)
  | (go_at_call 53
     refine (text_no (w.heap.size + 1 + 1) s6 _ Z6.out HX.out.rd HN.out).mono ?_
     rintro e w2 ⟨rfl, hB⟩
     have HX := Lib.hid (HX.out.step hB)
     clear hB))
  refine leaves_cons (f := 51) (args := #[.pointer (some ⟨w.heap.size + 1, 0, none⟩)]) (by simp) (by simp [go_sem]) ?_
  refine (caught_panicking ⟨w.heap.size + 1, 0, none⟩ 0 (gt s6).2.2 [] _ (blk_cell HX.out.er 0) (blk_frozen HX.out.er 0)).mono ?_
  rintro e u' w'' ⟨rfl, rfl, rfl⟩
  refine leaves_cons (f := 50) (args := #[.pointer (some ⟨w.heap.size + 1, 0, none⟩), .pointer (some ⟨w.heap.size, 0, none⟩)]) (by simp [settle]) (by simp [go_sem]) ?_
  have hdied := HX.out.died (gt s6).2.2
  refine (undo_yes (w.heap.size + 1) w.heap.size (gt s6).2.2 HN.out _ _ _ _ _ _ _ _ _ _ hdied.1 hdied.2.1).mono ?_
  rintro e u' w'' ⟨rfl, rfl, rfl⟩
  have hz := zset_box _ w.heap.size _ _ _ _ _ _ _ _ _ hdied.2.1
  have hze := (zset_blk _ w.heap.size (w.heap.size + 1) (by omega)).trans hdied.1
  have hzb := zset_below hdied.2.2 (Nat.le_refl _)
  generalize zset _ w.heap.size = Z at hz hze hzb ⊢
  have d0 : Z.cell? ⟨w.heap.size, 0, none⟩ = some (.int .i64 0) := blk_cell hz 0
  have d1 : Z.cell? ⟨w.heap.size, 1, none⟩ = some (.string ⟨#[]⟩) := blk_cell hz 1
  have d2 : Z.cell? ⟨w.heap.size, 2, none⟩ = some (.string ⟨#[]⟩) := blk_cell hz 2
  have d3 : Z.cell? ⟨w.heap.size, 3, none⟩ = some (.int .u64 0) := blk_cell hz 3
  have d4 : Z.cell? ⟨w.heap.size, 4, none⟩ = some (.int .u64 0) := blk_cell hz 4
  have d5 : Z.cell? ⟨w.heap.size, 5, none⟩ = some (.string ⟨#[]⟩) := blk_cell hz 5
  have d6 : Z.cell? ⟨w.heap.size, 6, none⟩ = some (.string ⟨#[]⟩) := blk_cell hz 6
  have d7 : Z.cell? ⟨w.heap.size, 7, none⟩ = some (.slice none 0 0) := blk_cell hz 7
  have d8 : Z.cell? ⟨w.heap.size, 8, none⟩ = some (.slice none 0 0) := blk_cell hz 8
  have de : Z.cell? ⟨w.heap.size + 1, 0, none⟩ = some (.int .i64 ((gt s6).2.2)) := blk_cell hze 0
  clear hz hze hdied
  have HZ := Lib.hid hzb
  clear hzb
  simp [Leaves, settle, results, Tryd.results25, go_sem, d0, d1, d2, d3, d4, d5, d6, d7, d8, de]
  exact ⟨rfl, HZ.out⟩
set_option maxHeartbeats 8000000 in
set_option maxRecDepth 100000 in
theorem dec_no8 (s s1 s2 s3 s4 s5 s6 s7 : ByteArray) (kd : Int) (k1 : Int) (f : ByteArray) (k2 : Int) (t : ByteArray) (k3 : Int) (am : Int) (k4 : Int) (nc : Int) (k5 : Int) (ky' : ByteArray) (k6 : Int) (vl : ByteArray) (k7 : Int) (w : World) (E1 : Hid (gi s 9 0 0 = (kd, k1, 0))) (R1 : Hid (rest s k1 = s1)) (Z1 : Hid (s1.size < 4611686018427387904)) (E2 : Hid (gt s1 = (f, k2, 0))) (R2 : Hid (rest s1 k2 = s2)) (Z2 : Hid (s2.size < 4611686018427387904)) (E3 : Hid (gt s2 = (t, k3, 0))) (R3 : Hid (rest s2 k3 = s3)) (Z3 : Hid (s3.size < 4611686018427387904)) (E4 : Hid (gi s3 9 0 0 = (am, k4, 0))) (R4 : Hid (rest s3 k4 = s4)) (Z4 : Hid (s4.size < 4611686018427387904)) (E5 : Hid (gi s4 9 0 0 = (nc, k5, 0))) (R5 : Hid (rest s4 k5 = s5)) (Z5 : Hid (s5.size < 4611686018427387904)) (E6 : Hid (gt s5 = (ky', k6, 0))) (R6 : Hid (rest s5 k6 = s6)) (Z6 : Hid (s6.size < 4611686018427387904)) (E7 : Hid (gt s6 = (vl, k7, 0))) (R7 : Hid (rest s6 k7 = s7)) (Z7 : Hid (s7.size < 4611686018427387904)) (HN : Hid ((gl s7 8).2.2 ≠ 0)) :
    Calls Tryd.prog 25 #[.string s] w fun e w' => e = .returned (.tuple #[zagg, .int .i64 (gl s7 8).2.2]) ∧ Below w.heap.size w w' := by
  have hmf : ∀ (fn : Fn) (first cap : Array Value) (w : World), (Instr.makeFunc fn first cap).run Tryd.prog w = .ok (.func fn first cap) w := fun _ _ _ _ => rfl
  go_enter_defers Tryd.func25, Tryd.ntmps25
  have HX := Lib.hid (Dx.first w s)
  go_wp2_with (first
  | (go_at_call 52
     refine (int_ok' (w.heap.size + 1 + 1) s s1 kd k1 _ E1.out R1.out HX.out.rd).mono ?_
     rintro e w2 ⟨rfl, hr⟩
     have HX := Lib.hid (HX.out.read hr)
     have t0 := blk_cell HX.out.tx 0; have u0 := blk_frozen HX.out.tx 0; simp only [List.getElem?_toArray, List.getElem?_cons_zero, List.getElem?_cons_succ] at t0
     have t1 := blk_cell HX.out.tx 1; have u1 := blk_frozen HX.out.tx 1; simp only [List.getElem?_toArray, List.getElem?_cons_zero, List.getElem?_cons_succ] at t1
     have t2 := blk_cell HX.out.tx 2; have u2 := blk_frozen HX.out.tx 2; simp only [List.getElem?_toArray, List.getElem?_cons_zero, List.getElem?_cons_succ] at t2
     have t3 := blk_cell HX.out.tx 3; have u3 := blk_frozen HX.out.tx 3; simp only [List.getElem?_toArray, List.getElem?_cons_zero, List.getElem?_cons_succ] at t3
     have t4 := blk_cell HX.out.tx 4; have u4 := blk_frozen HX.out.tx 4; simp only [List.getElem?_toArray, List.getElem?_cons_zero, List.getElem?_cons_succ] at t4
     have t5 := blk_cell HX.out.tx 5; have u5 := blk_frozen HX.out.tx 5; simp only [List.getElem?_toArray, List.getElem?_cons_zero, List.getElem?_cons_succ] at t5
     have t6 := blk_cell HX.out.tx 6; have u6 := blk_frozen HX.out.tx 6; simp only [List.getElem?_toArray, List.getElem?_cons_zero, List.getElem?_cons_succ] at t6
     have t7 := blk_cell HX.out.tx 7; have u7 := blk_frozen HX.out.tx 7; simp only [List.getElem?_toArray, List.getElem?_cons_zero, List.getElem?_cons_succ] at t7
     have t8 := blk_cell HX.out.tx 8; have u8 := blk_frozen HX.out.tx 8; simp only [List.getElem?_toArray, List.getElem?_cons_zero, List.getElem?_cons_succ] at t8
     clear hr)
  | (go_at_call 53
     refine (text_ok' (w.heap.size + 1 + 1) s1 s2 f k2 _ Z1.out E2.out R2.out HX.out.rd).mono ?_
     rintro e w2 ⟨rfl, hr⟩
     have HX := Lib.hid (HX.out.read hr)
     have t0 := blk_cell HX.out.tx 0; have u0 := blk_frozen HX.out.tx 0; simp only [List.getElem?_toArray, List.getElem?_cons_zero, List.getElem?_cons_succ] at t0
     have t1 := blk_cell HX.out.tx 1; have u1 := blk_frozen HX.out.tx 1; simp only [List.getElem?_toArray, List.getElem?_cons_zero, List.getElem?_cons_succ] at t1
     have t2 := blk_cell HX.out.tx 2; have u2 := blk_frozen HX.out.tx 2; simp only [List.getElem?_toArray, List.getElem?_cons_zero, List.getElem?_cons_succ] at t2
     have t3 := blk_cell HX.out.tx 3; have u3 := blk_frozen HX.out.tx 3; simp only [List.getElem?_toArray, List.getElem?_cons_zero, List.getElem?_cons_succ] at t3
     have t4 := blk_cell HX.out.tx 4; have u4 := blk_frozen HX.out.tx 4; simp only [List.getElem?_toArray, List.getElem?_cons_zero, List.getElem?_cons_succ] at t4
     have t5 := blk_cell HX.out.tx 5; have u5 := blk_frozen HX.out.tx 5; simp only [List.getElem?_toArray, List.getElem?_cons_zero, List.getElem?_cons_succ] at t5
     have t6 := blk_cell HX.out.tx 6; have u6 := blk_frozen HX.out.tx 6; simp only [List.getElem?_toArray, List.getElem?_cons_zero, List.getElem?_cons_succ] at t6
     have t7 := blk_cell HX.out.tx 7; have u7 := blk_frozen HX.out.tx 7; simp only [List.getElem?_toArray, List.getElem?_cons_zero, List.getElem?_cons_succ] at t7
     have t8 := blk_cell HX.out.tx 8; have u8 := blk_frozen HX.out.tx 8; simp only [List.getElem?_toArray, List.getElem?_cons_zero, List.getElem?_cons_succ] at t8
     clear hr)
  | (go_at_call 53
     refine (text_ok' (w.heap.size + 1 + 1) s2 s3 t k3 _ Z2.out E3.out R3.out HX.out.rd).mono ?_
     rintro e w2 ⟨rfl, hr⟩
     have HX := Lib.hid (HX.out.read hr)
     have t0 := blk_cell HX.out.tx 0; have u0 := blk_frozen HX.out.tx 0; simp only [List.getElem?_toArray, List.getElem?_cons_zero, List.getElem?_cons_succ] at t0
     have t1 := blk_cell HX.out.tx 1; have u1 := blk_frozen HX.out.tx 1; simp only [List.getElem?_toArray, List.getElem?_cons_zero, List.getElem?_cons_succ] at t1
     have t2 := blk_cell HX.out.tx 2; have u2 := blk_frozen HX.out.tx 2; simp only [List.getElem?_toArray, List.getElem?_cons_zero, List.getElem?_cons_succ] at t2
     have t3 := blk_cell HX.out.tx 3; have u3 := blk_frozen HX.out.tx 3; simp only [List.getElem?_toArray, List.getElem?_cons_zero, List.getElem?_cons_succ] at t3
     have t4 := blk_cell HX.out.tx 4; have u4 := blk_frozen HX.out.tx 4; simp only [List.getElem?_toArray, List.getElem?_cons_zero, List.getElem?_cons_succ] at t4
     have t5 := blk_cell HX.out.tx 5; have u5 := blk_frozen HX.out.tx 5; simp only [List.getElem?_toArray, List.getElem?_cons_zero, List.getElem?_cons_succ] at t5
     have t6 := blk_cell HX.out.tx 6; have u6 := blk_frozen HX.out.tx 6; simp only [List.getElem?_toArray, List.getElem?_cons_zero, List.getElem?_cons_succ] at t6
     have t7 := blk_cell HX.out.tx 7; have u7 := blk_frozen HX.out.tx 7; simp only [List.getElem?_toArray, List.getElem?_cons_zero, List.getElem?_cons_succ] at t7
     have t8 := blk_cell HX.out.tx 8; have u8 := blk_frozen HX.out.tx 8; simp only [List.getElem?_toArray, List.getElem?_cons_zero, List.getElem?_cons_succ] at t8
     clear hr)
  | (go_at_call 52
     refine (int_ok' (w.heap.size + 1 + 1) s3 s4 am k4 _ E4.out R4.out ((HX.out.set1 (.string f)).set2 (.string t)).rd).mono ?_
     rintro e w2 ⟨rfl, hr⟩
     have HX := Lib.hid (((HX.out.set1 (.string f)).set2 (.string t)).read hr)
     have t0 := blk_cell HX.out.tx 0; have u0 := blk_frozen HX.out.tx 0; simp only [List.getElem?_toArray, List.getElem?_cons_zero, List.getElem?_cons_succ] at t0
     have t1 := blk_cell HX.out.tx 1; have u1 := blk_frozen HX.out.tx 1; simp only [List.getElem?_toArray, List.getElem?_cons_zero, List.getElem?_cons_succ] at t1
     have t2 := blk_cell HX.out.tx 2; have u2 := blk_frozen HX.out.tx 2; simp only [List.getElem?_toArray, List.getElem?_cons_zero, List.getElem?_cons_succ] at t2
     have t3 := blk_cell HX.out.tx 3; have u3 := blk_frozen HX.out.tx 3; simp only [List.getElem?_toArray, List.getElem?_cons_zero, List.getElem?_cons_succ] at t3
     have t4 := blk_cell HX.out.tx 4; have u4 := blk_frozen HX.out.tx 4; simp only [List.getElem?_toArray, List.getElem?_cons_zero, List.getElem?_cons_succ] at t4
     have t5 := blk_cell HX.out.tx 5; have u5 := blk_frozen HX.out.tx 5; simp only [List.getElem?_toArray, List.getElem?_cons_zero, List.getElem?_cons_succ] at t5
     have t6 := blk_cell HX.out.tx 6; have u6 := blk_frozen HX.out.tx 6; simp only [List.getElem?_toArray, List.getElem?_cons_zero, List.getElem?_cons_succ] at t6
     have t7 := blk_cell HX.out.tx 7; have u7 := blk_frozen HX.out.tx 7; simp only [List.getElem?_toArray, List.getElem?_cons_zero, List.getElem?_cons_succ] at t7
     have t8 := blk_cell HX.out.tx 8; have u8 := blk_frozen HX.out.tx 8; simp only [List.getElem?_toArray, List.getElem?_cons_zero, List.getElem?_cons_succ] at t8
     clear hr)
  | (go_at_call 52
     refine (int_ok' (w.heap.size + 1 + 1) s4 s5 nc k5 _ E5.out R5.out HX.out.rd).mono ?_
     rintro e w2 ⟨rfl, hr⟩
     have HX := Lib.hid (HX.out.read hr)
     have t0 := blk_cell HX.out.tx 0; have u0 := blk_frozen HX.out.tx 0; simp only [List.getElem?_toArray, List.getElem?_cons_zero, List.getElem?_cons_succ] at t0
     have t1 := blk_cell HX.out.tx 1; have u1 := blk_frozen HX.out.tx 1; simp only [List.getElem?_toArray, List.getElem?_cons_zero, List.getElem?_cons_succ] at t1
     have t2 := blk_cell HX.out.tx 2; have u2 := blk_frozen HX.out.tx 2; simp only [List.getElem?_toArray, List.getElem?_cons_zero, List.getElem?_cons_succ] at t2
     have t3 := blk_cell HX.out.tx 3; have u3 := blk_frozen HX.out.tx 3; simp only [List.getElem?_toArray, List.getElem?_cons_zero, List.getElem?_cons_succ] at t3
     have t4 := blk_cell HX.out.tx 4; have u4 := blk_frozen HX.out.tx 4; simp only [List.getElem?_toArray, List.getElem?_cons_zero, List.getElem?_cons_succ] at t4
     have t5 := blk_cell HX.out.tx 5; have u5 := blk_frozen HX.out.tx 5; simp only [List.getElem?_toArray, List.getElem?_cons_zero, List.getElem?_cons_succ] at t5
     have t6 := blk_cell HX.out.tx 6; have u6 := blk_frozen HX.out.tx 6; simp only [List.getElem?_toArray, List.getElem?_cons_zero, List.getElem?_cons_succ] at t6
     have t7 := blk_cell HX.out.tx 7; have u7 := blk_frozen HX.out.tx 7; simp only [List.getElem?_toArray, List.getElem?_cons_zero, List.getElem?_cons_succ] at t7
     have t8 := blk_cell HX.out.tx 8; have u8 := blk_frozen HX.out.tx 8; simp only [List.getElem?_toArray, List.getElem?_cons_zero, List.getElem?_cons_succ] at t8
     clear hr)
  | (go_at_call 53
     refine (text_ok' (w.heap.size + 1 + 1) s5 s6 ky' k6 _ Z5.out E6.out R6.out ((HX.out.set3 (.int .u64 am)).set4 (.int .u64 nc)).rd).mono ?_
     rintro e w2 ⟨rfl, hr⟩
     have HX := Lib.hid (((HX.out.set3 (.int .u64 am)).set4 (.int .u64 nc)).read hr)
     have t0 := blk_cell HX.out.tx 0; have u0 := blk_frozen HX.out.tx 0; simp only [List.getElem?_toArray, List.getElem?_cons_zero, List.getElem?_cons_succ] at t0
     have t1 := blk_cell HX.out.tx 1; have u1 := blk_frozen HX.out.tx 1; simp only [List.getElem?_toArray, List.getElem?_cons_zero, List.getElem?_cons_succ] at t1
     have t2 := blk_cell HX.out.tx 2; have u2 := blk_frozen HX.out.tx 2; simp only [List.getElem?_toArray, List.getElem?_cons_zero, List.getElem?_cons_succ] at t2
     have t3 := blk_cell HX.out.tx 3; have u3 := blk_frozen HX.out.tx 3; simp only [List.getElem?_toArray, List.getElem?_cons_zero, List.getElem?_cons_succ] at t3
     have t4 := blk_cell HX.out.tx 4; have u4 := blk_frozen HX.out.tx 4; simp only [List.getElem?_toArray, List.getElem?_cons_zero, List.getElem?_cons_succ] at t4
     have t5 := blk_cell HX.out.tx 5; have u5 := blk_frozen HX.out.tx 5; simp only [List.getElem?_toArray, List.getElem?_cons_zero, List.getElem?_cons_succ] at t5
     have t6 := blk_cell HX.out.tx 6; have u6 := blk_frozen HX.out.tx 6; simp only [List.getElem?_toArray, List.getElem?_cons_zero, List.getElem?_cons_succ] at t6
     have t7 := blk_cell HX.out.tx 7; have u7 := blk_frozen HX.out.tx 7; simp only [List.getElem?_toArray, List.getElem?_cons_zero, List.getElem?_cons_succ] at t7
     have t8 := blk_cell HX.out.tx 8; have u8 := blk_frozen HX.out.tx 8; simp only [List.getElem?_toArray, List.getElem?_cons_zero, List.getElem?_cons_succ] at t8
     clear hr)
  | (go_at_call 53
     refine (text_ok' (w.heap.size + 1 + 1) s6 s7 vl k7 _ Z6.out E7.out R7.out HX.out.rd).mono ?_
     rintro e w2 ⟨rfl, hr⟩
     have HX := Lib.hid (HX.out.read hr)
     have t0 := blk_cell HX.out.tx 0; have u0 := blk_frozen HX.out.tx 0; simp only [List.getElem?_toArray, List.getElem?_cons_zero, List.getElem?_cons_succ] at t0
     have t1 := blk_cell HX.out.tx 1; have u1 := blk_frozen HX.out.tx 1; simp only [List.getElem?_toArray, List.getElem?_cons_zero, List.getElem?_cons_succ] at t1
     have t2 := blk_cell HX.out.tx 2; have u2 := blk_frozen HX.out.tx 2; simp only [List.getElem?_toArray, List.getElem?_cons_zero, List.getElem?_cons_succ] at t2
     have t3 := blk_cell HX.out.tx 3; have u3 := blk_frozen HX.out.tx 3; simp only [List.getElem?_toArray, List.getElem?_cons_zero, List.getElem?_cons_succ] at t3
     have t4 := blk_cell HX.out.tx 4; have u4 := blk_frozen HX.out.tx 4; simp only [List.getElem?_toArray, List.getElem?_cons_zero, List.getElem?_cons_succ] at t4
     have t5 := blk_cell HX.out.tx 5; have u5 := blk_frozen HX.out.tx 5; simp only [List.getElem?_toArray, List.getElem?_cons_zero, List.getElem?_cons_succ] at t5
     have t6 := blk_cell HX.out.tx 6; have u6 := blk_frozen HX.out.tx 6; simp only [List.getElem?_toArray, List.getElem?_cons_zero, List.getElem?_cons_succ] at t6
     have t7 := blk_cell HX.out.tx 7; have u7 := blk_frozen HX.out.tx 7; simp only [List.getElem?_toArray, List.getElem?_cons_zero, List.getElem?_cons_succ] at t7
     have t8 := blk_cell HX.out.tx 8; have u8 := blk_frozen HX.out.tx 8; simp only [List.getElem?_toArray, List.getElem?_cons_zero, List.getElem?_cons_succ] at t8
     clear hr)
  | (go_at_call 54
     refine (list_no (w.heap.size + 1 + 1) s7 _ Z7.out ((HX.out.set5 (.string ky')).set6 (.string vl)).rd HN.out).mono ?_
     rintro e w2 ⟨rfl, hB⟩
     have HX := Lib.hid (((HX.out.set5 (.string ky')).set6 (.string vl)).step hB)
     clear hB))
  refine leaves_cons (f := 51) (args := #[.pointer (some ⟨w.heap.size + 1, 0, none⟩)]) (by simp) (by simp [go_sem]) ?_
  refine (caught_panicking ⟨w.heap.size + 1, 0, none⟩ 0 (gl s7 8).2.2 [] _ (blk_cell HX.out.er 0) (blk_frozen HX.out.er 0)).mono ?_
  rintro e u' w'' ⟨rfl, rfl, rfl⟩
  refine leaves_cons (f := 50) (args := #[.pointer (some ⟨w.heap.size + 1, 0, none⟩), .pointer (some ⟨w.heap.size, 0, none⟩)]) (by simp [settle]) (by simp [go_sem]) ?_
  have hdied := HX.out.died (gl s7 8).2.2
  refine (undo_yes (w.heap.size + 1) w.heap.size (gl s7 8).2.2 HN.out _ _ _ _ _ _ _ _ _ _ hdied.1 hdied.2.1).mono ?_
  rintro e u' w'' ⟨rfl, rfl, rfl⟩
  have hz := zset_box _ w.heap.size _ _ _ _ _ _ _ _ _ hdied.2.1
  have hze := (zset_blk _ w.heap.size (w.heap.size + 1) (by omega)).trans hdied.1
  have hzb := zset_below hdied.2.2 (Nat.le_refl _)
  generalize zset _ w.heap.size = Z at hz hze hzb ⊢
  have d0 : Z.cell? ⟨w.heap.size, 0, none⟩ = some (.int .i64 0) := blk_cell hz 0
  have d1 : Z.cell? ⟨w.heap.size, 1, none⟩ = some (.string ⟨#[]⟩) := blk_cell hz 1
  have d2 : Z.cell? ⟨w.heap.size, 2, none⟩ = some (.string ⟨#[]⟩) := blk_cell hz 2
  have d3 : Z.cell? ⟨w.heap.size, 3, none⟩ = some (.int .u64 0) := blk_cell hz 3
  have d4 : Z.cell? ⟨w.heap.size, 4, none⟩ = some (.int .u64 0) := blk_cell hz 4
  have d5 : Z.cell? ⟨w.heap.size, 5, none⟩ = some (.string ⟨#[]⟩) := blk_cell hz 5
  have d6 : Z.cell? ⟨w.heap.size, 6, none⟩ = some (.string ⟨#[]⟩) := blk_cell hz 6
  have d7 : Z.cell? ⟨w.heap.size, 7, none⟩ = some (.slice none 0 0) := blk_cell hz 7
  have d8 : Z.cell? ⟨w.heap.size, 8, none⟩ = some (.slice none 0 0) := blk_cell hz 8
  have de : Z.cell? ⟨w.heap.size + 1, 0, none⟩ = some (.int .i64 ((gl s7 8).2.2)) := blk_cell hze 0
  clear hz hze hdied
  have HZ := Lib.hid hzb
  clear hzb
  simp [Leaves, settle, results, Tryd.results25, go_sem, d0, d1, d2, d3, d4, d5, d6, d7, d8, de]
  exact ⟨rfl, HZ.out⟩
set_option maxHeartbeats 8000000 in
set_option maxRecDepth 100000 in
theorem dec_no9 (s s1 s2 s3 s4 s5 s6 s7 s8 : ByteArray) (kd : Int) (k1 : Int) (f : ByteArray) (k2 : Int) (t : ByteArray) (k3 : Int) (am : Int) (k4 : Int) (nc : Int) (k5 : Int) (ky' : ByteArray) (k6 : Int) (vl : ByteArray) (k7 : Int) (rs : List ByteArray) (k8 : Int) (w : World) (E1 : Hid (gi s 9 0 0 = (kd, k1, 0))) (R1 : Hid (rest s k1 = s1)) (Z1 : Hid (s1.size < 4611686018427387904)) (E2 : Hid (gt s1 = (f, k2, 0))) (R2 : Hid (rest s1 k2 = s2)) (Z2 : Hid (s2.size < 4611686018427387904)) (E3 : Hid (gt s2 = (t, k3, 0))) (R3 : Hid (rest s2 k3 = s3)) (Z3 : Hid (s3.size < 4611686018427387904)) (E4 : Hid (gi s3 9 0 0 = (am, k4, 0))) (R4 : Hid (rest s3 k4 = s4)) (Z4 : Hid (s4.size < 4611686018427387904)) (E5 : Hid (gi s4 9 0 0 = (nc, k5, 0))) (R5 : Hid (rest s4 k5 = s5)) (Z5 : Hid (s5.size < 4611686018427387904)) (E6 : Hid (gt s5 = (ky', k6, 0))) (R6 : Hid (rest s5 k6 = s6)) (Z6 : Hid (s6.size < 4611686018427387904)) (E7 : Hid (gt s6 = (vl, k7, 0))) (R7 : Hid (rest s6 k7 = s7)) (Z7 : Hid (s7.size < 4611686018427387904)) (E8 : Hid (gl s7 8 = (rs, k8, 0))) (R8 : Hid (rest s7 k8 = s8)) (Z8 : Hid (s8.size < 4611686018427387904)) (HN : Hid ((gl s8 8).2.2 ≠ 0)) :
    Calls Tryd.prog 25 #[.string s] w fun e w' => e = .returned (.tuple #[zagg, .int .i64 (gl s8 8).2.2]) ∧ Below w.heap.size w w' := by
  have hmf : ∀ (fn : Fn) (first cap : Array Value) (w : World), (Instr.makeFunc fn first cap).run Tryd.prog w = .ok (.func fn first cap) w := fun _ _ _ _ => rfl
  go_enter_defers Tryd.func25, Tryd.ntmps25
  have HX := Lib.hid (Dx.first w s)
  go_wp2_with (first
  | (go_at_call 52
     refine (int_ok' (w.heap.size + 1 + 1) s s1 kd k1 _ E1.out R1.out HX.out.rd).mono ?_
     rintro e w2 ⟨rfl, hr⟩
     have HX := Lib.hid (HX.out.read hr)
     have t0 := blk_cell HX.out.tx 0; have u0 := blk_frozen HX.out.tx 0; simp only [List.getElem?_toArray, List.getElem?_cons_zero, List.getElem?_cons_succ] at t0
     have t1 := blk_cell HX.out.tx 1; have u1 := blk_frozen HX.out.tx 1; simp only [List.getElem?_toArray, List.getElem?_cons_zero, List.getElem?_cons_succ] at t1
     have t2 := blk_cell HX.out.tx 2; have u2 := blk_frozen HX.out.tx 2; simp only [List.getElem?_toArray, List.getElem?_cons_zero, List.getElem?_cons_succ] at t2
     have t3 := blk_cell HX.out.tx 3; have u3 := blk_frozen HX.out.tx 3; simp only [List.getElem?_toArray, List.getElem?_cons_zero, List.getElem?_cons_succ] at t3
     have t4 := blk_cell HX.out.tx 4; have u4 := blk_frozen HX.out.tx 4; simp only [List.getElem?_toArray, List.getElem?_cons_zero, List.getElem?_cons_succ] at t4
     have t5 := blk_cell HX.out.tx 5; have u5 := blk_frozen HX.out.tx 5; simp only [List.getElem?_toArray, List.getElem?_cons_zero, List.getElem?_cons_succ] at t5
     have t6 := blk_cell HX.out.tx 6; have u6 := blk_frozen HX.out.tx 6; simp only [List.getElem?_toArray, List.getElem?_cons_zero, List.getElem?_cons_succ] at t6
     have t7 := blk_cell HX.out.tx 7; have u7 := blk_frozen HX.out.tx 7; simp only [List.getElem?_toArray, List.getElem?_cons_zero, List.getElem?_cons_succ] at t7
     have t8 := blk_cell HX.out.tx 8; have u8 := blk_frozen HX.out.tx 8; simp only [List.getElem?_toArray, List.getElem?_cons_zero, List.getElem?_cons_succ] at t8
     clear hr)
  | (go_at_call 53
     refine (text_ok' (w.heap.size + 1 + 1) s1 s2 f k2 _ Z1.out E2.out R2.out HX.out.rd).mono ?_
     rintro e w2 ⟨rfl, hr⟩
     have HX := Lib.hid (HX.out.read hr)
     have t0 := blk_cell HX.out.tx 0; have u0 := blk_frozen HX.out.tx 0; simp only [List.getElem?_toArray, List.getElem?_cons_zero, List.getElem?_cons_succ] at t0
     have t1 := blk_cell HX.out.tx 1; have u1 := blk_frozen HX.out.tx 1; simp only [List.getElem?_toArray, List.getElem?_cons_zero, List.getElem?_cons_succ] at t1
     have t2 := blk_cell HX.out.tx 2; have u2 := blk_frozen HX.out.tx 2; simp only [List.getElem?_toArray, List.getElem?_cons_zero, List.getElem?_cons_succ] at t2
     have t3 := blk_cell HX.out.tx 3; have u3 := blk_frozen HX.out.tx 3; simp only [List.getElem?_toArray, List.getElem?_cons_zero, List.getElem?_cons_succ] at t3
     have t4 := blk_cell HX.out.tx 4; have u4 := blk_frozen HX.out.tx 4; simp only [List.getElem?_toArray, List.getElem?_cons_zero, List.getElem?_cons_succ] at t4
     have t5 := blk_cell HX.out.tx 5; have u5 := blk_frozen HX.out.tx 5; simp only [List.getElem?_toArray, List.getElem?_cons_zero, List.getElem?_cons_succ] at t5
     have t6 := blk_cell HX.out.tx 6; have u6 := blk_frozen HX.out.tx 6; simp only [List.getElem?_toArray, List.getElem?_cons_zero, List.getElem?_cons_succ] at t6
     have t7 := blk_cell HX.out.tx 7; have u7 := blk_frozen HX.out.tx 7; simp only [List.getElem?_toArray, List.getElem?_cons_zero, List.getElem?_cons_succ] at t7
     have t8 := blk_cell HX.out.tx 8; have u8 := blk_frozen HX.out.tx 8; simp only [List.getElem?_toArray, List.getElem?_cons_zero, List.getElem?_cons_succ] at t8
     clear hr)
  | (go_at_call 53
     refine (text_ok' (w.heap.size + 1 + 1) s2 s3 t k3 _ Z2.out E3.out R3.out HX.out.rd).mono ?_
     rintro e w2 ⟨rfl, hr⟩
     have HX := Lib.hid (HX.out.read hr)
     have t0 := blk_cell HX.out.tx 0; have u0 := blk_frozen HX.out.tx 0; simp only [List.getElem?_toArray, List.getElem?_cons_zero, List.getElem?_cons_succ] at t0
     have t1 := blk_cell HX.out.tx 1; have u1 := blk_frozen HX.out.tx 1; simp only [List.getElem?_toArray, List.getElem?_cons_zero, List.getElem?_cons_succ] at t1
     have t2 := blk_cell HX.out.tx 2; have u2 := blk_frozen HX.out.tx 2; simp only [List.getElem?_toArray, List.getElem?_cons_zero, List.getElem?_cons_succ] at t2
     have t3 := blk_cell HX.out.tx 3; have u3 := blk_frozen HX.out.tx 3; simp only [List.getElem?_toArray, List.getElem?_cons_zero, List.getElem?_cons_succ] at t3
     have t4 := blk_cell HX.out.tx 4; have u4 := blk_frozen HX.out.tx 4; simp only [List.getElem?_toArray, List.getElem?_cons_zero, List.getElem?_cons_succ] at t4
     have t5 := blk_cell HX.out.tx 5; have u5 := blk_frozen HX.out.tx 5; simp only [List.getElem?_toArray, List.getElem?_cons_zero, List.getElem?_cons_succ] at t5
     have t6 := blk_cell HX.out.tx 6; have u6 := blk_frozen HX.out.tx 6; simp only [List.getElem?_toArray, List.getElem?_cons_zero, List.getElem?_cons_succ] at t6
     have t7 := blk_cell HX.out.tx 7; have u7 := blk_frozen HX.out.tx 7; simp only [List.getElem?_toArray, List.getElem?_cons_zero, List.getElem?_cons_succ] at t7
     have t8 := blk_cell HX.out.tx 8; have u8 := blk_frozen HX.out.tx 8; simp only [List.getElem?_toArray, List.getElem?_cons_zero, List.getElem?_cons_succ] at t8
     clear hr)
  | (go_at_call 52
     refine (int_ok' (w.heap.size + 1 + 1) s3 s4 am k4 _ E4.out R4.out ((HX.out.set1 (.string f)).set2 (.string t)).rd).mono ?_
     rintro e w2 ⟨rfl, hr⟩
     have HX := Lib.hid (((HX.out.set1 (.string f)).set2 (.string t)).read hr)
     have t0 := blk_cell HX.out.tx 0; have u0 := blk_frozen HX.out.tx 0; simp only [List.getElem?_toArray, List.getElem?_cons_zero, List.getElem?_cons_succ] at t0
     have t1 := blk_cell HX.out.tx 1; have u1 := blk_frozen HX.out.tx 1; simp only [List.getElem?_toArray, List.getElem?_cons_zero, List.getElem?_cons_succ] at t1
     have t2 := blk_cell HX.out.tx 2; have u2 := blk_frozen HX.out.tx 2; simp only [List.getElem?_toArray, List.getElem?_cons_zero, List.getElem?_cons_succ] at t2
     have t3 := blk_cell HX.out.tx 3; have u3 := blk_frozen HX.out.tx 3; simp only [List.getElem?_toArray, List.getElem?_cons_zero, List.getElem?_cons_succ] at t3
     have t4 := blk_cell HX.out.tx 4; have u4 := blk_frozen HX.out.tx 4; simp only [List.getElem?_toArray, List.getElem?_cons_zero, List.getElem?_cons_succ] at t4
     have t5 := blk_cell HX.out.tx 5; have u5 := blk_frozen HX.out.tx 5; simp only [List.getElem?_toArray, List.getElem?_cons_zero, List.getElem?_cons_succ] at t5
     have t6 := blk_cell HX.out.tx 6; have u6 := blk_frozen HX.out.tx 6; simp only [List.getElem?_toArray, List.getElem?_cons_zero, List.getElem?_cons_succ] at t6
     have t7 := blk_cell HX.out.tx 7; have u7 := blk_frozen HX.out.tx 7; simp only [List.getElem?_toArray, List.getElem?_cons_zero, List.getElem?_cons_succ] at t7
     have t8 := blk_cell HX.out.tx 8; have u8 := blk_frozen HX.out.tx 8; simp only [List.getElem?_toArray, List.getElem?_cons_zero, List.getElem?_cons_succ] at t8
     clear hr)
  | (go_at_call 52
     refine (int_ok' (w.heap.size + 1 + 1) s4 s5 nc k5 _ E5.out R5.out HX.out.rd).mono ?_
     rintro e w2 ⟨rfl, hr⟩
     have HX := Lib.hid (HX.out.read hr)
     have t0 := blk_cell HX.out.tx 0; have u0 := blk_frozen HX.out.tx 0; simp only [List.getElem?_toArray, List.getElem?_cons_zero, List.getElem?_cons_succ] at t0
     have t1 := blk_cell HX.out.tx 1; have u1 := blk_frozen HX.out.tx 1; simp only [List.getElem?_toArray, List.getElem?_cons_zero, List.getElem?_cons_succ] at t1
     have t2 := blk_cell HX.out.tx 2; have u2 := blk_frozen HX.out.tx 2; simp only [List.getElem?_toArray, List.getElem?_cons_zero, List.getElem?_cons_succ] at t2
     have t3 := blk_cell HX.out.tx 3; have u3 := blk_frozen HX.out.tx 3; simp only [List.getElem?_toArray, List.getElem?_cons_zero, List.getElem?_cons_succ] at t3
     have t4 := blk_cell HX.out.tx 4; have u4 := blk_frozen HX.out.tx 4; simp only [List.getElem?_toArray, List.getElem?_cons_zero, List.getElem?_cons_succ] at t4
     have t5 := blk_cell HX.out.tx 5; have u5 := blk_frozen HX.out.tx 5; simp only [List.getElem?_toArray, List.getElem?_cons_zero, List.getElem?_cons_succ] at t5
     have t6 := blk_cell HX.out.tx 6; have u6 := blk_frozen HX.out.tx 6; simp only [List.getElem?_toArray, List.getElem?_cons_zero, List.getElem?_cons_succ] at t6
     have t7 := blk_cell HX.out.tx 7; have u7 := blk_frozen HX.out.tx 7; simp only [List.getElem?_toArray, List.getElem?_cons_zero, List.getElem?_cons_succ] at t7
     have t8 := blk_cell HX.out.tx 8; have u8 := blk_frozen HX.out.tx 8; simp only [List.getElem?_toArray, List.getElem?_cons_zero, List.getElem?_cons_succ] at t8
     clear hr)
  | (go_at_call 53
     refine (text_ok' (w.heap.size + 1 + 1) s5 s6 ky' k6 _ Z5.out E6.out R6.out ((HX.out.set3 (.int .u64 am)).set4 (.int .u64 nc)).rd).mono ?_
     rintro e w2 ⟨rfl, hr⟩
     have HX := Lib.hid (((HX.out.set3 (.int .u64 am)).set4 (.int .u64 nc)).read hr)
     have t0 := blk_cell HX.out.tx 0; have u0 := blk_frozen HX.out.tx 0; simp only [List.getElem?_toArray, List.getElem?_cons_zero, List.getElem?_cons_succ] at t0
     have t1 := blk_cell HX.out.tx 1; have u1 := blk_frozen HX.out.tx 1; simp only [List.getElem?_toArray, List.getElem?_cons_zero, List.getElem?_cons_succ] at t1
     have t2 := blk_cell HX.out.tx 2; have u2 := blk_frozen HX.out.tx 2; simp only [List.getElem?_toArray, List.getElem?_cons_zero, List.getElem?_cons_succ] at t2
     have t3 := blk_cell HX.out.tx 3; have u3 := blk_frozen HX.out.tx 3; simp only [List.getElem?_toArray, List.getElem?_cons_zero, List.getElem?_cons_succ] at t3
     have t4 := blk_cell HX.out.tx 4; have u4 := blk_frozen HX.out.tx 4; simp only [List.getElem?_toArray, List.getElem?_cons_zero, List.getElem?_cons_succ] at t4
     have t5 := blk_cell HX.out.tx 5; have u5 := blk_frozen HX.out.tx 5; simp only [List.getElem?_toArray, List.getElem?_cons_zero, List.getElem?_cons_succ] at t5
     have t6 := blk_cell HX.out.tx 6; have u6 := blk_frozen HX.out.tx 6; simp only [List.getElem?_toArray, List.getElem?_cons_zero, List.getElem?_cons_succ] at t6
     have t7 := blk_cell HX.out.tx 7; have u7 := blk_frozen HX.out.tx 7; simp only [List.getElem?_toArray, List.getElem?_cons_zero, List.getElem?_cons_succ] at t7
     have t8 := blk_cell HX.out.tx 8; have u8 := blk_frozen HX.out.tx 8; simp only [List.getElem?_toArray, List.getElem?_cons_zero, List.getElem?_cons_succ] at t8
     clear hr)
  | (go_at_call 53
     refine (text_ok' (w.heap.size + 1 + 1) s6 s7 vl k7 _ Z6.out E7.out R7.out HX.out.rd).mono ?_
     rintro e w2 ⟨rfl, hr⟩
     have HX := Lib.hid (HX.out.read hr)
     have t0 := blk_cell HX.out.tx 0; have u0 := blk_frozen HX.out.tx 0; simp only [List.getElem?_toArray, List.getElem?_cons_zero, List.getElem?_cons_succ] at t0
     have t1 := blk_cell HX.out.tx 1; have u1 := blk_frozen HX.out.tx 1; simp only [List.getElem?_toArray, List.getElem?_cons_zero, List.getElem?_cons_succ] at t1
     have t2 := blk_cell HX.out.tx 2; have u2 := blk_frozen HX.out.tx 2; simp only [List.getElem?_toArray, List.getElem?_cons_zero, List.getElem?_cons_succ] at t2
     have t3 := blk_cell HX.out.tx 3; have u3 := blk_frozen HX.out.tx 3; simp only [List.getElem?_toArray, List.getElem?_cons_zero, List.getElem?_cons_succ] at t3
     have t4 := blk_cell HX.out.tx 4; have u4 := blk_frozen HX.out.tx 4; simp only [List.getElem?_toArray, List.getElem?_cons_zero, List.getElem?_cons_succ] at t4
     have t5 := blk_cell HX.out.tx 5; have u5 := blk_frozen HX.out.tx 5; simp only [List.getElem?_toArray, List.getElem?_cons_zero, List.getElem?_cons_succ] at t5
     have t6 := blk_cell HX.out.tx 6; have u6 := blk_frozen HX.out.tx 6; simp only [List.getElem?_toArray, List.getElem?_cons_zero, List.getElem?_cons_succ] at t6
     have t7 := blk_cell HX.out.tx 7; have u7 := blk_frozen HX.out.tx 7; simp only [List.getElem?_toArray, List.getElem?_cons_zero, List.getElem?_cons_succ] at t7
     have t8 := blk_cell HX.out.tx 8; have u8 := blk_frozen HX.out.tx 8; simp only [List.getElem?_toArray, List.getElem?_cons_zero, List.getElem?_cons_succ] at t8
     clear hr)
  | (go_at_call 54
     refine (list_ok' (w.heap.size + 1 + 1) s7 s8 rs k8 _ Z7.out E8.out R8.out ((HX.out.set5 (.string ky')).set6 (.string vl)).rd).mono ?_
     rintro e w2 ⟨v7, rfl, hR7, hr⟩
     obtain ⟨A7, c7, rfl, hc7, hC7⟩ := Kd.R_reads hR7
     have HC7 := Lib.hid hc7
     clear hc7 hC7
     have HR7 := Lib.hid hR7
     have HB7 := Lib.hid (((HX.out.set5 (.string ky')).set6 (.string vl)).low.size)
     have HX := Lib.hid (((HX.out.set5 (.string ky')).set6 (.string vl)).read hr)
     have t0 := blk_cell HX.out.tx 0; have u0 := blk_frozen HX.out.tx 0; simp only [List.getElem?_toArray, List.getElem?_cons_zero, List.getElem?_cons_succ] at t0
     have t1 := blk_cell HX.out.tx 1; have u1 := blk_frozen HX.out.tx 1; simp only [List.getElem?_toArray, List.getElem?_cons_zero, List.getElem?_cons_succ] at t1
     have t2 := blk_cell HX.out.tx 2; have u2 := blk_frozen HX.out.tx 2; simp only [List.getElem?_toArray, List.getElem?_cons_zero, List.getElem?_cons_succ] at t2
     have t3 := blk_cell HX.out.tx 3; have u3 := blk_frozen HX.out.tx 3; simp only [List.getElem?_toArray, List.getElem?_cons_zero, List.getElem?_cons_succ] at t3
     have t4 := blk_cell HX.out.tx 4; have u4 := blk_frozen HX.out.tx 4; simp only [List.getElem?_toArray, List.getElem?_cons_zero, List.getElem?_cons_succ] at t4
     have t5 := blk_cell HX.out.tx 5; have u5 := blk_frozen HX.out.tx 5; simp only [List.getElem?_toArray, List.getElem?_cons_zero, List.getElem?_cons_succ] at t5
     have t6 := blk_cell HX.out.tx 6; have u6 := blk_frozen HX.out.tx 6; simp only [List.getElem?_toArray, List.getElem?_cons_zero, List.getElem?_cons_succ] at t6
     have t7 := blk_cell HX.out.tx 7; have u7 := blk_frozen HX.out.tx 7; simp only [List.getElem?_toArray, List.getElem?_cons_zero, List.getElem?_cons_succ] at t7
     have t8 := blk_cell HX.out.tx 8; have u8 := blk_frozen HX.out.tx 8; simp only [List.getElem?_toArray, List.getElem?_cons_zero, List.getElem?_cons_succ] at t8
     clear hr hR7)
  | (go_at_call 54
     refine (list_no (w.heap.size + 1 + 1) s8 _ Z8.out HX.out.rd HN.out).mono ?_
     rintro e w2 ⟨rfl, hB⟩
     have HX := Lib.hid (HX.out.step hB)
     clear hB))
  refine leaves_cons (f := 51) (args := #[.pointer (some ⟨w.heap.size + 1, 0, none⟩)]) (by simp) (by simp [go_sem]) ?_
  refine (caught_panicking ⟨w.heap.size + 1, 0, none⟩ 0 (gl s8 8).2.2 [] _ (blk_cell HX.out.er 0) (blk_frozen HX.out.er 0)).mono ?_
  rintro e u' w'' ⟨rfl, rfl, rfl⟩
  refine leaves_cons (f := 50) (args := #[.pointer (some ⟨w.heap.size + 1, 0, none⟩), .pointer (some ⟨w.heap.size, 0, none⟩)]) (by simp [settle]) (by simp [go_sem]) ?_
  have hdied := HX.out.died (gl s8 8).2.2
  refine (undo_yes (w.heap.size + 1) w.heap.size (gl s8 8).2.2 HN.out _ _ _ _ _ _ _ _ _ _ hdied.1 hdied.2.1).mono ?_
  rintro e u' w'' ⟨rfl, rfl, rfl⟩
  have hz := zset_box _ w.heap.size _ _ _ _ _ _ _ _ _ hdied.2.1
  have hze := (zset_blk _ w.heap.size (w.heap.size + 1) (by omega)).trans hdied.1
  have hzb := zset_below hdied.2.2 (Nat.le_refl _)
  generalize zset _ w.heap.size = Z at hz hze hzb ⊢
  have d0 : Z.cell? ⟨w.heap.size, 0, none⟩ = some (.int .i64 0) := blk_cell hz 0
  have d1 : Z.cell? ⟨w.heap.size, 1, none⟩ = some (.string ⟨#[]⟩) := blk_cell hz 1
  have d2 : Z.cell? ⟨w.heap.size, 2, none⟩ = some (.string ⟨#[]⟩) := blk_cell hz 2
  have d3 : Z.cell? ⟨w.heap.size, 3, none⟩ = some (.int .u64 0) := blk_cell hz 3
  have d4 : Z.cell? ⟨w.heap.size, 4, none⟩ = some (.int .u64 0) := blk_cell hz 4
  have d5 : Z.cell? ⟨w.heap.size, 5, none⟩ = some (.string ⟨#[]⟩) := blk_cell hz 5
  have d6 : Z.cell? ⟨w.heap.size, 6, none⟩ = some (.string ⟨#[]⟩) := blk_cell hz 6
  have d7 : Z.cell? ⟨w.heap.size, 7, none⟩ = some (.slice none 0 0) := blk_cell hz 7
  have d8 : Z.cell? ⟨w.heap.size, 8, none⟩ = some (.slice none 0 0) := blk_cell hz 8
  have de : Z.cell? ⟨w.heap.size + 1, 0, none⟩ = some (.int .i64 ((gl s8 8).2.2)) := blk_cell hze 0
  clear hz hze hdied
  have HZ := Lib.hid hzb
  clear hzb
  simp [Leaves, settle, results, Tryd.results25, go_sem, d0, d1, d2, d3, d4, d5, d6, d7, d8, de]
  exact ⟨rfl, HZ.out⟩
set_option maxHeartbeats 8000000 in
set_option maxRecDepth 100000 in
theorem dec_kind (s s1 s2 s3 s4 s5 s6 s7 s8 s9 : ByteArray) (kd : Int) (k1 : Int) (f : ByteArray) (k2 : Int) (t : ByteArray) (k3 : Int) (am : Int) (k4 : Int) (nc : Int) (k5 : Int) (ky' : ByteArray) (k6 : Int) (vl : ByteArray) (k7 : Int) (rs : List ByteArray) (k8 : Int) (ws : List ByteArray) (k9 : Int) (w : World) (E1 : Hid (gi s 9 0 0 = (kd, k1, 0))) (R1 : Hid (rest s k1 = s1)) (Z1 : Hid (s1.size < 4611686018427387904)) (E2 : Hid (gt s1 = (f, k2, 0))) (R2 : Hid (rest s1 k2 = s2)) (Z2 : Hid (s2.size < 4611686018427387904)) (E3 : Hid (gt s2 = (t, k3, 0))) (R3 : Hid (rest s2 k3 = s3)) (Z3 : Hid (s3.size < 4611686018427387904)) (E4 : Hid (gi s3 9 0 0 = (am, k4, 0))) (R4 : Hid (rest s3 k4 = s4)) (Z4 : Hid (s4.size < 4611686018427387904)) (E5 : Hid (gi s4 9 0 0 = (nc, k5, 0))) (R5 : Hid (rest s4 k5 = s5)) (Z5 : Hid (s5.size < 4611686018427387904)) (E6 : Hid (gt s5 = (ky', k6, 0))) (R6 : Hid (rest s5 k6 = s6)) (Z6 : Hid (s6.size < 4611686018427387904)) (E7 : Hid (gt s6 = (vl, k7, 0))) (R7 : Hid (rest s6 k7 = s7)) (Z7 : Hid (s7.size < 4611686018427387904)) (E8 : Hid (gl s7 8 = (rs, k8, 0))) (R8 : Hid (rest s7 k8 = s8)) (Z8 : Hid (s8.size < 4611686018427387904)) (E9 : Hid (gl s8 8 = (ws, k9, 0))) (R9 : Hid (rest s8 k9 = s9)) (Z9 : Hid (s9.size < 4611686018427387904)) (hk : ¬ kd ≤ 2) :
    Calls Tryd.prog 25 #[.string s] w fun e w' => e = .returned (.tuple #[zagg, .int .i64 2]) ∧ Below w.heap.size w w' := by
  have d1 : decide (kd ≤ 2) = false := decide_eq_false hk
  clear hk
  have hmf : ∀ (fn : Fn) (first cap : Array Value) (w : World), (Instr.makeFunc fn first cap).run Tryd.prog w = .ok (.func fn first cap) w := fun _ _ _ _ => rfl
  go_enter_defers Tryd.func25, Tryd.ntmps25
  have HX := Lib.hid (Dx.first w s)
  go_upto_region 9 with (first
  | (go_at_call 52
     refine (int_ok' (w.heap.size + 1 + 1) s s1 kd k1 _ E1.out R1.out HX.out.rd).mono ?_
     rintro e w2 ⟨rfl, hr⟩
     have HX := Lib.hid (HX.out.read hr)
     have t0 := blk_cell HX.out.tx 0; have u0 := blk_frozen HX.out.tx 0; simp only [List.getElem?_toArray, List.getElem?_cons_zero, List.getElem?_cons_succ] at t0
     have t1 := blk_cell HX.out.tx 1; have u1 := blk_frozen HX.out.tx 1; simp only [List.getElem?_toArray, List.getElem?_cons_zero, List.getElem?_cons_succ] at t1
     have t2 := blk_cell HX.out.tx 2; have u2 := blk_frozen HX.out.tx 2; simp only [List.getElem?_toArray, List.getElem?_cons_zero, List.getElem?_cons_succ] at t2
     have t3 := blk_cell HX.out.tx 3; have u3 := blk_frozen HX.out.tx 3; simp only [List.getElem?_toArray, List.getElem?_cons_zero, List.getElem?_cons_succ] at t3
     have t4 := blk_cell HX.out.tx 4; have u4 := blk_frozen HX.out.tx 4; simp only [List.getElem?_toArray, List.getElem?_cons_zero, List.getElem?_cons_succ] at t4
     have t5 := blk_cell HX.out.tx 5; have u5 := blk_frozen HX.out.tx 5; simp only [List.getElem?_toArray, List.getElem?_cons_zero, List.getElem?_cons_succ] at t5
     have t6 := blk_cell HX.out.tx 6; have u6 := blk_frozen HX.out.tx 6; simp only [List.getElem?_toArray, List.getElem?_cons_zero, List.getElem?_cons_succ] at t6
     have t7 := blk_cell HX.out.tx 7; have u7 := blk_frozen HX.out.tx 7; simp only [List.getElem?_toArray, List.getElem?_cons_zero, List.getElem?_cons_succ] at t7
     have t8 := blk_cell HX.out.tx 8; have u8 := blk_frozen HX.out.tx 8; simp only [List.getElem?_toArray, List.getElem?_cons_zero, List.getElem?_cons_succ] at t8
     clear hr)
  | (go_at_call 53
     refine (text_ok' (w.heap.size + 1 + 1) s1 s2 f k2 _ Z1.out E2.out R2.out HX.out.rd).mono ?_
     rintro e w2 ⟨rfl, hr⟩
     have HX := Lib.hid (HX.out.read hr)
     have t0 := blk_cell HX.out.tx 0; have u0 := blk_frozen HX.out.tx 0; simp only [List.getElem?_toArray, List.getElem?_cons_zero, List.getElem?_cons_succ] at t0
     have t1 := blk_cell HX.out.tx 1; have u1 := blk_frozen HX.out.tx 1; simp only [List.getElem?_toArray, List.getElem?_cons_zero, List.getElem?_cons_succ] at t1
     have t2 := blk_cell HX.out.tx 2; have u2 := blk_frozen HX.out.tx 2; simp only [List.getElem?_toArray, List.getElem?_cons_zero, List.getElem?_cons_succ] at t2
     have t3 := blk_cell HX.out.tx 3; have u3 := blk_frozen HX.out.tx 3; simp only [List.getElem?_toArray, List.getElem?_cons_zero, List.getElem?_cons_succ] at t3
     have t4 := blk_cell HX.out.tx 4; have u4 := blk_frozen HX.out.tx 4; simp only [List.getElem?_toArray, List.getElem?_cons_zero, List.getElem?_cons_succ] at t4
     have t5 := blk_cell HX.out.tx 5; have u5 := blk_frozen HX.out.tx 5; simp only [List.getElem?_toArray, List.getElem?_cons_zero, List.getElem?_cons_succ] at t5
     have t6 := blk_cell HX.out.tx 6; have u6 := blk_frozen HX.out.tx 6; simp only [List.getElem?_toArray, List.getElem?_cons_zero, List.getElem?_cons_succ] at t6
     have t7 := blk_cell HX.out.tx 7; have u7 := blk_frozen HX.out.tx 7; simp only [List.getElem?_toArray, List.getElem?_cons_zero, List.getElem?_cons_succ] at t7
     have t8 := blk_cell HX.out.tx 8; have u8 := blk_frozen HX.out.tx 8; simp only [List.getElem?_toArray, List.getElem?_cons_zero, List.getElem?_cons_succ] at t8
     clear hr)
  | (go_at_call 53
     refine (text_ok' (w.heap.size + 1 + 1) s2 s3 t k3 _ Z2.out E3.out R3.out HX.out.rd).mono ?_
     rintro e w2 ⟨rfl, hr⟩
     have HX := Lib.hid (HX.out.read hr)
     have t0 := blk_cell HX.out.tx 0; have u0 := blk_frozen HX.out.tx 0; simp only [List.getElem?_toArray, List.getElem?_cons_zero, List.getElem?_cons_succ] at t0
     have t1 := blk_cell HX.out.tx 1; have u1 := blk_frozen HX.out.tx 1; simp only [List.getElem?_toArray, List.getElem?_cons_zero, List.getElem?_cons_succ] at t1
     have t2 := blk_cell HX.out.tx 2; have u2 := blk_frozen HX.out.tx 2; simp only [List.getElem?_toArray, List.getElem?_cons_zero, List.getElem?_cons_succ] at t2
     have t3 := blk_cell HX.out.tx 3; have u3 := blk_frozen HX.out.tx 3; simp only [List.getElem?_toArray, List.getElem?_cons_zero, List.getElem?_cons_succ] at t3
     have t4 := blk_cell HX.out.tx 4; have u4 := blk_frozen HX.out.tx 4; simp only [List.getElem?_toArray, List.getElem?_cons_zero, List.getElem?_cons_succ] at t4
     have t5 := blk_cell HX.out.tx 5; have u5 := blk_frozen HX.out.tx 5; simp only [List.getElem?_toArray, List.getElem?_cons_zero, List.getElem?_cons_succ] at t5
     have t6 := blk_cell HX.out.tx 6; have u6 := blk_frozen HX.out.tx 6; simp only [List.getElem?_toArray, List.getElem?_cons_zero, List.getElem?_cons_succ] at t6
     have t7 := blk_cell HX.out.tx 7; have u7 := blk_frozen HX.out.tx 7; simp only [List.getElem?_toArray, List.getElem?_cons_zero, List.getElem?_cons_succ] at t7
     have t8 := blk_cell HX.out.tx 8; have u8 := blk_frozen HX.out.tx 8; simp only [List.getElem?_toArray, List.getElem?_cons_zero, List.getElem?_cons_succ] at t8
     clear hr)
  | (go_at_call 52
     refine (int_ok' (w.heap.size + 1 + 1) s3 s4 am k4 _ E4.out R4.out ((HX.out.set1 (.string f)).set2 (.string t)).rd).mono ?_
     rintro e w2 ⟨rfl, hr⟩
     have HX := Lib.hid (((HX.out.set1 (.string f)).set2 (.string t)).read hr)
     have t0 := blk_cell HX.out.tx 0; have u0 := blk_frozen HX.out.tx 0; simp only [List.getElem?_toArray, List.getElem?_cons_zero, List.getElem?_cons_succ] at t0
     have t1 := blk_cell HX.out.tx 1; have u1 := blk_frozen HX.out.tx 1; simp only [List.getElem?_toArray, List.getElem?_cons_zero, List.getElem?_cons_succ] at t1
     have t2 := blk_cell HX.out.tx 2; have u2 := blk_frozen HX.out.tx 2; simp only [List.getElem?_toArray, List.getElem?_cons_zero, List.getElem?_cons_succ] at t2
     have t3 := blk_cell HX.out.tx 3; have u3 := blk_frozen HX.out.tx 3; simp only [List.getElem?_toArray, List.getElem?_cons_zero, List.getElem?_cons_succ] at t3
     have t4 := blk_cell HX.out.tx 4; have u4 := blk_frozen HX.out.tx 4; simp only [List.getElem?_toArray, List.getElem?_cons_zero, List.getElem?_cons_succ] at t4
     have t5 := blk_cell HX.out.tx 5; have u5 := blk_frozen HX.out.tx 5; simp only [List.getElem?_toArray, List.getElem?_cons_zero, List.getElem?_cons_succ] at t5
     have t6 := blk_cell HX.out.tx 6; have u6 := blk_frozen HX.out.tx 6; simp only [List.getElem?_toArray, List.getElem?_cons_zero, List.getElem?_cons_succ] at t6
     have t7 := blk_cell HX.out.tx 7; have u7 := blk_frozen HX.out.tx 7; simp only [List.getElem?_toArray, List.getElem?_cons_zero, List.getElem?_cons_succ] at t7
     have t8 := blk_cell HX.out.tx 8; have u8 := blk_frozen HX.out.tx 8; simp only [List.getElem?_toArray, List.getElem?_cons_zero, List.getElem?_cons_succ] at t8
     clear hr)
  | (go_at_call 52
     refine (int_ok' (w.heap.size + 1 + 1) s4 s5 nc k5 _ E5.out R5.out HX.out.rd).mono ?_
     rintro e w2 ⟨rfl, hr⟩
     have HX := Lib.hid (HX.out.read hr)
     have t0 := blk_cell HX.out.tx 0; have u0 := blk_frozen HX.out.tx 0; simp only [List.getElem?_toArray, List.getElem?_cons_zero, List.getElem?_cons_succ] at t0
     have t1 := blk_cell HX.out.tx 1; have u1 := blk_frozen HX.out.tx 1; simp only [List.getElem?_toArray, List.getElem?_cons_zero, List.getElem?_cons_succ] at t1
     have t2 := blk_cell HX.out.tx 2; have u2 := blk_frozen HX.out.tx 2; simp only [List.getElem?_toArray, List.getElem?_cons_zero, List.getElem?_cons_succ] at t2
     have t3 := blk_cell HX.out.tx 3; have u3 := blk_frozen HX.out.tx 3; simp only [List.getElem?_toArray, List.getElem?_cons_zero, List.getElem?_cons_succ] at t3
     have t4 := blk_cell HX.out.tx 4; have u4 := blk_frozen HX.out.tx 4; simp only [List.getElem?_toArray, List.getElem?_cons_zero, List.getElem?_cons_succ] at t4
     have t5 := blk_cell HX.out.tx 5; have u5 := blk_frozen HX.out.tx 5; simp only [List.getElem?_toArray, List.getElem?_cons_zero, List.getElem?_cons_succ] at t5
     have t6 := blk_cell HX.out.tx 6; have u6 := blk_frozen HX.out.tx 6; simp only [List.getElem?_toArray, List.getElem?_cons_zero, List.getElem?_cons_succ] at t6
     have t7 := blk_cell HX.out.tx 7; have u7 := blk_frozen HX.out.tx 7; simp only [List.getElem?_toArray, List.getElem?_cons_zero, List.getElem?_cons_succ] at t7
     have t8 := blk_cell HX.out.tx 8; have u8 := blk_frozen HX.out.tx 8; simp only [List.getElem?_toArray, List.getElem?_cons_zero, List.getElem?_cons_succ] at t8
     clear hr)
  | (go_at_call 53
     refine (text_ok' (w.heap.size + 1 + 1) s5 s6 ky' k6 _ Z5.out E6.out R6.out ((HX.out.set3 (.int .u64 am)).set4 (.int .u64 nc)).rd).mono ?_
     rintro e w2 ⟨rfl, hr⟩
     have HX := Lib.hid (((HX.out.set3 (.int .u64 am)).set4 (.int .u64 nc)).read hr)
     have t0 := blk_cell HX.out.tx 0; have u0 := blk_frozen HX.out.tx 0; simp only [List.getElem?_toArray, List.getElem?_cons_zero, List.getElem?_cons_succ] at t0
     have t1 := blk_cell HX.out.tx 1; have u1 := blk_frozen HX.out.tx 1; simp only [List.getElem?_toArray, List.getElem?_cons_zero, List.getElem?_cons_succ] at t1
     have t2 := blk_cell HX.out.tx 2; have u2 := blk_frozen HX.out.tx 2; simp only [List.getElem?_toArray, List.getElem?_cons_zero, List.getElem?_cons_succ] at t2
     have t3 := blk_cell HX.out.tx 3; have u3 := blk_frozen HX.out.tx 3; simp only [List.getElem?_toArray, List.getElem?_cons_zero, List.getElem?_cons_succ] at t3
     have t4 := blk_cell HX.out.tx 4; have u4 := blk_frozen HX.out.tx 4; simp only [List.getElem?_toArray, List.getElem?_cons_zero, List.getElem?_cons_succ] at t4
     have t5 := blk_cell HX.out.tx 5; have u5 := blk_frozen HX.out.tx 5; simp only [List.getElem?_toArray, List.getElem?_cons_zero, List.getElem?_cons_succ] at t5
     have t6 := blk_cell HX.out.tx 6; have u6 := blk_frozen HX.out.tx 6; simp only [List.getElem?_toArray, List.getElem?_cons_zero, List.getElem?_cons_succ] at t6
     have t7 := blk_cell HX.out.tx 7; have u7 := blk_frozen HX.out.tx 7; simp only [List.getElem?_toArray, List.getElem?_cons_zero, List.getElem?_cons_succ] at t7
     have t8 := blk_cell HX.out.tx 8; have u8 := blk_frozen HX.out.tx 8; simp only [List.getElem?_toArray, List.getElem?_cons_zero, List.getElem?_cons_succ] at t8
     clear hr)
  | (go_at_call 53
     refine (text_ok' (w.heap.size + 1 + 1) s6 s7 vl k7 _ Z6.out E7.out R7.out HX.out.rd).mono ?_
     rintro e w2 ⟨rfl, hr⟩
     have HX := Lib.hid (HX.out.read hr)
     have t0 := blk_cell HX.out.tx 0; have u0 := blk_frozen HX.out.tx 0; simp only [List.getElem?_toArray, List.getElem?_cons_zero, List.getElem?_cons_succ] at t0
     have t1 := blk_cell HX.out.tx 1; have u1 := blk_frozen HX.out.tx 1; simp only [List.getElem?_toArray, List.getElem?_cons_zero, List.getElem?_cons_succ] at t1
     have t2 := blk_cell HX.out.tx 2; have u2 := blk_frozen HX.out.tx 2; simp only [List.getElem?_toArray, List.getElem?_cons_zero, List.getElem?_cons_succ] at t2
     have t3 := blk_cell HX.out.tx 3; have u3 := blk_frozen HX.out.tx 3; simp only [List.getElem?_toArray, List.getElem?_cons_zero, List.getElem?_cons_succ] at t3
     have t4 := blk_cell HX.out.tx 4; have u4 := blk_frozen HX.out.tx 4; simp only [List.getElem?_toArray, List.getElem?_cons_zero, List.getElem?_cons_succ] at t4
     have t5 := blk_cell HX.out.tx 5; have u5 := blk_frozen HX.out.tx 5; simp only [List.getElem?_toArray, List.getElem?_cons_zero, List.getElem?_cons_succ] at t5
     have t6 := blk_cell HX.out.tx 6; have u6 := blk_frozen HX.out.tx 6; simp only [List.getElem?_toArray, List.getElem?_cons_zero, List.getElem?_cons_succ] at t6
     have t7 := blk_cell HX.out.tx 7; have u7 := blk_frozen HX.out.tx 7; simp only [List.getElem?_toArray, List.getElem?_cons_zero, List.getElem?_cons_succ] at t7
     have t8 := blk_cell HX.out.tx 8; have u8 := blk_frozen HX.out.tx 8; simp only [List.getElem?_toArray, List.getElem?_cons_zero, List.getElem?_cons_succ] at t8
     clear hr)
  | (go_at_call 54
     refine (list_ok' (w.heap.size + 1 + 1) s7 s8 rs k8 _ Z7.out E8.out R8.out ((HX.out.set5 (.string ky')).set6 (.string vl)).rd).mono ?_
     rintro e w2 ⟨v7, rfl, hR7, hr⟩
     obtain ⟨A7, c7, rfl, hc7, hC7⟩ := Kd.R_reads hR7
     have HC7 := Lib.hid hc7
     clear hc7 hC7
     have HR7 := Lib.hid hR7
     have HB7 := Lib.hid (((HX.out.set5 (.string ky')).set6 (.string vl)).low.size)
     have HX := Lib.hid (((HX.out.set5 (.string ky')).set6 (.string vl)).read hr)
     have t0 := blk_cell HX.out.tx 0; have u0 := blk_frozen HX.out.tx 0; simp only [List.getElem?_toArray, List.getElem?_cons_zero, List.getElem?_cons_succ] at t0
     have t1 := blk_cell HX.out.tx 1; have u1 := blk_frozen HX.out.tx 1; simp only [List.getElem?_toArray, List.getElem?_cons_zero, List.getElem?_cons_succ] at t1
     have t2 := blk_cell HX.out.tx 2; have u2 := blk_frozen HX.out.tx 2; simp only [List.getElem?_toArray, List.getElem?_cons_zero, List.getElem?_cons_succ] at t2
     have t3 := blk_cell HX.out.tx 3; have u3 := blk_frozen HX.out.tx 3; simp only [List.getElem?_toArray, List.getElem?_cons_zero, List.getElem?_cons_succ] at t3
     have t4 := blk_cell HX.out.tx 4; have u4 := blk_frozen HX.out.tx 4; simp only [List.getElem?_toArray, List.getElem?_cons_zero, List.getElem?_cons_succ] at t4
     have t5 := blk_cell HX.out.tx 5; have u5 := blk_frozen HX.out.tx 5; simp only [List.getElem?_toArray, List.getElem?_cons_zero, List.getElem?_cons_succ] at t5
     have t6 := blk_cell HX.out.tx 6; have u6 := blk_frozen HX.out.tx 6; simp only [List.getElem?_toArray, List.getElem?_cons_zero, List.getElem?_cons_succ] at t6
     have t7 := blk_cell HX.out.tx 7; have u7 := blk_frozen HX.out.tx 7; simp only [List.getElem?_toArray, List.getElem?_cons_zero, List.getElem?_cons_succ] at t7
     have t8 := blk_cell HX.out.tx 8; have u8 := blk_frozen HX.out.tx 8; simp only [List.getElem?_toArray, List.getElem?_cons_zero, List.getElem?_cons_succ] at t8
     clear hr hR7)
  | (go_at_call 54
     refine (list_ok' (w.heap.size + 1 + 1) s8 s9 ws k9 _ Z8.out E9.out R9.out HX.out.rd).mono ?_
     rintro e w2 ⟨v8, rfl, hR8, hr⟩
     have HR7 := Lib.hid (hr.row HR7.out)
     obtain ⟨A8, c8, rfl, hc8, hC8⟩ := Kd.R_reads hR8
     have HC8 := Lib.hid hc8
     clear hc8 hC8
     have HR8 := Lib.hid hR8
     have HB8 := Lib.hid (HX.out.low.size)
     have HX := Lib.hid (HX.out.read hr)
     have t0 := blk_cell HX.out.tx 0; have u0 := blk_frozen HX.out.tx 0; simp only [List.getElem?_toArray, List.getElem?_cons_zero, List.getElem?_cons_succ] at t0
     have t1 := blk_cell HX.out.tx 1; have u1 := blk_frozen HX.out.tx 1; simp only [List.getElem?_toArray, List.getElem?_cons_zero, List.getElem?_cons_succ] at t1
     have t2 := blk_cell HX.out.tx 2; have u2 := blk_frozen HX.out.tx 2; simp only [List.getElem?_toArray, List.getElem?_cons_zero, List.getElem?_cons_succ] at t2
     have t3 := blk_cell HX.out.tx 3; have u3 := blk_frozen HX.out.tx 3; simp only [List.getElem?_toArray, List.getElem?_cons_zero, List.getElem?_cons_succ] at t3
     have t4 := blk_cell HX.out.tx 4; have u4 := blk_frozen HX.out.tx 4; simp only [List.getElem?_toArray, List.getElem?_cons_zero, List.getElem?_cons_succ] at t4
     have t5 := blk_cell HX.out.tx 5; have u5 := blk_frozen HX.out.tx 5; simp only [List.getElem?_toArray, List.getElem?_cons_zero, List.getElem?_cons_succ] at t5
     have t6 := blk_cell HX.out.tx 6; have u6 := blk_frozen HX.out.tx 6; simp only [List.getElem?_toArray, List.getElem?_cons_zero, List.getElem?_cons_succ] at t6
     have t7 := blk_cell HX.out.tx 7; have u7 := blk_frozen HX.out.tx 7; simp only [List.getElem?_toArray, List.getElem?_cons_zero, List.getElem?_cons_succ] at t7
     have t8 := blk_cell HX.out.tx 8; have u8 := blk_frozen HX.out.tx 8; simp only [List.getElem?_toArray, List.getElem?_cons_zero, List.getElem?_cons_succ] at t8
     clear hr hR8))
  have HX := Lib.hid ((HX.out.set7 (.slice A7 rs.length c7)).set8 (.slice A8 ws.length c8))
  go_wp2_with (first | (go_at_call 55; first | (with_reducible refine (check_ok _ _).mono ?_; rintro e w'' ⟨rfl, hw⟩; have hw := hw.symm; subst hw) | (with_reducible refine (check_no _ _).mono ?_; rintro e w'' ⟨rfl, hw⟩; have hw := hw.symm; subst hw)))
  refine leaves_cons (f := 51) (args := #[.pointer (some ⟨w.heap.size + 1, 0, none⟩)]) (by simp) (by simp [go_sem]) ?_
  refine (caught_panicking ⟨w.heap.size + 1, 0, none⟩ 0 2 [] _ (blk_cell HX.out.er 0) (blk_frozen HX.out.er 0)).mono ?_
  rintro e u' w'' ⟨rfl, rfl, rfl⟩
  refine leaves_cons (f := 50) (args := #[.pointer (some ⟨w.heap.size + 1, 0, none⟩), .pointer (some ⟨w.heap.size, 0, none⟩)]) (by simp [settle]) (by simp [go_sem]) ?_
  have hdied := HX.out.died 2
  refine (undo_yes (w.heap.size + 1) w.heap.size 2 (by decide) _ _ _ _ _ _ _ _ _ _ hdied.1 hdied.2.1).mono ?_
  rintro e u' w'' ⟨rfl, rfl, rfl⟩
  have hz := zset_box _ w.heap.size _ _ _ _ _ _ _ _ _ hdied.2.1
  have hze := (zset_blk _ w.heap.size (w.heap.size + 1) (by omega)).trans hdied.1
  have hzb := zset_below hdied.2.2 (Nat.le_refl _)
  generalize zset _ w.heap.size = Z at hz hze hzb ⊢
  have d0 : Z.cell? ⟨w.heap.size, 0, none⟩ = some (.int .i64 0) := blk_cell hz 0
  have d1 : Z.cell? ⟨w.heap.size, 1, none⟩ = some (.string ⟨#[]⟩) := blk_cell hz 1
  have d2 : Z.cell? ⟨w.heap.size, 2, none⟩ = some (.string ⟨#[]⟩) := blk_cell hz 2
  have d3 : Z.cell? ⟨w.heap.size, 3, none⟩ = some (.int .u64 0) := blk_cell hz 3
  have d4 : Z.cell? ⟨w.heap.size, 4, none⟩ = some (.int .u64 0) := blk_cell hz 4
  have d5 : Z.cell? ⟨w.heap.size, 5, none⟩ = some (.string ⟨#[]⟩) := blk_cell hz 5
  have d6 : Z.cell? ⟨w.heap.size, 6, none⟩ = some (.string ⟨#[]⟩) := blk_cell hz 6
  have d7 : Z.cell? ⟨w.heap.size, 7, none⟩ = some (.slice none 0 0) := blk_cell hz 7
  have d8 : Z.cell? ⟨w.heap.size, 8, none⟩ = some (.slice none 0 0) := blk_cell hz 8
  have de : Z.cell? ⟨w.heap.size + 1, 0, none⟩ = some (.int .i64 (2)) := blk_cell hze 0
  clear hz hze hdied
  have HZ := Lib.hid hzb
  clear hzb
  simp [Leaves, settle, results, Tryd.results25, go_sem, d0, d1, d2, d3, d4, d5, d6, d7, d8, de]
  exact ⟨rfl, HZ.out⟩
set_option maxHeartbeats 8000000 in
set_option maxRecDepth 100000 in
theorem dec_more (s s1 s2 s3 s4 s5 s6 s7 s8 s9 : ByteArray) (kd : Int) (k1 : Int) (f : ByteArray) (k2 : Int) (t : ByteArray) (k3 : Int) (am : Int) (k4 : Int) (nc : Int) (k5 : Int) (ky' : ByteArray) (k6 : Int) (vl : ByteArray) (k7 : Int) (rs : List ByteArray) (k8 : Int) (ws : List ByteArray) (k9 : Int) (w : World) (E1 : Hid (gi s 9 0 0 = (kd, k1, 0))) (R1 : Hid (rest s k1 = s1)) (Z1 : Hid (s1.size < 4611686018427387904)) (E2 : Hid (gt s1 = (f, k2, 0))) (R2 : Hid (rest s1 k2 = s2)) (Z2 : Hid (s2.size < 4611686018427387904)) (E3 : Hid (gt s2 = (t, k3, 0))) (R3 : Hid (rest s2 k3 = s3)) (Z3 : Hid (s3.size < 4611686018427387904)) (E4 : Hid (gi s3 9 0 0 = (am, k4, 0))) (R4 : Hid (rest s3 k4 = s4)) (Z4 : Hid (s4.size < 4611686018427387904)) (E5 : Hid (gi s4 9 0 0 = (nc, k5, 0))) (R5 : Hid (rest s4 k5 = s5)) (Z5 : Hid (s5.size < 4611686018427387904)) (E6 : Hid (gt s5 = (ky', k6, 0))) (R6 : Hid (rest s5 k6 = s6)) (Z6 : Hid (s6.size < 4611686018427387904)) (E7 : Hid (gt s6 = (vl, k7, 0))) (R7 : Hid (rest s6 k7 = s7)) (Z7 : Hid (s7.size < 4611686018427387904)) (E8 : Hid (gl s7 8 = (rs, k8, 0))) (R8 : Hid (rest s7 k8 = s8)) (Z8 : Hid (s8.size < 4611686018427387904)) (E9 : Hid (gl s8 8 = (ws, k9, 0))) (R9 : Hid (rest s8 k9 = s9)) (Z9 : Hid (s9.size < 4611686018427387904)) (hk : kd ≤ 2) (h9 : s9.toList.isEmpty = false) :
    Calls Tryd.prog 25 #[.string s] w fun e w' => e = .returned (.tuple #[zagg, .int .i64 6]) ∧ Below w.heap.size w w' := by
  have d1 : decide (kd ≤ 2) = true := decide_eq_true hk
  clear hk
  have hmf : ∀ (fn : Fn) (first cap : Array Value) (w : World), (Instr.makeFunc fn first cap).run Tryd.prog w = .ok (.func fn first cap) w := fun _ _ _ _ => rfl
  go_enter_defers Tryd.func25, Tryd.ntmps25
  have HX := Lib.hid (Dx.first w s)
  go_upto_region 9 with (first
  | (go_at_call 52
     refine (int_ok' (w.heap.size + 1 + 1) s s1 kd k1 _ E1.out R1.out HX.out.rd).mono ?_
     rintro e w2 ⟨rfl, hr⟩
     have HX := Lib.hid (HX.out.read hr)
     have t0 := blk_cell HX.out.tx 0; have u0 := blk_frozen HX.out.tx 0; simp only [List.getElem?_toArray, List.getElem?_cons_zero, List.getElem?_cons_succ] at t0
     have t1 := blk_cell HX.out.tx 1; have u1 := blk_frozen HX.out.tx 1; simp only [List.getElem?_toArray, List.getElem?_cons_zero, List.getElem?_cons_succ] at t1
     have t2 := blk_cell HX.out.tx 2; have u2 := blk_frozen HX.out.tx 2; simp only [List.getElem?_toArray, List.getElem?_cons_zero, List.getElem?_cons_succ] at t2
     have t3 := blk_cell HX.out.tx 3; have u3 := blk_frozen HX.out.tx 3; simp only [List.getElem?_toArray, List.getElem?_cons_zero, List.getElem?_cons_succ] at t3
     have t4 := blk_cell HX.out.tx 4; have u4 := blk_frozen HX.out.tx 4; simp only [List.getElem?_toArray, List.getElem?_cons_zero, List.getElem?_cons_succ] at t4
     have t5 := blk_cell HX.out.tx 5; have u5 := blk_frozen HX.out.tx 5; simp only [List.getElem?_toArray, List.getElem?_cons_zero, List.getElem?_cons_succ] at t5
     have t6 := blk_cell HX.out.tx 6; have u6 := blk_frozen HX.out.tx 6; simp only [List.getElem?_toArray, List.getElem?_cons_zero, List.getElem?_cons_succ] at t6
     have t7 := blk_cell HX.out.tx 7; have u7 := blk_frozen HX.out.tx 7; simp only [List.getElem?_toArray, List.getElem?_cons_zero, List.getElem?_cons_succ] at t7
     have t8 := blk_cell HX.out.tx 8; have u8 := blk_frozen HX.out.tx 8; simp only [List.getElem?_toArray, List.getElem?_cons_zero, List.getElem?_cons_succ] at t8
     clear hr)
  | (go_at_call 53
     refine (text_ok' (w.heap.size + 1 + 1) s1 s2 f k2 _ Z1.out E2.out R2.out HX.out.rd).mono ?_
     rintro e w2 ⟨rfl, hr⟩
     have HX := Lib.hid (HX.out.read hr)
     have t0 := blk_cell HX.out.tx 0; have u0 := blk_frozen HX.out.tx 0; simp only [List.getElem?_toArray, List.getElem?_cons_zero, List.getElem?_cons_succ] at t0
     have t1 := blk_cell HX.out.tx 1; have u1 := blk_frozen HX.out.tx 1; simp only [List.getElem?_toArray, List.getElem?_cons_zero, List.getElem?_cons_succ] at t1
     have t2 := blk_cell HX.out.tx 2; have u2 := blk_frozen HX.out.tx 2; simp only [List.getElem?_toArray, List.getElem?_cons_zero, List.getElem?_cons_succ] at t2
     have t3 := blk_cell HX.out.tx 3; have u3 := blk_frozen HX.out.tx 3; simp only [List.getElem?_toArray, List.getElem?_cons_zero, List.getElem?_cons_succ] at t3
     have t4 := blk_cell HX.out.tx 4; have u4 := blk_frozen HX.out.tx 4; simp only [List.getElem?_toArray, List.getElem?_cons_zero, List.getElem?_cons_succ] at t4
     have t5 := blk_cell HX.out.tx 5; have u5 := blk_frozen HX.out.tx 5; simp only [List.getElem?_toArray, List.getElem?_cons_zero, List.getElem?_cons_succ] at t5
     have t6 := blk_cell HX.out.tx 6; have u6 := blk_frozen HX.out.tx 6; simp only [List.getElem?_toArray, List.getElem?_cons_zero, List.getElem?_cons_succ] at t6
     have t7 := blk_cell HX.out.tx 7; have u7 := blk_frozen HX.out.tx 7; simp only [List.getElem?_toArray, List.getElem?_cons_zero, List.getElem?_cons_succ] at t7
     have t8 := blk_cell HX.out.tx 8; have u8 := blk_frozen HX.out.tx 8; simp only [List.getElem?_toArray, List.getElem?_cons_zero, List.getElem?_cons_succ] at t8
     clear hr)
  | (go_at_call 53
     refine (text_ok' (w.heap.size + 1 + 1) s2 s3 t k3 _ Z2.out E3.out R3.out HX.out.rd).mono ?_
     rintro e w2 ⟨rfl, hr⟩
     have HX := Lib.hid (HX.out.read hr)
     have t0 := blk_cell HX.out.tx 0; have u0 := blk_frozen HX.out.tx 0; simp only [List.getElem?_toArray, List.getElem?_cons_zero, List.getElem?_cons_succ] at t0
     have t1 := blk_cell HX.out.tx 1; have u1 := blk_frozen HX.out.tx 1; simp only [List.getElem?_toArray, List.getElem?_cons_zero, List.getElem?_cons_succ] at t1
     have t2 := blk_cell HX.out.tx 2; have u2 := blk_frozen HX.out.tx 2; simp only [List.getElem?_toArray, List.getElem?_cons_zero, List.getElem?_cons_succ] at t2
     have t3 := blk_cell HX.out.tx 3; have u3 := blk_frozen HX.out.tx 3; simp only [List.getElem?_toArray, List.getElem?_cons_zero, List.getElem?_cons_succ] at t3
     have t4 := blk_cell HX.out.tx 4; have u4 := blk_frozen HX.out.tx 4; simp only [List.getElem?_toArray, List.getElem?_cons_zero, List.getElem?_cons_succ] at t4
     have t5 := blk_cell HX.out.tx 5; have u5 := blk_frozen HX.out.tx 5; simp only [List.getElem?_toArray, List.getElem?_cons_zero, List.getElem?_cons_succ] at t5
     have t6 := blk_cell HX.out.tx 6; have u6 := blk_frozen HX.out.tx 6; simp only [List.getElem?_toArray, List.getElem?_cons_zero, List.getElem?_cons_succ] at t6
     have t7 := blk_cell HX.out.tx 7; have u7 := blk_frozen HX.out.tx 7; simp only [List.getElem?_toArray, List.getElem?_cons_zero, List.getElem?_cons_succ] at t7
     have t8 := blk_cell HX.out.tx 8; have u8 := blk_frozen HX.out.tx 8; simp only [List.getElem?_toArray, List.getElem?_cons_zero, List.getElem?_cons_succ] at t8
     clear hr)
  | (go_at_call 52
     refine (int_ok' (w.heap.size + 1 + 1) s3 s4 am k4 _ E4.out R4.out ((HX.out.set1 (.string f)).set2 (.string t)).rd).mono ?_
     rintro e w2 ⟨rfl, hr⟩
     have HX := Lib.hid (((HX.out.set1 (.string f)).set2 (.string t)).read hr)
     have t0 := blk_cell HX.out.tx 0; have u0 := blk_frozen HX.out.tx 0; simp only [List.getElem?_toArray, List.getElem?_cons_zero, List.getElem?_cons_succ] at t0
     have t1 := blk_cell HX.out.tx 1; have u1 := blk_frozen HX.out.tx 1; simp only [List.getElem?_toArray, List.getElem?_cons_zero, List.getElem?_cons_succ] at t1
     have t2 := blk_cell HX.out.tx 2; have u2 := blk_frozen HX.out.tx 2; simp only [List.getElem?_toArray, List.getElem?_cons_zero, List.getElem?_cons_succ] at t2
     have t3 := blk_cell HX.out.tx 3; have u3 := blk_frozen HX.out.tx 3; simp only [List.getElem?_toArray, List.getElem?_cons_zero, List.getElem?_cons_succ] at t3
     have t4 := blk_cell HX.out.tx 4; have u4 := blk_frozen HX.out.tx 4; simp only [List.getElem?_toArray, List.getElem?_cons_zero, List.getElem?_cons_succ] at t4
     have t5 := blk_cell HX.out.tx 5; have u5 := blk_frozen HX.out.tx 5; simp only [List.getElem?_toArray, List.getElem?_cons_zero, List.getElem?_cons_succ] at t5
     have t6 := blk_cell HX.out.tx 6; have u6 := blk_frozen HX.out.tx 6; simp only [List.getElem?_toArray, List.getElem?_cons_zero, List.getElem?_cons_succ] at t6
     have t7 := blk_cell HX.out.tx 7; have u7 := blk_frozen HX.out.tx 7; simp only [List.getElem?_toArray, List.getElem?_cons_zero, List.getElem?_cons_succ] at t7
     have t8 := blk_cell HX.out.tx 8; have u8 := blk_frozen HX.out.tx 8; simp only [List.getElem?_toArray, List.getElem?_cons_zero, List.getElem?_cons_succ] at t8
     clear hr)
  | (go_at_call 52
     refine (int_ok' (w.heap.size + 1 + 1) s4 s5 nc k5 _ E5.out R5.out HX.out.rd).mono ?_
     rintro e w2 ⟨rfl, hr⟩
     have HX := Lib.hid (HX.out.read hr)
     have t0 := blk_cell HX.out.tx 0; have u0 := blk_frozen HX.out.tx 0; simp only [List.getElem?_toArray, List.getElem?_cons_zero, List.getElem?_cons_succ] at t0
     have t1 := blk_cell HX.out.tx 1; have u1 := blk_frozen HX.out.tx 1; simp only [List.getElem?_toArray, List.getElem?_cons_zero, List.getElem?_cons_succ] at t1
     have t2 := blk_cell HX.out.tx 2; have u2 := blk_frozen HX.out.tx 2; simp only [List.getElem?_toArray, List.getElem?_cons_zero, List.getElem?_cons_succ] at t2
     have t3 := blk_cell HX.out.tx 3; have u3 := blk_frozen HX.out.tx 3; simp only [List.getElem?_toArray, List.getElem?_cons_zero, List.getElem?_cons_succ] at t3
     have t4 := blk_cell HX.out.tx 4; have u4 := blk_frozen HX.out.tx 4; simp only [List.getElem?_toArray, List.getElem?_cons_zero, List.getElem?_cons_succ] at t4
     have t5 := blk_cell HX.out.tx 5; have u5 := blk_frozen HX.out.tx 5; simp only [List.getElem?_toArray, List.getElem?_cons_zero, List.getElem?_cons_succ] at t5
     have t6 := blk_cell HX.out.tx 6; have u6 := blk_frozen HX.out.tx 6; simp only [List.getElem?_toArray, List.getElem?_cons_zero, List.getElem?_cons_succ] at t6
     have t7 := blk_cell HX.out.tx 7; have u7 := blk_frozen HX.out.tx 7; simp only [List.getElem?_toArray, List.getElem?_cons_zero, List.getElem?_cons_succ] at t7
     have t8 := blk_cell HX.out.tx 8; have u8 := blk_frozen HX.out.tx 8; simp only [List.getElem?_toArray, List.getElem?_cons_zero, List.getElem?_cons_succ] at t8
     clear hr)
  | (go_at_call 53
     refine (text_ok' (w.heap.size + 1 + 1) s5 s6 ky' k6 _ Z5.out E6.out R6.out ((HX.out.set3 (.int .u64 am)).set4 (.int .u64 nc)).rd).mono ?_
     rintro e w2 ⟨rfl, hr⟩
     have HX := Lib.hid (((HX.out.set3 (.int .u64 am)).set4 (.int .u64 nc)).read hr)
     have t0 := blk_cell HX.out.tx 0; have u0 := blk_frozen HX.out.tx 0; simp only [List.getElem?_toArray, List.getElem?_cons_zero, List.getElem?_cons_succ] at t0
     have t1 := blk_cell HX.out.tx 1; have u1 := blk_frozen HX.out.tx 1; simp only [List.getElem?_toArray, List.getElem?_cons_zero, List.getElem?_cons_succ] at t1
     have t2 := blk_cell HX.out.tx 2; have u2 := blk_frozen HX.out.tx 2; simp only [List.getElem?_toArray, List.getElem?_cons_zero, List.getElem?_cons_succ] at t2
     have t3 := blk_cell HX.out.tx 3; have u3 := blk_frozen HX.out.tx 3; simp only [List.getElem?_toArray, List.getElem?_cons_zero, List.getElem?_cons_succ] at t3
     have t4 := blk_cell HX.out.tx 4; have u4 := blk_frozen HX.out.tx 4; simp only [List.getElem?_toArray, List.getElem?_cons_zero, List.getElem?_cons_succ] at t4
     have t5 := blk_cell HX.out.tx 5; have u5 := blk_frozen HX.out.tx 5; simp only [List.getElem?_toArray, List.getElem?_cons_zero, List.getElem?_cons_succ] at t5
     have t6 := blk_cell HX.out.tx 6; have u6 := blk_frozen HX.out.tx 6; simp only [List.getElem?_toArray, List.getElem?_cons_zero, List.getElem?_cons_succ] at t6
     have t7 := blk_cell HX.out.tx 7; have u7 := blk_frozen HX.out.tx 7; simp only [List.getElem?_toArray, List.getElem?_cons_zero, List.getElem?_cons_succ] at t7
     have t8 := blk_cell HX.out.tx 8; have u8 := blk_frozen HX.out.tx 8; simp only [List.getElem?_toArray, List.getElem?_cons_zero, List.getElem?_cons_succ] at t8
     clear hr)
  | (go_at_call 53
     refine (text_ok' (w.heap.size + 1 + 1) s6 s7 vl k7 _ Z6.out E7.out R7.out HX.out.rd).mono ?_
     rintro e w2 ⟨rfl, hr⟩
     have HX := Lib.hid (HX.out.read hr)
     have t0 := blk_cell HX.out.tx 0; have u0 := blk_frozen HX.out.tx 0; simp only [List.getElem?_toArray, List.getElem?_cons_zero, List.getElem?_cons_succ] at t0
     have t1 := blk_cell HX.out.tx 1; have u1 := blk_frozen HX.out.tx 1; simp only [List.getElem?_toArray, List.getElem?_cons_zero, List.getElem?_cons_succ] at t1
     have t2 := blk_cell HX.out.tx 2; have u2 := blk_frozen HX.out.tx 2; simp only [List.getElem?_toArray, List.getElem?_cons_zero, List.getElem?_cons_succ] at t2
     have t3 := blk_cell HX.out.tx 3; have u3 := blk_frozen HX.out.tx 3; simp only [List.getElem?_toArray, List.getElem?_cons_zero, List.getElem?_cons_succ] at t3
     have t4 := blk_cell HX.out.tx 4; have u4 := blk_frozen HX.out.tx 4; simp only [List.getElem?_toArray, List.getElem?_cons_zero, List.getElem?_cons_succ] at t4
     have t5 := blk_cell HX.out.tx 5; have u5 := blk_frozen HX.out.tx 5; simp only [List.getElem?_toArray, List.getElem?_cons_zero, List.getElem?_cons_succ] at t5
     have t6 := blk_cell HX.out.tx 6; have u6 := blk_frozen HX.out.tx 6; simp only [List.getElem?_toArray, List.getElem?_cons_zero, List.getElem?_cons_succ] at t6
     have t7 := blk_cell HX.out.tx 7; have u7 := blk_frozen HX.out.tx 7; simp only [List.getElem?_toArray, List.getElem?_cons_zero, List.getElem?_cons_succ] at t7
     have t8 := blk_cell HX.out.tx 8; have u8 := blk_frozen HX.out.tx 8; simp only [List.getElem?_toArray, List.getElem?_cons_zero, List.getElem?_cons_succ] at t8
     clear hr)
  | (go_at_call 54
     refine (list_ok' (w.heap.size + 1 + 1) s7 s8 rs k8 _ Z7.out E8.out R8.out ((HX.out.set5 (.string ky')).set6 (.string vl)).rd).mono ?_
     rintro e w2 ⟨v7, rfl, hR7, hr⟩
     obtain ⟨A7, c7, rfl, hc7, hC7⟩ := Kd.R_reads hR7
     have HC7 := Lib.hid hc7
     clear hc7 hC7
     have HR7 := Lib.hid hR7
     have HB7 := Lib.hid (((HX.out.set5 (.string ky')).set6 (.string vl)).low.size)
     have HX := Lib.hid (((HX.out.set5 (.string ky')).set6 (.string vl)).read hr)
     have t0 := blk_cell HX.out.tx 0; have u0 := blk_frozen HX.out.tx 0; simp only [List.getElem?_toArray, List.getElem?_cons_zero, List.getElem?_cons_succ] at t0
     have t1 := blk_cell HX.out.tx 1; have u1 := blk_frozen HX.out.tx 1; simp only [List.getElem?_toArray, List.getElem?_cons_zero, List.getElem?_cons_succ] at t1
     have t2 := blk_cell HX.out.tx 2; have u2 := blk_frozen HX.out.tx 2; simp only [List.getElem?_toArray, List.getElem?_cons_zero, List.getElem?_cons_succ] at t2
     have t3 := blk_cell HX.out.tx 3; have u3 := blk_frozen HX.out.tx 3; simp only [List.getElem?_toArray, List.getElem?_cons_zero, List.getElem?_cons_succ] at t3
     have t4 := blk_cell HX.out.tx 4; have u4 := blk_frozen HX.out.tx 4; simp only [List.getElem?_toArray, List.getElem?_cons_zero, List.getElem?_cons_succ] at t4
     have t5 := blk_cell HX.out.tx 5; have u5 := blk_frozen HX.out.tx 5; simp only [List.getElem?_toArray, List.getElem?_cons_zero, List.getElem?_cons_succ] at t5
     have t6 := blk_cell HX.out.tx 6; have u6 := blk_frozen HX.out.tx 6; simp only [List.getElem?_toArray, List.getElem?_cons_zero, List.getElem?_cons_succ] at t6
     have t7 := blk_cell HX.out.tx 7; have u7 := blk_frozen HX.out.tx 7; simp only [List.getElem?_toArray, List.getElem?_cons_zero, List.getElem?_cons_succ] at t7
     have t8 := blk_cell HX.out.tx 8; have u8 := blk_frozen HX.out.tx 8; simp only [List.getElem?_toArray, List.getElem?_cons_zero, List.getElem?_cons_succ] at t8
     clear hr hR7)
  | (go_at_call 54
     refine (list_ok' (w.heap.size + 1 + 1) s8 s9 ws k9 _ Z8.out E9.out R9.out HX.out.rd).mono ?_
     rintro e w2 ⟨v8, rfl, hR8, hr⟩
     have HR7 := Lib.hid (hr.row HR7.out)
     obtain ⟨A8, c8, rfl, hc8, hC8⟩ := Kd.R_reads hR8
     have HC8 := Lib.hid hc8
     clear hc8 hC8
     have HR8 := Lib.hid hR8
     have HB8 := Lib.hid (HX.out.low.size)
     have HX := Lib.hid (HX.out.read hr)
     have t0 := blk_cell HX.out.tx 0; have u0 := blk_frozen HX.out.tx 0; simp only [List.getElem?_toArray, List.getElem?_cons_zero, List.getElem?_cons_succ] at t0
     have t1 := blk_cell HX.out.tx 1; have u1 := blk_frozen HX.out.tx 1; simp only [List.getElem?_toArray, List.getElem?_cons_zero, List.getElem?_cons_succ] at t1
     have t2 := blk_cell HX.out.tx 2; have u2 := blk_frozen HX.out.tx 2; simp only [List.getElem?_toArray, List.getElem?_cons_zero, List.getElem?_cons_succ] at t2
     have t3 := blk_cell HX.out.tx 3; have u3 := blk_frozen HX.out.tx 3; simp only [List.getElem?_toArray, List.getElem?_cons_zero, List.getElem?_cons_succ] at t3
     have t4 := blk_cell HX.out.tx 4; have u4 := blk_frozen HX.out.tx 4; simp only [List.getElem?_toArray, List.getElem?_cons_zero, List.getElem?_cons_succ] at t4
     have t5 := blk_cell HX.out.tx 5; have u5 := blk_frozen HX.out.tx 5; simp only [List.getElem?_toArray, List.getElem?_cons_zero, List.getElem?_cons_succ] at t5
     have t6 := blk_cell HX.out.tx 6; have u6 := blk_frozen HX.out.tx 6; simp only [List.getElem?_toArray, List.getElem?_cons_zero, List.getElem?_cons_succ] at t6
     have t7 := blk_cell HX.out.tx 7; have u7 := blk_frozen HX.out.tx 7; simp only [List.getElem?_toArray, List.getElem?_cons_zero, List.getElem?_cons_succ] at t7
     have t8 := blk_cell HX.out.tx 8; have u8 := blk_frozen HX.out.tx 8; simp only [List.getElem?_toArray, List.getElem?_cons_zero, List.getElem?_cons_succ] at t8
     clear hr hR8))
  have HX := Lib.hid ((HX.out.set7 (.slice A7 rs.length c7)).set8 (.slice A8 ws.length c8))
  have q9 : _ = some (Value.string s9) := blk_cell HX.out.rd 0
  go_wp2_with (first | (go_at_call 55; first | (with_reducible refine (check_ok _ _).mono ?_; rintro e w'' ⟨rfl, hw⟩; have hw := hw.symm; subst hw) | (with_reducible refine (check_no _ _).mono ?_; rintro e w'' ⟨rfl, hw⟩; have hw := hw.symm; subst hw)))
  refine leaves_cons (f := 51) (args := #[.pointer (some ⟨w.heap.size + 1, 0, none⟩)]) (by simp) (by simp [go_sem]) ?_
  refine (caught_panicking ⟨w.heap.size + 1, 0, none⟩ 0 6 [] _ (blk_cell HX.out.er 0) (blk_frozen HX.out.er 0)).mono ?_
  rintro e u' w'' ⟨rfl, rfl, rfl⟩
  refine leaves_cons (f := 50) (args := #[.pointer (some ⟨w.heap.size + 1, 0, none⟩), .pointer (some ⟨w.heap.size, 0, none⟩)]) (by simp [settle]) (by simp [go_sem]) ?_
  have hdied := HX.out.died 6
  refine (undo_yes (w.heap.size + 1) w.heap.size 6 (by decide) _ _ _ _ _ _ _ _ _ _ hdied.1 hdied.2.1).mono ?_
  rintro e u' w'' ⟨rfl, rfl, rfl⟩
  have hz := zset_box _ w.heap.size _ _ _ _ _ _ _ _ _ hdied.2.1
  have hze := (zset_blk _ w.heap.size (w.heap.size + 1) (by omega)).trans hdied.1
  have hzb := zset_below hdied.2.2 (Nat.le_refl _)
  generalize zset _ w.heap.size = Z at hz hze hzb ⊢
  have d0 : Z.cell? ⟨w.heap.size, 0, none⟩ = some (.int .i64 0) := blk_cell hz 0
  have d1 : Z.cell? ⟨w.heap.size, 1, none⟩ = some (.string ⟨#[]⟩) := blk_cell hz 1
  have d2 : Z.cell? ⟨w.heap.size, 2, none⟩ = some (.string ⟨#[]⟩) := blk_cell hz 2
  have d3 : Z.cell? ⟨w.heap.size, 3, none⟩ = some (.int .u64 0) := blk_cell hz 3
  have d4 : Z.cell? ⟨w.heap.size, 4, none⟩ = some (.int .u64 0) := blk_cell hz 4
  have d5 : Z.cell? ⟨w.heap.size, 5, none⟩ = some (.string ⟨#[]⟩) := blk_cell hz 5
  have d6 : Z.cell? ⟨w.heap.size, 6, none⟩ = some (.string ⟨#[]⟩) := blk_cell hz 6
  have d7 : Z.cell? ⟨w.heap.size, 7, none⟩ = some (.slice none 0 0) := blk_cell hz 7
  have d8 : Z.cell? ⟨w.heap.size, 8, none⟩ = some (.slice none 0 0) := blk_cell hz 8
  have de : Z.cell? ⟨w.heap.size + 1, 0, none⟩ = some (.int .i64 (6)) := blk_cell hze 0
  clear hz hze hdied
  have HZ := Lib.hid hzb
  clear hzb
  simp [Leaves, settle, results, Tryd.results25, go_sem, d0, d1, d2, d3, d4, d5, d6, d7, d8, de]
  exact ⟨rfl, HZ.out⟩
end Go.Proofs.YtndicjikjcifaaaDoor

/- tx.Decode: its last way out, and all ways joined. -/
namespace Go.Proofs.YtndicjikjcifaaaDoor
open Go.RowKit Go.Shelf Go.Lib Go.Proofs.YtndicjikjcifaaaDoorW.PrintWords Go.Proofs.YtndicjikjcifaaaDoorW.PrintLast
set_option linter.unusedVariables false
set_option linter.unusedSimpArgs false

/-- What is read: kind, from, to, amount, nonce, key, value, reads, writes, what is wrong. -/
abbrev Dec := Int × ByteArray × ByteArray × Int × Int × ByteArray × ByteArray × List ByteArray × List ByteArray × Int
def derr (e : Int) : Dec := (0, ⟨#[]⟩, ⟨#[]⟩, 0, 0, ⟨#[]⟩, ⟨#[]⟩, [], [], e)
def fin9 (kd : Int) (f t : ByteArray) (am nc : Int) (ky' vl : ByteArray) (rs ws : List ByteArray) : Dec :=
  if ch kd f t am nc ky' vl rs ws = 0 then (kd, f, t, am, nc, ky', vl, rs, ws, 0) else derr (ch kd f t am nc ky' vl rs ws)
/-- A transaction in a result: its two rows are its own and apart. -/
def DP (r : Dec) (w : World) (e : Ending) (w' : World) : Prop :=
  ∃ v8 v9, e = .returned (.tuple #[.agg #[.int .i64 r.1, .string r.2.1, .string r.2.2.1, .int .u64 r.2.2.2.1, .int .u64 r.2.2.2.2.1, .string r.2.2.2.2.2.1, .string r.2.2.2.2.2.2.1, v8, v9], .int .i64 r.2.2.2.2.2.2.2.2.2])
    ∧ Kd.R Kd.string 9 w' w.heap.size (fun k => some k ≠ v9.ownBlock) v8 r.2.2.2.2.2.2.2.1
    ∧ Kd.R Kd.string 9 w' w.heap.size (fun k => some k ≠ v8.ownBlock) v9 r.2.2.2.2.2.2.2.2.1
    ∧ Below w.heap.size w w'
theorem apart_of {u v : Value} {n : Nat} (h1 : ∀ k, u.ownBlock = some k → k < n) (h2 : ∀ k, v.ownBlock = some k → n ≤ k) : (∀ k, u.ownBlock = some k → some k ≠ v.ownBlock) ∧ (∀ k, v.ownBlock = some k → some k ≠ u.ownBlock) :=
  ⟨fun k hk e => by have := h1 k hk; have := h2 k e.symm; omega, fun k hk e => by have := h2 k hk; have := h1 k e.symm; omega⟩
structure Fx (w : World) (c : Array Value) (x : Int) (v7 v8 : Value) (rs ws : List ByteArray) (Z : World) : Prop where
  low : Below w.heap.size w Z
  tx : Z.heap[w.heap.size]? = some (.cells c 33 (0, 0))
  er : Z.heap[w.heap.size + 1]? = some (.cells #[.int .i64 x] 24 (0, 0))
  r7 : Kd.R Kd.string 9 Z w.heap.size (fun k => some k = v7.ownBlock) v7 rs
  r8 : Kd.R Kd.string 9 Z w.heap.size (fun k => some k = v8.ownBlock) v8 ws
theorem DP_err {w w' : World} {e : Ending} (x : Int) (he : e = .returned (.tuple #[zagg, .int .i64 x])) (hb : Below w.heap.size w w') : DP (derr x) w e w' :=
  ⟨_, _, he, Kd.R_nil _ _ _ _ _, Kd.R_nil _ _ _ _ _, hb⟩
theorem Fx.made {w W : World} {b0 b1 b2 b3 b4 b5 b6 b7 b8 : Value} {s : ByteArray} (h : Dx w b0 b1 b2 b3 b4 b5 b6 b7 b8 s W) {v7 v8 : Value} {rs ws : List ByteArray}
    (r7 : Kd.R Kd.string 9 W w.heap.size (fun k => some k = v7.ownBlock) v7 rs) (r8 : Kd.R Kd.string 9 W w.heap.size (fun k => some k = v8.ownBlock) v8 ws) (c0 c1 c2 c3 c4 c5 c6 c7 c8 : Value) (x : Int) :
    Fx w #[c0, c1, c2, c3, c4, c5, c6, c7, c8] x v7 v8 rs ws
      ((((((((((W.setCell ⟨w.heap.size, 0, none⟩ c0).setCell ⟨w.heap.size, 1, none⟩ c1).setCell ⟨w.heap.size, 2, none⟩ c2).setCell ⟨w.heap.size, 3, none⟩ c3).setCell ⟨w.heap.size, 4, none⟩ c4).setCell ⟨w.heap.size, 5, none⟩ c5).setCell ⟨w.heap.size, 6, none⟩ c6).setCell ⟨w.heap.size, 7, none⟩ c7).setCell ⟨w.heap.size, 8, none⟩ c8).setCell ⟨w.heap.size + 1, 0, none⟩ (.int .i64 x)) := by
  have hd := ((((((((h.set0 c0).set1 c1).set2 c2).set3 c3).set4 c4).set5 c5).set6 c6).set7 c7).set8 c8
  have ht33 : ∀ q, q ∈ 9 :: Kd.string.E → q ≠ 24 := by intro q hq; simp [Kd.string, Kd.scalar] at hq; subst hq; decide
  have D7 := Kd.R_ne r7 h.tx (by decide)
  have D8 := Kd.R_ne r8 h.tx (by decide)
  have E7 := Kd.R_ne r7 h.er (by decide)
  have E8 := Kd.R_ne r8 h.er (by decide)
  refine ⟨hd.low.setCell (by simp) _, (Below.heap_setCell _ _ _ _ (by simp)).trans hd.tx, by simpa using blk_set hd.er 0 (.int .i64 x), ?_, ?_⟩
  · refine Kd.R_step r7 (fun k hk hlt => ?_)
    have n1 : k ≠ w.heap.size := fun e => D7 (by rw [← e]; exact hk)
    have n2 : k ≠ w.heap.size + 1 := fun e => E7 (by rw [← e]; exact hk)
    rw [Below.heap_setCell _ _ _ _ n2]
    iterate 9 rw [Below.heap_setCell _ _ _ _ n1]
  · refine Kd.R_step r8 (fun k hk hlt => ?_)
    have n1 : k ≠ w.heap.size := fun e => D8 (by rw [← e]; exact hk)
    have n2 : k ≠ w.heap.size + 1 := fun e => E8 (by rw [← e]; exact hk)
    rw [Below.heap_setCell _ _ _ _ n2]
    iterate 9 rw [Below.heap_setCell _ _ _ _ n1]
set_option maxHeartbeats 8000000 in
set_option maxRecDepth 100000 in
theorem dec_chk (s s1 s2 s3 s4 s5 s6 s7 s8 s9 : ByteArray) (kd : Int) (k1 : Int) (f : ByteArray) (k2 : Int) (t : ByteArray) (k3 : Int) (am : Int) (k4 : Int) (nc : Int) (k5 : Int) (ky' : ByteArray) (k6 : Int) (vl : ByteArray) (k7 : Int) (rs : List ByteArray) (k8 : Int) (ws : List ByteArray) (k9 : Int) (w : World) (E1 : Hid (gi s 9 0 0 = (kd, k1, 0))) (R1 : Hid (rest s k1 = s1)) (Z1 : Hid (s1.size < 4611686018427387904)) (E2 : Hid (gt s1 = (f, k2, 0))) (R2 : Hid (rest s1 k2 = s2)) (Z2 : Hid (s2.size < 4611686018427387904)) (E3 : Hid (gt s2 = (t, k3, 0))) (R3 : Hid (rest s2 k3 = s3)) (Z3 : Hid (s3.size < 4611686018427387904)) (E4 : Hid (gi s3 9 0 0 = (am, k4, 0))) (R4 : Hid (rest s3 k4 = s4)) (Z4 : Hid (s4.size < 4611686018427387904)) (E5 : Hid (gi s4 9 0 0 = (nc, k5, 0))) (R5 : Hid (rest s4 k5 = s5)) (Z5 : Hid (s5.size < 4611686018427387904)) (E6 : Hid (gt s5 = (ky', k6, 0))) (R6 : Hid (rest s5 k6 = s6)) (Z6 : Hid (s6.size < 4611686018427387904)) (E7 : Hid (gt s6 = (vl, k7, 0))) (R7 : Hid (rest s6 k7 = s7)) (Z7 : Hid (s7.size < 4611686018427387904)) (E8 : Hid (gl s7 8 = (rs, k8, 0))) (R8 : Hid (rest s7 k8 = s8)) (Z8 : Hid (s8.size < 4611686018427387904)) (E9 : Hid (gl s8 8 = (ws, k9, 0))) (R9 : Hid (rest s8 k9 = s9)) (Z9 : Hid (s9.size < 4611686018427387904)) (hk : kd ≤ 2) (hk0 : 0 ≤ kd) (h9 : s9.toList.isEmpty = true) :
    Calls Tryd.prog 25 #[.string s] w fun e w' => DP (fin9 kd f t am nc ky' vl rs ws) w e w' := by
  have d1 : decide (kd ≤ 2) = true := decide_eq_true hk
  have d2 : IntKind.i64.wrap kd = kd := by rw [IntKind.wrap_i64]; omega
  clear hk hk0
  have hmf : ∀ (fn : Fn) (first cap : Array Value) (w : World), (Instr.makeFunc fn first cap).run Tryd.prog w = .ok (.func fn first cap) w := fun _ _ _ _ => rfl
  go_enter_defers Tryd.func25, Tryd.ntmps25
  have HX := Lib.hid (Dx.first w s)
  go_upto_region 9 with (first
  | (go_at_call 52
     refine (int_ok' (w.heap.size + 1 + 1) s s1 kd k1 _ E1.out R1.out HX.out.rd).mono ?_
     rintro e w2 ⟨rfl, hr⟩
     have HX := Lib.hid (HX.out.read hr)
     have t0 := blk_cell HX.out.tx 0; have u0 := blk_frozen HX.out.tx 0; simp only [List.getElem?_toArray, List.getElem?_cons_zero, List.getElem?_cons_succ] at t0
     have t1 := blk_cell HX.out.tx 1; have u1 := blk_frozen HX.out.tx 1; simp only [List.getElem?_toArray, List.getElem?_cons_zero, List.getElem?_cons_succ] at t1
     have t2 := blk_cell HX.out.tx 2; have u2 := blk_frozen HX.out.tx 2; simp only [List.getElem?_toArray, List.getElem?_cons_zero, List.getElem?_cons_succ] at t2
     have t3 := blk_cell HX.out.tx 3; have u3 := blk_frozen HX.out.tx 3; simp only [List.getElem?_toArray, List.getElem?_cons_zero, List.getElem?_cons_succ] at t3
     have t4 := blk_cell HX.out.tx 4; have u4 := blk_frozen HX.out.tx 4; simp only [List.getElem?_toArray, List.getElem?_cons_zero, List.getElem?_cons_succ] at t4
     have t5 := blk_cell HX.out.tx 5; have u5 := blk_frozen HX.out.tx 5; simp only [List.getElem?_toArray, List.getElem?_cons_zero, List.getElem?_cons_succ] at t5
     have t6 := blk_cell HX.out.tx 6; have u6 := blk_frozen HX.out.tx 6; simp only [List.getElem?_toArray, List.getElem?_cons_zero, List.getElem?_cons_succ] at t6
     have t7 := blk_cell HX.out.tx 7; have u7 := blk_frozen HX.out.tx 7; simp only [List.getElem?_toArray, List.getElem?_cons_zero, List.getElem?_cons_succ] at t7
     have t8 := blk_cell HX.out.tx 8; have u8 := blk_frozen HX.out.tx 8; simp only [List.getElem?_toArray, List.getElem?_cons_zero, List.getElem?_cons_succ] at t8
     clear hr)
  | (go_at_call 53
     refine (text_ok' (w.heap.size + 1 + 1) s1 s2 f k2 _ Z1.out E2.out R2.out HX.out.rd).mono ?_
     rintro e w2 ⟨rfl, hr⟩
     have HX := Lib.hid (HX.out.read hr)
     have t0 := blk_cell HX.out.tx 0; have u0 := blk_frozen HX.out.tx 0; simp only [List.getElem?_toArray, List.getElem?_cons_zero, List.getElem?_cons_succ] at t0
     have t1 := blk_cell HX.out.tx 1; have u1 := blk_frozen HX.out.tx 1; simp only [List.getElem?_toArray, List.getElem?_cons_zero, List.getElem?_cons_succ] at t1
     have t2 := blk_cell HX.out.tx 2; have u2 := blk_frozen HX.out.tx 2; simp only [List.getElem?_toArray, List.getElem?_cons_zero, List.getElem?_cons_succ] at t2
     have t3 := blk_cell HX.out.tx 3; have u3 := blk_frozen HX.out.tx 3; simp only [List.getElem?_toArray, List.getElem?_cons_zero, List.getElem?_cons_succ] at t3
     have t4 := blk_cell HX.out.tx 4; have u4 := blk_frozen HX.out.tx 4; simp only [List.getElem?_toArray, List.getElem?_cons_zero, List.getElem?_cons_succ] at t4
     have t5 := blk_cell HX.out.tx 5; have u5 := blk_frozen HX.out.tx 5; simp only [List.getElem?_toArray, List.getElem?_cons_zero, List.getElem?_cons_succ] at t5
     have t6 := blk_cell HX.out.tx 6; have u6 := blk_frozen HX.out.tx 6; simp only [List.getElem?_toArray, List.getElem?_cons_zero, List.getElem?_cons_succ] at t6
     have t7 := blk_cell HX.out.tx 7; have u7 := blk_frozen HX.out.tx 7; simp only [List.getElem?_toArray, List.getElem?_cons_zero, List.getElem?_cons_succ] at t7
     have t8 := blk_cell HX.out.tx 8; have u8 := blk_frozen HX.out.tx 8; simp only [List.getElem?_toArray, List.getElem?_cons_zero, List.getElem?_cons_succ] at t8
     clear hr)
  | (go_at_call 53
     refine (text_ok' (w.heap.size + 1 + 1) s2 s3 t k3 _ Z2.out E3.out R3.out HX.out.rd).mono ?_
     rintro e w2 ⟨rfl, hr⟩
     have HX := Lib.hid (HX.out.read hr)
     have t0 := blk_cell HX.out.tx 0; have u0 := blk_frozen HX.out.tx 0; simp only [List.getElem?_toArray, List.getElem?_cons_zero, List.getElem?_cons_succ] at t0
     have t1 := blk_cell HX.out.tx 1; have u1 := blk_frozen HX.out.tx 1; simp only [List.getElem?_toArray, List.getElem?_cons_zero, List.getElem?_cons_succ] at t1
     have t2 := blk_cell HX.out.tx 2; have u2 := blk_frozen HX.out.tx 2; simp only [List.getElem?_toArray, List.getElem?_cons_zero, List.getElem?_cons_succ] at t2
     have t3 := blk_cell HX.out.tx 3; have u3 := blk_frozen HX.out.tx 3; simp only [List.getElem?_toArray, List.getElem?_cons_zero, List.getElem?_cons_succ] at t3
     have t4 := blk_cell HX.out.tx 4; have u4 := blk_frozen HX.out.tx 4; simp only [List.getElem?_toArray, List.getElem?_cons_zero, List.getElem?_cons_succ] at t4
     have t5 := blk_cell HX.out.tx 5; have u5 := blk_frozen HX.out.tx 5; simp only [List.getElem?_toArray, List.getElem?_cons_zero, List.getElem?_cons_succ] at t5
     have t6 := blk_cell HX.out.tx 6; have u6 := blk_frozen HX.out.tx 6; simp only [List.getElem?_toArray, List.getElem?_cons_zero, List.getElem?_cons_succ] at t6
     have t7 := blk_cell HX.out.tx 7; have u7 := blk_frozen HX.out.tx 7; simp only [List.getElem?_toArray, List.getElem?_cons_zero, List.getElem?_cons_succ] at t7
     have t8 := blk_cell HX.out.tx 8; have u8 := blk_frozen HX.out.tx 8; simp only [List.getElem?_toArray, List.getElem?_cons_zero, List.getElem?_cons_succ] at t8
     clear hr)
  | (go_at_call 52
     refine (int_ok' (w.heap.size + 1 + 1) s3 s4 am k4 _ E4.out R4.out ((HX.out.set1 (.string f)).set2 (.string t)).rd).mono ?_
     rintro e w2 ⟨rfl, hr⟩
     have HX := Lib.hid (((HX.out.set1 (.string f)).set2 (.string t)).read hr)
     have t0 := blk_cell HX.out.tx 0; have u0 := blk_frozen HX.out.tx 0; simp only [List.getElem?_toArray, List.getElem?_cons_zero, List.getElem?_cons_succ] at t0
     have t1 := blk_cell HX.out.tx 1; have u1 := blk_frozen HX.out.tx 1; simp only [List.getElem?_toArray, List.getElem?_cons_zero, List.getElem?_cons_succ] at t1
     have t2 := blk_cell HX.out.tx 2; have u2 := blk_frozen HX.out.tx 2; simp only [List.getElem?_toArray, List.getElem?_cons_zero, List.getElem?_cons_succ] at t2
     have t3 := blk_cell HX.out.tx 3; have u3 := blk_frozen HX.out.tx 3; simp only [List.getElem?_toArray, List.getElem?_cons_zero, List.getElem?_cons_succ] at t3
     have t4 := blk_cell HX.out.tx 4; have u4 := blk_frozen HX.out.tx 4; simp only [List.getElem?_toArray, List.getElem?_cons_zero, List.getElem?_cons_succ] at t4
     have t5 := blk_cell HX.out.tx 5; have u5 := blk_frozen HX.out.tx 5; simp only [List.getElem?_toArray, List.getElem?_cons_zero, List.getElem?_cons_succ] at t5
     have t6 := blk_cell HX.out.tx 6; have u6 := blk_frozen HX.out.tx 6; simp only [List.getElem?_toArray, List.getElem?_cons_zero, List.getElem?_cons_succ] at t6
     have t7 := blk_cell HX.out.tx 7; have u7 := blk_frozen HX.out.tx 7; simp only [List.getElem?_toArray, List.getElem?_cons_zero, List.getElem?_cons_succ] at t7
     have t8 := blk_cell HX.out.tx 8; have u8 := blk_frozen HX.out.tx 8; simp only [List.getElem?_toArray, List.getElem?_cons_zero, List.getElem?_cons_succ] at t8
     clear hr)
  | (go_at_call 52
     refine (int_ok' (w.heap.size + 1 + 1) s4 s5 nc k5 _ E5.out R5.out HX.out.rd).mono ?_
     rintro e w2 ⟨rfl, hr⟩
     have HX := Lib.hid (HX.out.read hr)
     have t0 := blk_cell HX.out.tx 0; have u0 := blk_frozen HX.out.tx 0; simp only [List.getElem?_toArray, List.getElem?_cons_zero, List.getElem?_cons_succ] at t0
     have t1 := blk_cell HX.out.tx 1; have u1 := blk_frozen HX.out.tx 1; simp only [List.getElem?_toArray, List.getElem?_cons_zero, List.getElem?_cons_succ] at t1
     have t2 := blk_cell HX.out.tx 2; have u2 := blk_frozen HX.out.tx 2; simp only [List.getElem?_toArray, List.getElem?_cons_zero, List.getElem?_cons_succ] at t2
     have t3 := blk_cell HX.out.tx 3; have u3 := blk_frozen HX.out.tx 3; simp only [List.getElem?_toArray, List.getElem?_cons_zero, List.getElem?_cons_succ] at t3
     have t4 := blk_cell HX.out.tx 4; have u4 := blk_frozen HX.out.tx 4; simp only [List.getElem?_toArray, List.getElem?_cons_zero, List.getElem?_cons_succ] at t4
     have t5 := blk_cell HX.out.tx 5; have u5 := blk_frozen HX.out.tx 5; simp only [List.getElem?_toArray, List.getElem?_cons_zero, List.getElem?_cons_succ] at t5
     have t6 := blk_cell HX.out.tx 6; have u6 := blk_frozen HX.out.tx 6; simp only [List.getElem?_toArray, List.getElem?_cons_zero, List.getElem?_cons_succ] at t6
     have t7 := blk_cell HX.out.tx 7; have u7 := blk_frozen HX.out.tx 7; simp only [List.getElem?_toArray, List.getElem?_cons_zero, List.getElem?_cons_succ] at t7
     have t8 := blk_cell HX.out.tx 8; have u8 := blk_frozen HX.out.tx 8; simp only [List.getElem?_toArray, List.getElem?_cons_zero, List.getElem?_cons_succ] at t8
     clear hr)
  | (go_at_call 53
     refine (text_ok' (w.heap.size + 1 + 1) s5 s6 ky' k6 _ Z5.out E6.out R6.out ((HX.out.set3 (.int .u64 am)).set4 (.int .u64 nc)).rd).mono ?_
     rintro e w2 ⟨rfl, hr⟩
     have HX := Lib.hid (((HX.out.set3 (.int .u64 am)).set4 (.int .u64 nc)).read hr)
     have t0 := blk_cell HX.out.tx 0; have u0 := blk_frozen HX.out.tx 0; simp only [List.getElem?_toArray, List.getElem?_cons_zero, List.getElem?_cons_succ] at t0
     have t1 := blk_cell HX.out.tx 1; have u1 := blk_frozen HX.out.tx 1; simp only [List.getElem?_toArray, List.getElem?_cons_zero, List.getElem?_cons_succ] at t1
     have t2 := blk_cell HX.out.tx 2; have u2 := blk_frozen HX.out.tx 2; simp only [List.getElem?_toArray, List.getElem?_cons_zero, List.getElem?_cons_succ] at t2
     have t3 := blk_cell HX.out.tx 3; have u3 := blk_frozen HX.out.tx 3; simp only [List.getElem?_toArray, List.getElem?_cons_zero, List.getElem?_cons_succ] at t3
     have t4 := blk_cell HX.out.tx 4; have u4 := blk_frozen HX.out.tx 4; simp only [List.getElem?_toArray, List.getElem?_cons_zero, List.getElem?_cons_succ] at t4
     have t5 := blk_cell HX.out.tx 5; have u5 := blk_frozen HX.out.tx 5; simp only [List.getElem?_toArray, List.getElem?_cons_zero, List.getElem?_cons_succ] at t5
     have t6 := blk_cell HX.out.tx 6; have u6 := blk_frozen HX.out.tx 6; simp only [List.getElem?_toArray, List.getElem?_cons_zero, List.getElem?_cons_succ] at t6
     have t7 := blk_cell HX.out.tx 7; have u7 := blk_frozen HX.out.tx 7; simp only [List.getElem?_toArray, List.getElem?_cons_zero, List.getElem?_cons_succ] at t7
     have t8 := blk_cell HX.out.tx 8; have u8 := blk_frozen HX.out.tx 8; simp only [List.getElem?_toArray, List.getElem?_cons_zero, List.getElem?_cons_succ] at t8
     clear hr)
  | (go_at_call 53
     refine (text_ok' (w.heap.size + 1 + 1) s6 s7 vl k7 _ Z6.out E7.out R7.out HX.out.rd).mono ?_
     rintro e w2 ⟨rfl, hr⟩
     have HX := Lib.hid (HX.out.read hr)
     have t0 := blk_cell HX.out.tx 0; have u0 := blk_frozen HX.out.tx 0; simp only [List.getElem?_toArray, List.getElem?_cons_zero, List.getElem?_cons_succ] at t0
     have t1 := blk_cell HX.out.tx 1; have u1 := blk_frozen HX.out.tx 1; simp only [List.getElem?_toArray, List.getElem?_cons_zero, List.getElem?_cons_succ] at t1
     have t2 := blk_cell HX.out.tx 2; have u2 := blk_frozen HX.out.tx 2; simp only [List.getElem?_toArray, List.getElem?_cons_zero, List.getElem?_cons_succ] at t2
     have t3 := blk_cell HX.out.tx 3; have u3 := blk_frozen HX.out.tx 3; simp only [List.getElem?_toArray, List.getElem?_cons_zero, List.getElem?_cons_succ] at t3
     have t4 := blk_cell HX.out.tx 4; have u4 := blk_frozen HX.out.tx 4; simp only [List.getElem?_toArray, List.getElem?_cons_zero, List.getElem?_cons_succ] at t4
     have t5 := blk_cell HX.out.tx 5; have u5 := blk_frozen HX.out.tx 5; simp only [List.getElem?_toArray, List.getElem?_cons_zero, List.getElem?_cons_succ] at t5
     have t6 := blk_cell HX.out.tx 6; have u6 := blk_frozen HX.out.tx 6; simp only [List.getElem?_toArray, List.getElem?_cons_zero, List.getElem?_cons_succ] at t6
     have t7 := blk_cell HX.out.tx 7; have u7 := blk_frozen HX.out.tx 7; simp only [List.getElem?_toArray, List.getElem?_cons_zero, List.getElem?_cons_succ] at t7
     have t8 := blk_cell HX.out.tx 8; have u8 := blk_frozen HX.out.tx 8; simp only [List.getElem?_toArray, List.getElem?_cons_zero, List.getElem?_cons_succ] at t8
     clear hr)
  | (go_at_call 54
     refine (list_ok' (w.heap.size + 1 + 1) s7 s8 rs k8 _ Z7.out E8.out R8.out ((HX.out.set5 (.string ky')).set6 (.string vl)).rd).mono ?_
     rintro e w2 ⟨v7, rfl, hR7, hr⟩
     obtain ⟨A7, c7, rfl, hc7, hC7⟩ := Kd.R_reads hR7
     have HC7 := Lib.hid hc7
     clear hc7 hC7
     have HR7 := Lib.hid hR7
     have HB7 := Lib.hid (((HX.out.set5 (.string ky')).set6 (.string vl)).low.size)
     have HX := Lib.hid (((HX.out.set5 (.string ky')).set6 (.string vl)).read hr)
     have t0 := blk_cell HX.out.tx 0; have u0 := blk_frozen HX.out.tx 0; simp only [List.getElem?_toArray, List.getElem?_cons_zero, List.getElem?_cons_succ] at t0
     have t1 := blk_cell HX.out.tx 1; have u1 := blk_frozen HX.out.tx 1; simp only [List.getElem?_toArray, List.getElem?_cons_zero, List.getElem?_cons_succ] at t1
     have t2 := blk_cell HX.out.tx 2; have u2 := blk_frozen HX.out.tx 2; simp only [List.getElem?_toArray, List.getElem?_cons_zero, List.getElem?_cons_succ] at t2
     have t3 := blk_cell HX.out.tx 3; have u3 := blk_frozen HX.out.tx 3; simp only [List.getElem?_toArray, List.getElem?_cons_zero, List.getElem?_cons_succ] at t3
     have t4 := blk_cell HX.out.tx 4; have u4 := blk_frozen HX.out.tx 4; simp only [List.getElem?_toArray, List.getElem?_cons_zero, List.getElem?_cons_succ] at t4
     have t5 := blk_cell HX.out.tx 5; have u5 := blk_frozen HX.out.tx 5; simp only [List.getElem?_toArray, List.getElem?_cons_zero, List.getElem?_cons_succ] at t5
     have t6 := blk_cell HX.out.tx 6; have u6 := blk_frozen HX.out.tx 6; simp only [List.getElem?_toArray, List.getElem?_cons_zero, List.getElem?_cons_succ] at t6
     have t7 := blk_cell HX.out.tx 7; have u7 := blk_frozen HX.out.tx 7; simp only [List.getElem?_toArray, List.getElem?_cons_zero, List.getElem?_cons_succ] at t7
     have t8 := blk_cell HX.out.tx 8; have u8 := blk_frozen HX.out.tx 8; simp only [List.getElem?_toArray, List.getElem?_cons_zero, List.getElem?_cons_succ] at t8
     clear hr hR7)
  | (go_at_call 54
     refine (list_ok' (w.heap.size + 1 + 1) s8 s9 ws k9 _ Z8.out E9.out R9.out HX.out.rd).mono ?_
     rintro e w2 ⟨v8, rfl, hR8, hr⟩
     have HN7 := Lib.hid (Kd.R_lt HR7.out)
     have HR7 := Lib.hid (hr.row (Kd.R_mono (Kd.R_bound HR7.out) (ok' := fun k => k < _) (fun k hk => hk.2.2.1)))
     obtain ⟨A8, c8, rfl, hc8, hC8⟩ := Kd.R_reads hR8
     have HC8 := Lib.hid hc8
     clear hc8 hC8
     have HR8 := Lib.hid hR8
     have HB8 := Lib.hid (HX.out.low.size)
     have HX := Lib.hid (HX.out.read hr)
     have t0 := blk_cell HX.out.tx 0; have u0 := blk_frozen HX.out.tx 0; simp only [List.getElem?_toArray, List.getElem?_cons_zero, List.getElem?_cons_succ] at t0
     have t1 := blk_cell HX.out.tx 1; have u1 := blk_frozen HX.out.tx 1; simp only [List.getElem?_toArray, List.getElem?_cons_zero, List.getElem?_cons_succ] at t1
     have t2 := blk_cell HX.out.tx 2; have u2 := blk_frozen HX.out.tx 2; simp only [List.getElem?_toArray, List.getElem?_cons_zero, List.getElem?_cons_succ] at t2
     have t3 := blk_cell HX.out.tx 3; have u3 := blk_frozen HX.out.tx 3; simp only [List.getElem?_toArray, List.getElem?_cons_zero, List.getElem?_cons_succ] at t3
     have t4 := blk_cell HX.out.tx 4; have u4 := blk_frozen HX.out.tx 4; simp only [List.getElem?_toArray, List.getElem?_cons_zero, List.getElem?_cons_succ] at t4
     have t5 := blk_cell HX.out.tx 5; have u5 := blk_frozen HX.out.tx 5; simp only [List.getElem?_toArray, List.getElem?_cons_zero, List.getElem?_cons_succ] at t5
     have t6 := blk_cell HX.out.tx 6; have u6 := blk_frozen HX.out.tx 6; simp only [List.getElem?_toArray, List.getElem?_cons_zero, List.getElem?_cons_succ] at t6
     have t7 := blk_cell HX.out.tx 7; have u7 := blk_frozen HX.out.tx 7; simp only [List.getElem?_toArray, List.getElem?_cons_zero, List.getElem?_cons_succ] at t7
     have t8 := blk_cell HX.out.tx 8; have u8 := blk_frozen HX.out.tx 8; simp only [List.getElem?_toArray, List.getElem?_cons_zero, List.getElem?_cons_succ] at t8
     clear hr hR8))
  have H0 := HX
  have HX := Lib.hid ((HX.out.set7 (.slice A7 rs.length c7)).set8 (.slice A8 ws.length c8))
  have q9 : _ = some (Value.string s9) := blk_cell HX.out.rd 0
  go_upto_region 12 with (first | (go_at_call 55; first | (with_reducible refine (check_ok _ _).mono ?_; rintro e w'' ⟨rfl, hw⟩; have hw := hw.symm; subst hw) | (with_reducible refine (check_no _ _).mono ?_; rintro e w'' ⟨rfl, hw⟩; have hw := hw.symm; subst hw)))
  have HX1 := HX.out.set0 (.int .i64 kd)
  have HX := Lib.hid HX1
  have y0 := blk_cell HX1.tx 0; have z0 := blk_frozen HX1.tx 0; simp only [List.getElem?_toArray, List.getElem?_cons_zero, List.getElem?_cons_succ] at y0
  have y1 := blk_cell HX1.tx 1; have z1 := blk_frozen HX1.tx 1; simp only [List.getElem?_toArray, List.getElem?_cons_zero, List.getElem?_cons_succ] at y1
  have y2 := blk_cell HX1.tx 2; have z2 := blk_frozen HX1.tx 2; simp only [List.getElem?_toArray, List.getElem?_cons_zero, List.getElem?_cons_succ] at y2
  have y3 := blk_cell HX1.tx 3; have z3 := blk_frozen HX1.tx 3; simp only [List.getElem?_toArray, List.getElem?_cons_zero, List.getElem?_cons_succ] at y3
  have y4 := blk_cell HX1.tx 4; have z4 := blk_frozen HX1.tx 4; simp only [List.getElem?_toArray, List.getElem?_cons_zero, List.getElem?_cons_succ] at y4
  have y5 := blk_cell HX1.tx 5; have z5 := blk_frozen HX1.tx 5; simp only [List.getElem?_toArray, List.getElem?_cons_zero, List.getElem?_cons_succ] at y5
  have y6 := blk_cell HX1.tx 6; have z6 := blk_frozen HX1.tx 6; simp only [List.getElem?_toArray, List.getElem?_cons_zero, List.getElem?_cons_succ] at y6
  have y7 := blk_cell HX1.tx 7; have z7 := blk_frozen HX1.tx 7; simp only [List.getElem?_toArray, List.getElem?_cons_zero, List.getElem?_cons_succ] at y7
  have y8 := blk_cell HX1.tx 8; have z8 := blk_frozen HX1.tx 8; simp only [List.getElem?_toArray, List.getElem?_cons_zero, List.getElem?_cons_succ] at y8
  clear HX1
  have ht9 : ∀ q, q ∈ 9 :: Kd.string.E → q ≠ 33 := by intro q hq; simp [Kd.string, Kd.scalar] at hq; subst hq; decide
  have C7 := Lib.hid (C_of_R (Kd.R_drew (Kd.R_set (Kd.R_set (Kd.R_set HR7.out H0.out.tx ht9 7 (.slice A7 rs.length c7)) (H0.out.set7 _).tx ht9 8 (.slice A8 ws.length c8)) ((H0.out.set7 _).set8 _).tx ht9 0 (.int .i64 kd))))
  have C8 := Lib.hid (C_of_R (Kd.R_drew (Kd.R_set (Kd.R_set (Kd.R_set HR8.out H0.out.tx ht9 7 (.slice A7 rs.length c7)) (H0.out.set7 _).tx ht9 8 (.slice A8 ws.length c8)) ((H0.out.set7 _).set8 _).tx ht9 0 (.int .i64 kd))))
  have ht9 := Lib.hid ht9
  go_region_with (first
    | (go_at_call 41
       go_must (refine (chk_calls kd f t am nc ky' vl A7 A8 c7 c8 rs ws _ C7.out HC7.out C8.out HC8.out).mono ?_)
       rintro e w3 ⟨rfl, hB⟩
       have T7 := Lib.hid (Kd.R_tight rfl (Kd.R_lower (Kd.R_below (Kd.R_drew (Kd.R_set (Kd.R_set (Kd.R_set HR7.out H0.out.tx ht9.out 7 (.slice A7 rs.length c7)) (H0.out.set7 _).tx ht9.out 8 (.slice A8 ws.length c8)) ((H0.out.set7 _).set8 _).tx ht9.out 0 (.int .i64 kd))) hB) HB7.out))
       have T8 := Lib.hid (Kd.R_tight rfl (Kd.R_lower (Kd.R_below (Kd.R_drew (Kd.R_set (Kd.R_set (Kd.R_set HR8.out H0.out.tx ht9.out 7 (.slice A7 rs.length c7)) (H0.out.set7 _).tx ht9.out 8 (.slice A8 ws.length c8)) ((H0.out.set7 _).set8 _).tx ht9.out 0 (.int .i64 kd))) hB) HB8.out))
       have P7 := Lib.hid (apart_of HN7.out (Kd.R_base HR8.out))
       have HX := Lib.hid ((HX.out.step ((Below.refl _ _).drew)).step hB)
       clear C7 C8
       clear hB
       have y0 := blk_cell HX.out.tx 0; have z0 := blk_frozen HX.out.tx 0; simp only [List.getElem?_toArray, List.getElem?_cons_zero, List.getElem?_cons_succ] at y0
       have y1 := blk_cell HX.out.tx 1; have z1 := blk_frozen HX.out.tx 1; simp only [List.getElem?_toArray, List.getElem?_cons_zero, List.getElem?_cons_succ] at y1
       have y2 := blk_cell HX.out.tx 2; have z2 := blk_frozen HX.out.tx 2; simp only [List.getElem?_toArray, List.getElem?_cons_zero, List.getElem?_cons_succ] at y2
       have y3 := blk_cell HX.out.tx 3; have z3 := blk_frozen HX.out.tx 3; simp only [List.getElem?_toArray, List.getElem?_cons_zero, List.getElem?_cons_succ] at y3
       have y4 := blk_cell HX.out.tx 4; have z4 := blk_frozen HX.out.tx 4; simp only [List.getElem?_toArray, List.getElem?_cons_zero, List.getElem?_cons_succ] at y4
       have y5 := blk_cell HX.out.tx 5; have z5 := blk_frozen HX.out.tx 5; simp only [List.getElem?_toArray, List.getElem?_cons_zero, List.getElem?_cons_succ] at y5
       have y6 := blk_cell HX.out.tx 6; have z6 := blk_frozen HX.out.tx 6; simp only [List.getElem?_toArray, List.getElem?_cons_zero, List.getElem?_cons_succ] at y6
       have y7 := blk_cell HX.out.tx 7; have z7 := blk_frozen HX.out.tx 7; simp only [List.getElem?_toArray, List.getElem?_cons_zero, List.getElem?_cons_succ] at y7
       have y8 := blk_cell HX.out.tx 8; have z8 := blk_frozen HX.out.tx 8; simp only [List.getElem?_toArray, List.getElem?_cons_zero, List.getElem?_cons_succ] at y8
       have ye : w3.cell? ⟨w.heap.size + 1, 0, none⟩ = some (.int .i64 0) := blk_cell HX.out.er 0
       have ze := blk_frozen HX.out.er 0
       clear HR7 HR8 HN7 HB7 HB8 HC7 HC8 H0))
  all_goals go_wp2
  all_goals
    refine at_world (Fx.made HX.out T7.out T8.out (.int .i64 kd) (.string f) (.string t) (.int .u64 am) (.int .u64 nc) (.string ky') (.string vl) (.slice A7 rs.length c7) (.slice A8 ws.length c8) (ch kd f t am nc ky' vl rs ws)) ?_
    clear y0 y1 y2 y3 y4 y5 y6 y7 y8 ye z0 z1 z2 z3 z4 z5 z6 z7 z8 ze u0 u1 u2 u3 u4 u5 u6 u7 u8 t0 t1 t2 t3 t4 t5 t6 t7 t8 q9 HX T7 T8 ht9 d1 d2 h9
    intro Z HZ
    have HZ := Lib.hid HZ
    refine leaves_cons (f := 51) (args := #[.pointer (some ⟨w.heap.size + 1, 0, none⟩)]) (by simp) (by simp [go_sem]) ?_
    refine (caught_idle ⟨w.heap.size + 1, 0, none⟩ _).mono ?_
    rintro e u' w'' ⟨rfl, rfl, rfl⟩
    refine leaves_cons (f := 50) (args := #[.pointer (some ⟨w.heap.size + 1, 0, none⟩), .pointer (some ⟨w.heap.size, 0, none⟩)]) (by simp [settle]) (by simp [go_sem]) ?_
    by_cases hc : ch kd f t am nc ky' vl rs ws = 0
    · have hze := HZ.out.er
      rw [hc] at hze
      refine (undo_no (w.heap.size + 1) w.heap.size _ hze).mono ?_
      rintro e u' w'' ⟨rfl, rfl, rfl⟩
      have hz := HZ.out.tx
      have e0 := blk_cell hz 0
      have e1 := blk_cell hz 1
      have e2 := blk_cell hz 2
      have e3 := blk_cell hz 3
      have e4 := blk_cell hz 4
      have e5 := blk_cell hz 5
      have e6 := blk_cell hz 6
      have e7 := blk_cell hz 7
      have e8 := blk_cell hz 8
      have e9 := blk_cell hze 0
      simp only [List.getElem?_toArray, List.getElem?_cons_zero, List.getElem?_cons_succ] at e0 e1 e2 e3 e4 e5 e6 e7 e8 e9
      clear hz hze
      rw [fin9, if_pos hc]
      clear hc
      simp [Leaves, settle, results, Tryd.results25, go_sem, e0, e1, e2, e3, e4, e5, e6, e7, e8, e9]
      exact ⟨_, _, rfl, Kd.R_reok rfl HZ.out.r7 P7.out.1, Kd.R_reok rfl HZ.out.r8 P7.out.2, HZ.out.low⟩
    · rw [fin9, if_neg hc]
      refine (undo_yes (w.heap.size + 1) w.heap.size _ hc _ _ _ _ _ _ _ _ _ _ HZ.out.er HZ.out.tx).mono ?_
      rintro e u' w'' ⟨rfl, rfl, rfl⟩
      have hz := zset_box _ w.heap.size _ _ _ _ _ _ _ _ _ HZ.out.tx
      have hze := (zset_blk _ w.heap.size (w.heap.size + 1) (by omega)).trans HZ.out.er
      have hzb := zset_below HZ.out.low (Nat.le_refl _)
      generalize ch kd f t am nc ky' vl rs ws = x at hze hc ⊢
      clear HZ
      generalize zset _ w.heap.size = Y at hz hze hzb ⊢
      have d0 : Y.cell? ⟨w.heap.size, 0, none⟩ = some (.int .i64 0) := blk_cell hz 0
      have d1 : Y.cell? ⟨w.heap.size, 1, none⟩ = some (.string ⟨#[]⟩) := blk_cell hz 1
      have d2 : Y.cell? ⟨w.heap.size, 2, none⟩ = some (.string ⟨#[]⟩) := blk_cell hz 2
      have d3 : Y.cell? ⟨w.heap.size, 3, none⟩ = some (.int .u64 0) := blk_cell hz 3
      have d4 : Y.cell? ⟨w.heap.size, 4, none⟩ = some (.int .u64 0) := blk_cell hz 4
      have d5 : Y.cell? ⟨w.heap.size, 5, none⟩ = some (.string ⟨#[]⟩) := blk_cell hz 5
      have d6 : Y.cell? ⟨w.heap.size, 6, none⟩ = some (.string ⟨#[]⟩) := blk_cell hz 6
      have d7 : Y.cell? ⟨w.heap.size, 7, none⟩ = some (.slice none 0 0) := blk_cell hz 7
      have d8 : Y.cell? ⟨w.heap.size, 8, none⟩ = some (.slice none 0 0) := blk_cell hz 8
      have de : Y.cell? ⟨w.heap.size + 1, 0, none⟩ = some (.int .i64 x) := blk_cell hze 0
      clear hz hze
      have HZ := Lib.hid hzb
      clear hzb hc
      simp [Leaves, settle, results, Tryd.results25, go_sem, d0, d1, d2, d3, d4, d5, d6, d7, d8, de]
      exact DP_err _ rfl HZ.out
end Go.Proofs.YtndicjikjcifaaaDoor

/- tx.Decode: all ways joined. -/
namespace Go.Proofs.YtndicjikjcifaaaDoor
open Go.RowKit Go.Shelf Go.Lib Go.Proofs.YtndicjikjcifaaaDoorW.PrintWords Go.Proofs.YtndicjikjcifaaaDoorW.PrintLast
set_option linter.unusedVariables false
set_option linter.unusedSimpArgs false

def bindE {α : Type} (x : α × Int × Int) (s : ByteArray) (k : α → ByteArray → Dec) : Dec := if x.2.2 = 0 then k x.1 (rest s x.2.1) else derr x.2.2
theorem bindE_no {α : Type} {x : α × Int × Int} {s : ByteArray} {k : α → ByteArray → Dec} (h : x.2.2 ≠ 0) : bindE x s k = derr x.2.2 := if_neg h
theorem bindE_ok {α : Type} {x : α × Int × Int} {s s' : ByteArray} {k : α → ByteArray → Dec} {a : α} {n : Int} (h : x = (a, n, 0)) (hr : rest s n = s') : bindE x s k = k a s' := by
  subst h
  subst hr
  exact if_pos rfl
theorem ok_of {α : Type} {x : α × Int × Int} (h : x.2.2 = 0) : ∃ a n, x = (a, n, 0) := ⟨x.1, x.2.1, by rw [← h]⟩
/-- What tx.Decode answers. -/
def dec (s : ByteArray) : Dec :=
  bindE (gi s 9 0 0) s fun kd s1 => bindE (gt s1) s1 fun f s2 => bindE (gt s2) s2 fun t s3 => bindE (gi s3 9 0 0) s3 fun am s4 => bindE (gi s4 9 0 0) s4 fun nc s5 =>
  bindE (gt s5) s5 fun ky' s6 => bindE (gt s6) s6 fun vl s7 => bindE (gl s7 8) s7 fun rs s8 => bindE (gl s8 8) s8 fun ws s9 =>
  if kd ≤ 2 then (if s9.toList.isEmpty = true then fin9 kd f t am nc ky' vl rs ws else derr 6) else derr 2
theorem dec_calls (s : ByteArray) (w : World) (hs : s.size < 4611686018427387904) :
    Calls Tryd.prog 25 #[.string s] w fun e w' => DP (dec s) w e w' := by
  have D : dec s = dec s := rfl
  conv at D => rhs; unfold dec
  by_cases h1 : (gi s 9 0 0).2.2 = 0
  case neg =>
    rw [D.trans (bindE_no h1)]
    exact (dec_no1 s w (Lib.hid h1)).mono fun e w' h => DP_err _ h.1 h.2
  obtain ⟨kd, k1, E1⟩ := ok_of h1
  have hkd := (gi_ok s 9 0 0 (by omega) h1).1
  rw [E1] at hkd
  obtain ⟨s1, R1⟩ : ∃ s1, rest s k1 = s1 := ⟨_, rfl⟩
  have Z1 : s1.size < 4611686018427387904 := by have := rest_size s k1; rw [R1] at this; omega
  have D := D.trans (bindE_ok E1 R1)
  clear h1
  by_cases h2 : (gt s1).2.2 = 0
  case neg =>
    rw [D.trans (bindE_no h2)]
    exact (dec_no2 s s1 kd k1 w (Lib.hid E1) (Lib.hid R1) (Lib.hid Z1) (Lib.hid h2)).mono fun e w' h => DP_err _ h.1 h.2
  obtain ⟨f, k2, E2⟩ := ok_of h2
  obtain ⟨s2, R2⟩ : ∃ s2, rest s1 k2 = s2 := ⟨_, rfl⟩
  have Z2 : s2.size < 4611686018427387904 := by have := rest_size s1 k2; rw [R2] at this; omega
  have D := D.trans (bindE_ok E2 R2)
  clear h2
  by_cases h3 : (gt s2).2.2 = 0
  case neg =>
    rw [D.trans (bindE_no h3)]
    exact (dec_no3 s s1 s2 kd k1 f k2 w (Lib.hid E1) (Lib.hid R1) (Lib.hid Z1) (Lib.hid E2) (Lib.hid R2) (Lib.hid Z2) (Lib.hid h3)).mono fun e w' h => DP_err _ h.1 h.2
  obtain ⟨t, k3, E3⟩ := ok_of h3
  obtain ⟨s3, R3⟩ : ∃ s3, rest s2 k3 = s3 := ⟨_, rfl⟩
  have Z3 : s3.size < 4611686018427387904 := by have := rest_size s2 k3; rw [R3] at this; omega
  have D := D.trans (bindE_ok E3 R3)
  clear h3
  by_cases h4 : (gi s3 9 0 0).2.2 = 0
  case neg =>
    rw [D.trans (bindE_no h4)]
    exact (dec_no4 s s1 s2 s3 kd k1 f k2 t k3 w (Lib.hid E1) (Lib.hid R1) (Lib.hid Z1) (Lib.hid E2) (Lib.hid R2) (Lib.hid Z2) (Lib.hid E3) (Lib.hid R3) (Lib.hid Z3) (Lib.hid h4)).mono fun e w' h => DP_err _ h.1 h.2
  obtain ⟨am, k4, E4⟩ := ok_of h4
  obtain ⟨s4, R4⟩ : ∃ s4, rest s3 k4 = s4 := ⟨_, rfl⟩
  have Z4 : s4.size < 4611686018427387904 := by have := rest_size s3 k4; rw [R4] at this; omega
  have D := D.trans (bindE_ok E4 R4)
  clear h4
  by_cases h5 : (gi s4 9 0 0).2.2 = 0
  case neg =>
    rw [D.trans (bindE_no h5)]
    exact (dec_no5 s s1 s2 s3 s4 kd k1 f k2 t k3 am k4 w (Lib.hid E1) (Lib.hid R1) (Lib.hid Z1) (Lib.hid E2) (Lib.hid R2) (Lib.hid Z2) (Lib.hid E3) (Lib.hid R3) (Lib.hid Z3) (Lib.hid E4) (Lib.hid R4) (Lib.hid Z4) (Lib.hid h5)).mono fun e w' h => DP_err _ h.1 h.2
  obtain ⟨nc, k5, E5⟩ := ok_of h5
  obtain ⟨s5, R5⟩ : ∃ s5, rest s4 k5 = s5 := ⟨_, rfl⟩
  have Z5 : s5.size < 4611686018427387904 := by have := rest_size s4 k5; rw [R5] at this; omega
  have D := D.trans (bindE_ok E5 R5)
  clear h5
  by_cases h6 : (gt s5).2.2 = 0
  case neg =>
    rw [D.trans (bindE_no h6)]
    exact (dec_no6 s s1 s2 s3 s4 s5 kd k1 f k2 t k3 am k4 nc k5 w (Lib.hid E1) (Lib.hid R1) (Lib.hid Z1) (Lib.hid E2) (Lib.hid R2) (Lib.hid Z2) (Lib.hid E3) (Lib.hid R3) (Lib.hid Z3) (Lib.hid E4) (Lib.hid R4) (Lib.hid Z4) (Lib.hid E5) (Lib.hid R5) (Lib.hid Z5) (Lib.hid h6)).mono fun e w' h => DP_err _ h.1 h.2
  obtain ⟨ky', k6, E6⟩ := ok_of h6
  obtain ⟨s6, R6⟩ : ∃ s6, rest s5 k6 = s6 := ⟨_, rfl⟩
  have Z6 : s6.size < 4611686018427387904 := by have := rest_size s5 k6; rw [R6] at this; omega
  have D := D.trans (bindE_ok E6 R6)
  clear h6
  by_cases h7 : (gt s6).2.2 = 0
  case neg =>
    rw [D.trans (bindE_no h7)]
    exact (dec_no7 s s1 s2 s3 s4 s5 s6 kd k1 f k2 t k3 am k4 nc k5 ky' k6 w (Lib.hid E1) (Lib.hid R1) (Lib.hid Z1) (Lib.hid E2) (Lib.hid R2) (Lib.hid Z2) (Lib.hid E3) (Lib.hid R3) (Lib.hid Z3) (Lib.hid E4) (Lib.hid R4) (Lib.hid Z4) (Lib.hid E5) (Lib.hid R5) (Lib.hid Z5) (Lib.hid E6) (Lib.hid R6) (Lib.hid Z6) (Lib.hid h7)).mono fun e w' h => DP_err _ h.1 h.2
  obtain ⟨vl, k7, E7⟩ := ok_of h7
  obtain ⟨s7, R7⟩ : ∃ s7, rest s6 k7 = s7 := ⟨_, rfl⟩
  have Z7 : s7.size < 4611686018427387904 := by have := rest_size s6 k7; rw [R7] at this; omega
  have D := D.trans (bindE_ok E7 R7)
  clear h7
  by_cases h8 : (gl s7 8).2.2 = 0
  case neg =>
    rw [D.trans (bindE_no h8)]
    exact (dec_no8 s s1 s2 s3 s4 s5 s6 s7 kd k1 f k2 t k3 am k4 nc k5 ky' k6 vl k7 w (Lib.hid E1) (Lib.hid R1) (Lib.hid Z1) (Lib.hid E2) (Lib.hid R2) (Lib.hid Z2) (Lib.hid E3) (Lib.hid R3) (Lib.hid Z3) (Lib.hid E4) (Lib.hid R4) (Lib.hid Z4) (Lib.hid E5) (Lib.hid R5) (Lib.hid Z5) (Lib.hid E6) (Lib.hid R6) (Lib.hid Z6) (Lib.hid E7) (Lib.hid R7) (Lib.hid Z7) (Lib.hid h8)).mono fun e w' h => DP_err _ h.1 h.2
  obtain ⟨rs, k8, E8⟩ := ok_of h8
  obtain ⟨s8, R8⟩ : ∃ s8, rest s7 k8 = s8 := ⟨_, rfl⟩
  have Z8 : s8.size < 4611686018427387904 := by have := rest_size s7 k8; rw [R8] at this; omega
  have D := D.trans (bindE_ok E8 R8)
  clear h8
  by_cases h9 : (gl s8 8).2.2 = 0
  case neg =>
    rw [D.trans (bindE_no h9)]
    exact (dec_no9 s s1 s2 s3 s4 s5 s6 s7 s8 kd k1 f k2 t k3 am k4 nc k5 ky' k6 vl k7 rs k8 w (Lib.hid E1) (Lib.hid R1) (Lib.hid Z1) (Lib.hid E2) (Lib.hid R2) (Lib.hid Z2) (Lib.hid E3) (Lib.hid R3) (Lib.hid Z3) (Lib.hid E4) (Lib.hid R4) (Lib.hid Z4) (Lib.hid E5) (Lib.hid R5) (Lib.hid Z5) (Lib.hid E6) (Lib.hid R6) (Lib.hid Z6) (Lib.hid E7) (Lib.hid R7) (Lib.hid Z7) (Lib.hid E8) (Lib.hid R8) (Lib.hid Z8) (Lib.hid h9)).mono fun e w' h => DP_err _ h.1 h.2
  obtain ⟨ws, k9, E9⟩ := ok_of h9
  obtain ⟨s9, R9⟩ : ∃ s9, rest s8 k9 = s9 := ⟨_, rfl⟩
  have Z9 : s9.size < 4611686018427387904 := by have := rest_size s8 k9; rw [R9] at this; omega
  have D := D.trans (bindE_ok E9 R9)
  clear h9
  rw [D]
  clear D
  by_cases hk : kd ≤ 2
  case neg =>
    rw [if_neg hk]
    exact (dec_kind s s1 s2 s3 s4 s5 s6 s7 s8 s9 kd k1 f k2 t k3 am k4 nc k5 ky' k6 vl k7 rs k8 ws k9 w (Lib.hid E1) (Lib.hid R1) (Lib.hid Z1) (Lib.hid E2) (Lib.hid R2) (Lib.hid Z2) (Lib.hid E3) (Lib.hid R3) (Lib.hid Z3) (Lib.hid E4) (Lib.hid R4) (Lib.hid Z4) (Lib.hid E5) (Lib.hid R5) (Lib.hid Z5) (Lib.hid E6) (Lib.hid R6) (Lib.hid Z6) (Lib.hid E7) (Lib.hid R7) (Lib.hid Z7) (Lib.hid E8) (Lib.hid R8) (Lib.hid Z8) (Lib.hid E9) (Lib.hid R9) (Lib.hid Z9) hk).mono fun e w' h => DP_err _ h.1 h.2
  rw [if_pos hk]
  cases hm : s9.toList.isEmpty with
  | false =>
    rw [if_neg (by simp)]
    exact (dec_more s s1 s2 s3 s4 s5 s6 s7 s8 s9 kd k1 f k2 t k3 am k4 nc k5 ky' k6 vl k7 rs k8 ws k9 w (Lib.hid E1) (Lib.hid R1) (Lib.hid Z1) (Lib.hid E2) (Lib.hid R2) (Lib.hid Z2) (Lib.hid E3) (Lib.hid R3) (Lib.hid Z3) (Lib.hid E4) (Lib.hid R4) (Lib.hid Z4) (Lib.hid E5) (Lib.hid R5) (Lib.hid Z5) (Lib.hid E6) (Lib.hid R6) (Lib.hid Z6) (Lib.hid E7) (Lib.hid R7) (Lib.hid Z7) (Lib.hid E8) (Lib.hid R8) (Lib.hid Z8) (Lib.hid E9) (Lib.hid R9) (Lib.hid Z9) hk hm).mono fun e w' h => DP_err _ h.1 h.2
  | true =>
    rw [if_pos rfl]
    exact dec_chk s s1 s2 s3 s4 s5 s6 s7 s8 s9 kd k1 f k2 t k3 am k4 nc k5 ky' k6 vl k7 rs k8 ws k9 w (Lib.hid E1) (Lib.hid R1) (Lib.hid Z1) (Lib.hid E2) (Lib.hid R2) (Lib.hid Z2) (Lib.hid E3) (Lib.hid R3) (Lib.hid Z3) (Lib.hid E4) (Lib.hid R4) (Lib.hid Z4) (Lib.hid E5) (Lib.hid R5) (Lib.hid Z5) (Lib.hid E6) (Lib.hid R6) (Lib.hid Z6) (Lib.hid E7) (Lib.hid R7) (Lib.hid Z7) (Lib.hid E8) (Lib.hid R8) (Lib.hid Z8) (Lib.hid E9) (Lib.hid R9) (Lib.hid Z9) hk hkd hm
/-- The printer's form. -/
def tx_Decode.f (s : ByteArray) : Option Dec := if s.size < 4611686018427387904 then some (dec s) else none
theorem tx_Decode.calls (a0 : ByteArray) (r1 : Int) (r2 r3 : ByteArray) (r4 r5 : Int) (r6 r7 : ByteArray) (l8 l9 : List ByteArray) (r10 : Int) (w : World) (h : tx_Decode.f a0 = some (r1, r2, r3, r4, r5, r6, r7, l8, l9, r10)) :
    Calls Tryd.prog 25 #[.string a0] w fun e w' => ∃ v8 v9, e = .returned (.tuple #[.agg #[.int .i64 r1, .string r2, .string r3, .int .u64 r4, .int .u64 r5, .string r6, .string r7, v8, v9], .int .i64 r10])
      ∧ Kd.R Kd.string 9 w' w.heap.size (fun k => some k ≠ v9.ownBlock) v8 l8 ∧ Kd.R Kd.string 9 w' w.heap.size (fun k => some k ≠ v8.ownBlock) v9 l9 ∧ Below w.heap.size w w' := by
  unfold tx_Decode.f at h
  split at h
  · have e := Option.some.inj h
    have := dec_calls a0 w (by assumption)
    rw [e] at this
    exact this
  · cases h
end Go.Proofs.YtndicjikjcifaaaDoor
