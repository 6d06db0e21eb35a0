/- tx.Decode. -/
import Derived.Test.YtndicjikjcifaaaDoorTxread
namespace Go.Proofs.YtndicjikjcifaaaDoor
open Go.RowKit Go.Shelf Go.Lib Go.Proofs.YtndicjikjcifaaaDoorW.PrintWords Go.Proofs.YtndicjikjcifaaaDoorW.PrintLast
set_option linter.unusedVariables false
set_option linter.unusedSimpArgs false

theorem undo_no (g h : Nat) (w : World) (he : w.heap[g]? = some (.cells #[.int .i64 0] 24 (0, 0))) :
    CallsD Tryd.prog 50 #[.pointer (some ⟨g, 0, none⟩), .pointer (some ⟨h, 0, none⟩)] .returning w fun e u' w' => u' = .returning ∧ (e = .returned (.tuple #[]) ∧ w' = w) := by
  have c0 : w.cell? ⟨g, 0, none⟩ = some (.int .i64 0) := blk_cell he 0
  clear he
  go_enter_d Tryd.func50, Tryd.ntmps50
  go_wp2
  go_end0
  exact ⟨rfl, rfl⟩
def zset (w : World) (h : Nat) : World :=
  (((((((((w.setCell ⟨h, 0, none⟩ (.int .i64 0)).setCell ⟨h, 1, none⟩ (.string ⟨#[]⟩)).setCell ⟨h, 2, none⟩ (.string ⟨#[]⟩)).setCell ⟨h, 3, none⟩ (.int .u64 0)).setCell ⟨h, 4, none⟩ (.int .u64 0)).setCell ⟨h, 5, none⟩ (.string ⟨#[]⟩)).setCell ⟨h, 6, none⟩ (.string ⟨#[]⟩)).setCell ⟨h, 7, none⟩ (.slice none 0 0)).setCell ⟨h, 8, none⟩ (.slice none 0 0))
theorem zset_box (w : World) (h : Nat) (b0 b1 b2 b3 b4 b5 b6 b7 b8 : Value) (ht : w.heap[h]? = some (.cells #[b0, b1, b2, b3, b4, b5, b6, b7, b8] 33 (0, 0))) :
    (zset w h).heap[h]? = some (.cells #[.int .i64 0, .string ⟨#[]⟩, .string ⟨#[]⟩, .int .u64 0, .int .u64 0, .string ⟨#[]⟩, .string ⟨#[]⟩, .slice none 0 0, .slice none 0 0] 33 (0, 0)) := by
  have := blk_set (blk_set (blk_set (blk_set (blk_set (blk_set (blk_set (blk_set (blk_set ht 0 (.int .i64 0)) 1 (.string ⟨#[]⟩)) 2 (.string ⟨#[]⟩)) 3 (.int .u64 0)) 4 (.int .u64 0)) 5 (.string ⟨#[]⟩)) 6 (.string ⟨#[]⟩)) 7 (.slice none 0 0)) 8 (.slice none 0 0)
  simpa [zset] using this
theorem zset_blk (w : World) (h g : Nat) (hg : g ≠ h) : (zset w h).heap[g]? = w.heap[g]? := by
  simp only [zset]
  iterate 9 rw [Below.heap_setCell _ _ _ _ (by simpa using hg)]
theorem zset_below {w0 w : World} {h : Nat} (hl : Below w0.heap.size w0 w) (hh : w0.heap.size ≤ h) : Below w0.heap.size w0 (zset w h) := by
  simp only [zset]
  iterate 9 refine Below.setCell ?_ (by simpa using hh) _
  exact hl
theorem undo_yes (g h : Nat) (x : Int) (hx : x ≠ 0) (b0 b1 b2 b3 b4 b5 b6 b7 b8 : Value) (w : World) (he : w.heap[g]? = some (.cells #[.int .i64 x] 24 (0, 0))) (ht : w.heap[h]? = some (.cells #[b0, b1, b2, b3, b4, b5, b6, b7, b8] 33 (0, 0))) :
    CallsD Tryd.prog 50 #[.pointer (some ⟨g, 0, none⟩), .pointer (some ⟨h, 0, none⟩)] .returning w fun e u' w' => u' = .returning ∧ (e = .returned (.tuple #[]) ∧ w' = zset w h) := by
  have c0 : w.cell? ⟨g, 0, none⟩ = some (.int .i64 x) := blk_cell he 0
  have hx : (x == 0) = false := by simpa using hx
  have d0 : w.cell? ⟨h, 0, none⟩ = some b0 := blk_cell ht 0
  have f0 := blk_frozen ht 0
  have d1 : w.cell? ⟨h, 1, none⟩ = some b1 := blk_cell ht 1
  have f1 := blk_frozen ht 1
  have d2 : w.cell? ⟨h, 2, none⟩ = some b2 := blk_cell ht 2
  have f2 := blk_frozen ht 2
  have d3 : w.cell? ⟨h, 3, none⟩ = some b3 := blk_cell ht 3
  have f3 := blk_frozen ht 3
  have d4 : w.cell? ⟨h, 4, none⟩ = some b4 := blk_cell ht 4
  have f4 := blk_frozen ht 4
  have d5 : w.cell? ⟨h, 5, none⟩ = some b5 := blk_cell ht 5
  have f5 := blk_frozen ht 5
  have d6 : w.cell? ⟨h, 6, none⟩ = some b6 := blk_cell ht 6
  have f6 := blk_frozen ht 6
  have d7 : w.cell? ⟨h, 7, none⟩ = some b7 := blk_cell ht 7
  have f7 := blk_frozen ht 7
  have d8 : w.cell? ⟨h, 8, none⟩ = some b8 := blk_cell ht 8
  have f8 := blk_frozen ht 8
  clear he ht
  go_enter_d Tryd.func50, Tryd.ntmps50
  go_wp2
  go_end0
  exact ⟨rfl, rfl⟩

def zagg : Value := .agg #[.int .i64 0, .string ⟨#[]⟩, .string ⟨#[]⟩, .int .u64 0, .int .u64 0, .string ⟨#[]⟩, .string ⟨#[]⟩, .slice none 0 0, .slice none 0 0]
/-- The three boxes at a world. -/
structure Dx (w : World) (b0 b1 b2 b3 b4 b5 b6 b7 b8 : Value) (s : ByteArray) (W : World) : Prop where
  low : Below w.heap.size w W
  tx : W.heap[w.heap.size]? = some (.cells #[b0, b1, b2, b3, b4, b5, b6, b7, b8] 33 (0, 0))
  er : W.heap[w.heap.size + 1]? = some (.cells #[.int .i64 0] 24 (0, 0))
  rd : W.heap[w.heap.size + 1 + 1]? = some (.cells #[.string s] 77 (0, 0))
theorem Dx.size {w W : World} {b0 b1 b2 b3 b4 b5 b6 b7 b8 : Value} {s : ByteArray} (h : Dx w b0 b1 b2 b3 b4 b5 b6 b7 b8 s W) : w.heap.size + 1 + 1 < W.heap.size := by
  have := h.rd
  rcases Nat.lt_or_ge (w.heap.size + 1 + 1) W.heap.size with h | h
  · exact h
  · rw [Array.getElem?_eq_none h] at this; cases this
theorem Dx.read {w W W' : World} {b0 b1 b2 b3 b4 b5 b6 b7 b8 : Value} {s s' : ByteArray} (h : Dx w b0 b1 b2 b3 b4 b5 b6 b7 b8 s W) (hr : Rd (w.heap.size + 1 + 1) s' W W') : Dx w b0 b1 b2 b3 b4 b5 b6 b7 b8 s' W' :=
  ⟨hr.below h.low (by omega), (hr.blk (by omega) (by have := h.size; omega)).trans h.tx, (hr.blk (by omega) (by have := h.size; omega)).trans h.er, hr.box⟩
theorem Dx.step {w W W' : World} {b0 b1 b2 b3 b4 b5 b6 b7 b8 : Value} {s : ByteArray} (h : Dx w b0 b1 b2 b3 b4 b5 b6 b7 b8 s W) (hb : Below W.heap.size W W') : Dx w b0 b1 b2 b3 b4 b5 b6 b7 b8 s W' :=
  ⟨below_then h.low h.low.size hb, (hb.block _ (by have := h.size; omega)).trans h.tx, (hb.block _ (by have := h.size; omega)).trans h.er, (hb.block _ h.size).trans h.rd⟩

theorem Dx.set0 {w W : World} {b0 b1 b2 b3 b4 b5 b6 b7 b8 : Value} {s : ByteArray} (h : Dx w b0 b1 b2 b3 b4 b5 b6 b7 b8 s W) (v : Value) : Dx w v b1 b2 b3 b4 b5 b6 b7 b8 s (W.setCell ⟨w.heap.size, 0, none⟩ v) :=
  ⟨h.low.setCell (by simp) v, by simpa using blk_set h.tx 0 v, (Below.heap_setCell _ _ _ _ (by simp)).trans h.er, (Below.heap_setCell _ _ _ _ (by simp; omega)).trans h.rd⟩
theorem Dx.set1 {w W : World} {b0 b1 b2 b3 b4 b5 b6 b7 b8 : Value} {s : ByteArray} (h : Dx w b0 b1 b2 b3 b4 b5 b6 b7 b8 s W) (v : Value) : Dx w b0 v b2 b3 b4 b5 b6 b7 b8 s (W.setCell ⟨w.heap.size, 1, none⟩ v) :=
  ⟨h.low.setCell (by simp) v, by simpa using blk_set h.tx 1 v, (Below.heap_setCell _ _ _ _ (by simp)).trans h.er, (Below.heap_setCell _ _ _ _ (by simp; omega)).trans h.rd⟩
theorem Dx.set2 {w W : World} {b0 b1 b2 b3 b4 b5 b6 b7 b8 : Value} {s : ByteArray} (h : Dx w b0 b1 b2 b3 b4 b5 b6 b7 b8 s W) (v : Value) : Dx w b0 b1 v b3 b4 b5 b6 b7 b8 s (W.setCell ⟨w.heap.size, 2, none⟩ v) :=
  ⟨h.low.setCell (by simp) v, by simpa using blk_set h.tx 2 v, (Below.heap_setCell _ _ _ _ (by simp)).trans h.er, (Below.heap_setCell _ _ _ _ (by simp; omega)).trans h.rd⟩
theorem Dx.set3 {w W : World} {b0 b1 b2 b3 b4 b5 b6 b7 b8 : Value} {s : ByteArray} (h : Dx w b0 b1 b2 b3 b4 b5 b6 b7 b8 s W) (v : Value) : Dx w b0 b1 b2 v b4 b5 b6 b7 b8 s (W.setCell ⟨w.heap.size, 3, none⟩ v) :=
  ⟨h.low.setCell (by simp) v, by simpa using blk_set h.tx 3 v, (Below.heap_setCell _ _ _ _ (by simp)).trans h.er, (Below.heap_setCell _ _ _ _ (by simp; omega)).trans h.rd⟩
theorem Dx.set4 {w W : World} {b0 b1 b2 b3 b4 b5 b6 b7 b8 : Value} {s : ByteArray} (h : Dx w b0 b1 b2 b3 b4 b5 b6 b7 b8 s W) (v : Value) : Dx w b0 b1 b2 b3 v b5 b6 b7 b8 s (W.setCell ⟨w.heap.size, 4, none⟩ v) :=
  ⟨h.low.setCell (by simp) v, by simpa using blk_set h.tx 4 v, (Below.heap_setCell _ _ _ _ (by simp)).trans h.er, (Below.heap_setCell _ _ _ _ (by simp; omega)).trans h.rd⟩
theorem Dx.set5 {w W : World} {b0 b1 b2 b3 b4 b5 b6 b7 b8 : Value} {s : ByteArray} (h : Dx w b0 b1 b2 b3 b4 b5 b6 b7 b8 s W) (v : Value) : Dx w b0 b1 b2 b3 b4 v b6 b7 b8 s (W.setCell ⟨w.heap.size, 5, none⟩ v) :=
  ⟨h.low.setCell (by simp) v, by simpa using blk_set h.tx 5 v, (Below.heap_setCell _ _ _ _ (by simp)).trans h.er, (Below.heap_setCell _ _ _ _ (by simp; omega)).trans h.rd⟩
theorem Dx.set6 {w W : World} {b0 b1 b2 b3 b4 b5 b6 b7 b8 : Value} {s : ByteArray} (h : Dx w b0 b1 b2 b3 b4 b5 b6 b7 b8 s W) (v : Value) : Dx w b0 b1 b2 b3 b4 b5 v b7 b8 s (W.setCell ⟨w.heap.size, 6, none⟩ v) :=
  ⟨h.low.setCell (by simp) v, by simpa using blk_set h.tx 6 v, (Below.heap_setCell _ _ _ _ (by simp)).trans h.er, (Below.heap_setCell _ _ _ _ (by simp; omega)).trans h.rd⟩
theorem Dx.set7 {w W : World} {b0 b1 b2 b3 b4 b5 b6 b7 b8 : Value} {s : ByteArray} (h : Dx w b0 b1 b2 b3 b4 b5 b6 b7 b8 s W) (v : Value) : Dx w b0 b1 b2 b3 b4 b5 b6 v b8 s (W.setCell ⟨w.heap.size, 7, none⟩ v) :=
  ⟨h.low.setCell (by simp) v, by simpa using blk_set h.tx 7 v, (Below.heap_setCell _ _ _ _ (by simp)).trans h.er, (Below.heap_setCell _ _ _ _ (by simp; omega)).trans h.rd⟩
theorem Dx.set8 {w W : World} {b0 b1 b2 b3 b4 b5 b6 b7 b8 : Value} {s : ByteArray} (h : Dx w b0 b1 b2 b3 b4 b5 b6 b7 b8 s W) (v : Value) : Dx w b0 b1 b2 b3 b4 b5 b6 b7 v s (W.setCell ⟨w.heap.size, 8, none⟩ v) :=
  ⟨h.low.setCell (by simp) v, by simpa using blk_set h.tx 8 v, (Below.heap_setCell _ _ _ _ (by simp)).trans h.er, (Below.heap_setCell _ _ _ _ (by simp; omega)).trans h.rd⟩
theorem int_ok' (p : Nat) (s s' : ByteArray) (n k : Int) (w : World) (hg : gi s 9 0 0 = (n, k, 0)) (hr : rest s k = s') (h : w.heap[p]? = some (.cells #[.string s] 77 (0, 0))) :
    Calls Tryd.prog 52 #[.pointer (some ⟨p, 0, none⟩)] w fun e w' => e = .returned (.int .u64 n) ∧ Rd p s' w w' := by
  have := int_ok p s w h (by rw [hg])
  rw [hg] at this
  subst hr
  exact this
theorem text_ok' (p : Nat) (s s' f : ByteArray) (k : Int) (w : World) (hs : s.size < 4611686018427387904) (hg : gt s = (f, k, 0)) (hr : rest s k = s') (h : w.heap[p]? = some (.cells #[.string s] 77 (0, 0))) :
    Calls Tryd.prog 53 #[.pointer (some ⟨p, 0, none⟩)] w fun e w' => e = .returned (.string f) ∧ Rd p s' w w' := by
  have := text_ok p s w hs h (by rw [hg])
  rw [hg] at this
  subst hr
  exact this
theorem list_ok' (p : Nat) (s s' : ByteArray) (f : List ByteArray) (k : Int) (w : World) (hs : s.size < 4611686018427387904) (hg : gl s 8 = (f, k, 0)) (hr : rest s k = s') (h : w.heap[p]? = some (.cells #[.string s] 77 (0, 0))) :
    Calls Tryd.prog 54 #[.pointer (some ⟨p, 0, none⟩)] w fun e w' => ∃ v, e = .returned v ∧ Kd.R Kd.string 9 w' w.heap.size (fun _ => True) v f ∧ Rd p s' w w' := by
  have := list_ok p s w hs h (by rw [hg])
  rw [hg] at this
  subst hr
  exact this
theorem rest_size (s : ByteArray) (n : Int) : (rest s n).size ≤ s.size := by
  unfold rest
  rw [ByteArray.size_extract]
  omega
theorem C_of_R {w : World} {base e : Nat} {ok : Nat → Prop} {A : Option Addr} {n c : Nat} {xs : List ByteArray} (h : Kd.R Kd.string e w base ok (.slice A n c) xs) : Kd.C Kd.string w A xs.length xs := by
  obtain ⟨A', c', he, _, hC⟩ := Kd.R_reads h
  cases he
  exact hC
theorem Dx.first (w : World) (s : ByteArray) : Dx w (.int .i64 0) (.string ⟨#[]⟩) (.string ⟨#[]⟩) (.int .u64 0) (.int .u64 0) (.string ⟨#[]⟩) (.string ⟨#[]⟩) (.slice none 0 0) (.slice none 0 0) s
    (((w.alloc (.cells #[.int .i64 0, .string ⟨#[]⟩, .string ⟨#[]⟩, .int .u64 0, .int .u64 0, .string ⟨#[]⟩, .string ⟨#[]⟩, .slice none 0 0, .slice none 0 0] 33)).alloc (.cells #[.int .i64 0] 24)).alloc (.cells #[.string s] 77)) :=
  ⟨(((Below.refl _ w).alloc (Nat.le_refl _) _).alloc (by simp) _).alloc (by simp; omega) _, blk_alloc (blk_alloc (blk_new _ _) _) _, blk_alloc (blk_newAt _ _ (by simp)) _, blk_newAt _ _ (by simp)⟩
/-- What the two deferred calls leave behind a panic of ours. -/
theorem Dx.died {w W : World} {b0 b1 b2 b3 b4 b5 b6 b7 b8 : Value} {s : ByteArray} (h : Dx w b0 b1 b2 b3 b4 b5 b6 b7 b8 s W) (x : Int) :
    (W.setCell ⟨w.heap.size + 1, 0, none⟩ (.int .i64 x)).heap[w.heap.size + 1]? = some (.cells #[.int .i64 x] 24 (0, 0)) ∧
    (W.setCell ⟨w.heap.size + 1, 0, none⟩ (.int .i64 x)).heap[w.heap.size]? = some (.cells #[b0, b1, b2, b3, b4, b5, b6, b7, b8] 33 (0, 0)) ∧
    Below w.heap.size w (W.setCell ⟨w.heap.size + 1, 0, none⟩ (.int .i64 x)) :=
  ⟨by simpa using blk_set h.er 0 (.int .i64 x), (Below.heap_setCell _ _ _ _ (by simp)).trans h.tx, h.low.setCell (by simp) _⟩
set_option maxHeartbeats 8000000 in
set_option maxRecDepth 100000 in
theorem dec_no1 (s : ByteArray) (w : World) (HN : Hid ((gi s 9 0 0).2.2 ≠ 0)) :
    Calls Tryd.prog 25 #[.string s] w fun e w' => e = .returned (.tuple #[zagg, .int .i64 (gi s 9 0 0).2.2]) ∧ Below w.heap.size w w' := by
  have hmf : ∀ (fn : Fn) (first cap : Array Value) (w : World), (Instr.makeFunc fn first cap).run Tryd.prog w = .ok (.func fn first cap) w := fun _ _ _ _ => rfl
  go_enter_defers Tryd.func25, Tryd.ntmps25
  have HX := Lib.hid (Dx.first w s)
  go_wp2_with (first
  | (go_at_call 52
     refine (int_no (w.heap.size + 1 + 1) s _ HX.out.rd HN.out).mono ?_
     rintro e w2 ⟨rfl, hB⟩
     have HX := Lib.hid (HX.out.step hB)
     clear hB))
  refine leaves_cons (f := 51) (args := #[.pointer (some ⟨w.heap.size + 1, 0, none⟩)]) (by simp) (by simp [go_sem]) ?_
  refine (caught_panicking ⟨w.heap.size + 1, 0, none⟩ 0 (gi s 9 0 0).2.2 [] _ (blk_cell HX.out.er 0) (blk_frozen HX.out.er 0)).mono ?_
  rintro e u' w'' ⟨rfl, rfl, rfl⟩
  refine leaves_cons (f := 50) (args := #[.pointer (some ⟨w.heap.size + 1, 0, none⟩), .pointer (some ⟨w.heap.size, 0, none⟩)]) (by simp [settle]) (by simp [go_sem]) ?_
  have hdied := HX.out.died (gi s 9 0 0).2.2
  refine (undo_yes (w.heap.size + 1) w.heap.size (gi s 9 0 0).2.2 HN.out _ _ _ _ _ _ _ _ _ _ hdied.1 hdied.2.1).mono ?_
  rintro e u' w'' ⟨rfl, rfl, rfl⟩
  have hz := zset_box _ w.heap.size _ _ _ _ _ _ _ _ _ hdied.2.1
  have hze := (zset_blk _ w.heap.size (w.heap.size + 1) (by omega)).trans hdied.1
  have hzb := zset_below hdied.2.2 (Nat.le_refl _)
  generalize zset _ w.heap.size = Z at hz hze hzb ⊢
  have d0 : Z.cell? ⟨w.heap.size, 0, none⟩ = some (.int .i64 0) := blk_cell hz 0
  have d1 : Z.cell? ⟨w.heap.size, 1, none⟩ = some (.string ⟨#[]⟩) := blk_cell hz 1
  have d2 : Z.cell? ⟨w.heap.size, 2, none⟩ = some (.string ⟨#[]⟩) := blk_cell hz 2
  have d3 : Z.cell? ⟨w.heap.size, 3, none⟩ = some (.int .u64 0) := blk_cell hz 3
  have d4 : Z.cell? ⟨w.heap.size, 4, none⟩ = some (.int .u64 0) := blk_cell hz 4
  have d5 : Z.cell? ⟨w.heap.size, 5, none⟩ = some (.string ⟨#[]⟩) := blk_cell hz 5
  have d6 : Z.cell? ⟨w.heap.size, 6, none⟩ = some (.string ⟨#[]⟩) := blk_cell hz 6
  have d7 : Z.cell? ⟨w.heap.size, 7, none⟩ = some (.slice none 0 0) := blk_cell hz 7
  have d8 : Z.cell? ⟨w.heap.size, 8, none⟩ = some (.slice none 0 0) := blk_cell hz 8
  have de : Z.cell? ⟨w.heap.size + 1, 0, none⟩ = some (.int .i64 ((gi s 9 0 0).2.2)) := blk_cell hze 0
  clear hz hze hdied
  have HZ := Lib.hid hzb
  clear hzb
  simp [Leaves, settle, results, Tryd.results25, go_sem, d0, d1, d2, d3, d4, d5, d6, d7, d8, de]
  exact ⟨rfl, HZ.out⟩
set_option maxHeartbeats 8000000 in
set_option maxRecDepth 100000 in
theorem dec_no2 (s s1 : ByteArray) (kd : Int) (k1 : Int) (w : World) (E1 : Hid (gi s 9 0 0 = (kd, k1, 0))) (R1 : Hid (rest s k1 = s1)) (Z1 : Hid (s1.size < 4611686018427387904)) (HN : Hid ((gt s1).2.2 ≠ 0)) :
    Calls Tryd.prog 25 #[.string s] w fun e w' => e = .returned (.tuple #[zagg, .int .i64 (gt s1).2.2]) ∧ Below w.heap.size w w' := by
  have hmf : ∀ (fn : Fn) (first cap : Array Value) (w : World), (Instr.makeFunc fn first cap).run Tryd.prog w = .ok (.func fn first cap) w := fun _ _ _ _ => rfl
  go_enter_defers Tryd.func25, Tryd.ntmps25
  have HX := Lib.hid (Dx.first w s)
  go_wp2_with (first
  | (go_at_call 52
     refine (int_ok' (w.heap.size + 1 + 1) s s1 kd k1 _ E1.out R1.out HX.out.rd).mono ?_
     rintro e w2 ⟨rfl, hr⟩
     have HX := Lib.hid (HX.out.read hr)
     have t0 := blk_cell HX.out.tx 0; have u0 := blk_frozen HX.out.tx 0; simp only [List.getElem?_toArray, List.getElem?_cons_zero, List.getElem?_cons_succ] at t0
     have t1 := blk_cell HX.out.tx 1; have u1 := blk_frozen HX.out.tx 1; simp only [List.getElem?_toArray, List.getElem?_cons_zero, List.getElem?_cons_succ] at t1
     have t2 := blk_cell HX.out.tx 2; have u2 := blk_frozen HX.out.tx 2; simp only [List.getElem?_toArray, List.getElem?_cons_zero, List.getElem?_cons_succ] at t2
     have t3 := blk_cell HX.out.tx 3; have u3 := blk_frozen HX.out.tx 3; simp only [List.getElem?_toArray, List.getElem?_cons_zero, List.getElem?_cons_succ] at t3
     have t4 := blk_cell HX.out.tx 4; have u4 := blk_frozen HX.out.tx 4; simp only [List.getElem?_toArray, List.getElem?_cons_zero, List.getElem?_cons_succ] at t4
     have t5 := blk_cell HX.out.tx 5; have u5 := blk_frozen HX.out.tx 5; simp only [List.getElem?_toArray, List.getElem?_cons_zero, List.getElem?_cons_succ] at t5
     have t6 := blk_cell HX.out.tx 6; have u6 := blk_frozen HX.out.tx 6; simp only [List.getElem?_toArray, List.getElem?_cons_zero, List.getElem?_cons_succ] at t6
     have t7 := blk_cell HX.out.tx 7; have u7 := blk_frozen HX.out.tx 7; simp only [List.getElem?_toArray, List.getElem?_cons_zero, List.getElem?_cons_succ] at t7
     have t8 := blk_cell HX.out.tx 8; have u8 := blk_frozen HX.out.tx 8; simp only [List.getElem?_toArray, List.getElem?_cons_zero, List.getElem?_cons_succ] at t8
     clear hr)
  | (go_at_call 53
     refine (text_no (w.heap.size + 1 + 1) s1 _ Z1.out HX.out.rd HN.out).mono ?_
     rintro e w2 ⟨rfl, hB⟩
     have HX := Lib.hid (HX.out.step hB)
     clear hB))
  refine leaves_cons (f := 51) (args := #[.pointer (some ⟨w.heap.size + 1, 0, none⟩)]) (by simp) (by simp [go_sem]) ?_
  refine (caught_panicking ⟨w.heap.size + 1, 0, none⟩ 0 (gt s1).2.2 [] _ (blk_cell HX.out.er 0) (blk_frozen HX.out.er 0)).mono ?_
  rintro e u' w'' ⟨rfl, rfl, rfl⟩
  refine leaves_cons (f := 50) (args := #[.pointer (some ⟨w.heap.size + 1, 0, none⟩), .pointer (some ⟨w.heap.size, 0, none⟩)]) (by simp [settle]) (by simp [go_sem]) ?_
  have hdied := HX.out.died (gt s1).2.2
  refine (undo_yes (w.heap.size + 1) w.heap.size (gt s1).2.2 HN.out _ _ _ _ _ _ _ _ _ _ hdied.1 hdied.2.1).mono ?_
  rintro e u' w'' ⟨rfl, rfl, rfl⟩
  have hz := zset_box _ w.heap.size _ _ _ _ _ _ _ _ _ hdied.2.1
  have hze := (zset_blk _ w.heap.size (w.heap.size + 1) (by omega)).trans hdied.1
  have hzb := zset_below hdied.2.2 (Nat.le_refl _)
  generalize zset _ w.heap.size = Z at hz hze hzb ⊢
  have d0 : Z.cell? ⟨w.heap.size, 0, none⟩ = some (.int .i64 0) := blk_cell hz 0
  have d1 : Z.cell? ⟨w.heap.size, 1, none⟩ = some (.string ⟨#[]⟩) := blk_cell hz 1
  have d2 : Z.cell? ⟨w.heap.size, 2, none⟩ = some (.string ⟨#[]⟩) := blk_cell hz 2
  have d3 : Z.cell? ⟨w.heap.size, 3, none⟩ = some (.int .u64 0) := blk_cell hz 3
  have d4 : Z.cell? ⟨w.heap.size, 4, none⟩ = some (.int .u64 0) := blk_cell hz 4
  have d5 : Z.cell? ⟨w.heap.size, 5, none⟩ = some (.string ⟨#[]⟩) := blk_cell hz 5
  have d6 : Z.cell? ⟨w.heap.size, 6, none⟩ = some (.string ⟨#[]⟩) := blk_cell hz 6
  have d7 : Z.cell? ⟨w.heap.size, 7, none⟩ = some (.slice none 0 0) := blk_cell hz 7
  have d8 : Z.cell? ⟨w.heap.size, 8, none⟩ = some (.slice none 0 0) := blk_cell hz 8
  have de : Z.cell? ⟨w.heap.size + 1, 0, none⟩ = some (.int .i64 ((gt s1).2.2)) := blk_cell hze 0
  clear hz hze hdied
  have HZ := Lib.hid hzb
  clear hzb
  simp [Leaves, settle, results, Tryd.results25, go_sem, d0, d1, d2, d3, d4, d5, d6, d7, d8, de]
  exact ⟨rfl, HZ.out⟩
set_option maxHeartbeats 8000000 in
set_option maxRecDepth 100000 in
theorem dec_no3 (s s1 s2 : ByteArray) (kd : Int) (k1 : Int) (f : ByteArray) (k2 : Int) (w : World) (E1 : Hid (gi s 9 0 0 = (kd, k1, 0))) (R1 : Hid (rest s k1 = s1)) (Z1 : Hid (s1.size < 4611686018427387904)) (E2 : Hid (gt s1 = (f, k2, 0))) (R2 : Hid (rest s1 k2 = s2)) (Z2 : Hid (s2.size < 4611686018427387904)) (HN : Hid ((gt s2).2.2 ≠ 0)) :
    Calls Tryd.prog 25 #[.string s] w fun e w' => e = .returned (.tuple #[zagg, .int .i64 (gt s2).2.2]) ∧ Below w.heap.size w w' := by
  have hmf : ∀ (fn : Fn) (first cap : Array Value) (w : World), (Instr.makeFunc fn first cap).run Tryd.prog w = .ok (.func fn first cap) w := fun _ _ _ _ => rfl
  go_enter_defers Tryd.func25, Tryd.ntmps25
  have HX := Lib.hid (Dx.first w s)
  go_wp2_with (first
  | (go_at_call 52
     refine (int_ok' (w.heap.size + 1 + 1) s s1 kd k1 _ E1.out R1.out HX.out.rd).mono ?_
     rintro e w2 ⟨rfl, hr⟩
     have HX := Lib.hid (HX.out.read hr)
     have t0 := blk_cell HX.out.tx 0; have u0 := blk_frozen HX.out.tx 0; simp only [List.getElem?_toArray, List.getElem?_cons_zero, List.getElem?_cons_succ] at t0
     have t1 := blk_cell HX.out.tx 1; have u1 := blk_frozen HX.out.tx 1; simp only [List.getElem?_toArray, List.getElem?_cons_zero, List.getElem?_cons_succ] at t1
     have t2 := blk_cell HX.out.tx 2; have u2 := blk_frozen HX.out.tx 2; simp only [List.getElem?_toArray, List.getElem?_cons_zero, List.getElem?_cons_succ] at t2
     have t3 := blk_cell HX.out.tx 3; have u3 := blk_frozen HX.out.tx 3; simp only [List.getElem?_toArray, List.getElem?_cons_zero, List.getElem?_cons_succ] at t3
     have t4 := blk_cell HX.out.tx 4; have u4 := blk_frozen HX.out.tx 4; simp only [List.getElem?_toArray, List.getElem?_cons_zero, List.getElem?_cons_succ] at t4
     have t5 := blk_cell HX.out.tx 5; have u5 := blk_frozen HX.out.tx 5; simp only [List.getElem?_toArray, List.getElem?_cons_zero, List.getElem?_cons_succ] at t5
     have t6 := blk_cell HX.out.tx 6; have u6 := blk_frozen HX.out.tx 6; simp only [List.getElem?_toArray, List.getElem?_cons_zero, List.getElem?_cons_succ] at t6
     have t7 := blk_cell HX.out.tx 7; have u7 := blk_frozen HX.out.tx 7; simp only [List.getElem?_toArray, List.getElem?_cons_zero, List.getElem?_cons_succ] at t7
     have t8 := blk_cell HX.out.tx 8; have u8 := blk_frozen HX.out.tx 8; simp only [List.getElem?_toArray, List.getElem?_cons_zero, List.getElem?_cons_succ] at t8
     clear hr)
  | (go_at_call 53
     refine (text_ok' (w.heap.size + 1 + 1) s1 s2 f k2 _ Z1.out E2.out R2.out HX.out.rd).mono ?_
     rintro e w2 ⟨rfl, hr⟩
     have HX := Lib.hid (HX.out.read hr)
     have t0 := blk_cell HX.out.tx 0; have u0 := blk_frozen HX.out.tx 0; simp only [List.getElem?_toArray, List.getElem?_cons_zero, List.getElem?_cons_succ] at t0
     have t1 := blk_cell HX.out.tx 1; have u1 := blk_frozen HX.out.tx 1; simp only [List.getElem?_toArray, List.getElem?_cons_zero, List.getElem?_cons_succ] at t1
     have t2 := blk_cell HX.out.tx 2; have u2 := blk_frozen HX.out.tx 2; simp only [List.getElem?_toArray, List.getElem?_cons_zero, List.getElem?_cons_succ] at t2
     have t3 := blk_cell HX.out.tx 3; have u3 := blk_frozen HX.out.tx 3; simp only [List.getElem?_toArray, List.getElem?_cons_zero, List.getElem?_cons_succ] at t3
     have t4 := blk_cell HX.out.tx 4; have u4 := blk_frozen HX.out.tx 4; simp only [List.getElem?_toArray, List.getElem?_cons_zero, List.getElem?_cons_succ] at t4
     have t5 := blk_cell HX.out.tx 5; have u5 := blk_frozen HX.out.tx 5; simp only [List.getElem?_toArray, List.getElem?_cons_zero, List.getElem?_cons_succ] at t5
     have t6 := blk_cell HX.out.tx 6; have u6 := blk_frozen HX.out.tx 6; simp only [List.getElem?_toArray, List.getElem?_cons_zero, List.getElem?_cons_succ] at t6
     have t7 := blk_cell HX.out.tx 7; have u7 := blk_frozen HX.out.tx 7; simp only [List.getElem?_toArray, List.getElem?_cons_zero, List.getElem?_cons_succ] at t7
     have t8 := blk_cell HX.out.tx 8; have u8 := blk_frozen HX.out.tx 8; simp only [List.getElem?_toArray, List.getElem?_cons_zero, List.getElem?_cons_succ] at t8
     clear hr)
  | (go_at_call 53
     refine (text_no (w.heap.size + 1 + 1) s2 _ Z2.out HX.out.rd HN.out).mono ?_
     rintro e w2 ⟨rfl, hB⟩
     have HX := Lib.hid (HX.out.step hB)
     clear hB))
  refine leaves_cons (f := 51) (args := #[.pointer (some ⟨w.heap.size + 1, 0, none⟩)]) (by simp) (by simp [go_sem]) ?_
  refine (caught_panicking ⟨w.heap.size + 1, 0, none⟩ 0 (gt s2).2.2 [] _ (blk_cell HX.out.er 0) (blk_frozen HX.out.er 0)).mono ?_
  rintro e u' w'' ⟨rfl, rfl, rfl⟩
  refine leaves_cons (f := 50) (args := #[.pointer (some ⟨w.heap.size + 1, 0, none⟩), .pointer (some ⟨w.heap.size, 0, none⟩)]) (by simp [settle]) (by simp [go_sem]) ?_
  have hdied := HX.out.died (gt s2).2.2
  refine (undo_yes (w.heap.size + 1) w.heap.size (gt s2).2.2 HN.out _ _ _ _ _ _ _ _ _ _ hdied.1 hdied.2.1).mono ?_
  rintro e u' w'' ⟨rfl, rfl, rfl⟩
  have hz := zset_box _ w.heap.size _ _ _ _ _ _ _ _ _ hdied.2.1
  have hze := (zset_blk _ w.heap.size (w.heap.size + 1) (by omega)).trans hdied.1
  have hzb := zset_below hdied.2.2 (Nat.le_refl _)
  generalize zset _ w.heap.size = Z at hz hze hzb ⊢
  have d0 : Z.cell? ⟨w.heap.size, 0, none⟩ = some (.int .i64 0) := blk_cell hz 0
  have d1 : Z.cell? ⟨w.heap.size, 1, none⟩ = some (.string ⟨#[]⟩) := blk_cell hz 1
  have d2 : Z.cell? ⟨w.heap.size, 2, none⟩ = some (.string ⟨#[]⟩) := blk_cell hz 2
  have d3 : Z.cell? ⟨w.heap.size, 3, none⟩ = some (.int .u64 0) := blk_cell hz 3
  have d4 : Z.cell? ⟨w.heap.size, 4, none⟩ = some (.int .u64 0) := blk_cell hz 4
  have d5 : Z.cell? ⟨w.heap.size, 5, none⟩ = some (.string ⟨#[]⟩) := blk_cell hz 5
  have d6 : Z.cell? ⟨w.heap.size, 6, none⟩ = some (.string ⟨#[]⟩) := blk_cell hz 6
  have d7 : Z.cell? ⟨w.heap.size, 7, none⟩ = some (.slice none 0 0) := blk_cell hz 7
  have d8 : Z.cell? ⟨w.heap.size, 8, none⟩ = some (.slice none 0 0) := blk_cell hz 8
  have de : Z.cell? ⟨w.heap.size + 1, 0, none⟩ = some (.int .i64 ((gt s2).2.2)) := blk_cell hze 0
  clear hz hze hdied
  have HZ := Lib.hid hzb
  clear hzb
  simp [Leaves, settle, results, Tryd.results25, go_sem, d0, d1, d2, d3, d4, d5, d6, d7, d8, de]
  exact ⟨rfl, HZ.out⟩
set_option maxHeartbeats 8000000 in
set_option maxRecDepth 100000 in
theorem dec_no4 (s s1 s2 s3 : ByteArray) (kd : Int) (k1 : Int) (f : ByteArray) (k2 : Int) (t : ByteArray) (k3 : Int) (w : World) (E1 : Hid (gi s 9 0 0 = (kd, k1, 0))) (R1 : Hid (rest s k1 = s1)) (Z1 : Hid (s1.size < 4611686018427387904)) (E2 : Hid (gt s1 = (f, k2, 0))) (R2 : Hid (rest s1 k2 = s2)) (Z2 : Hid (s2.size < 4611686018427387904)) (E3 : Hid (gt s2 = (t, k3, 0))) (R3 : Hid (rest s2 k3 = s3)) (Z3 : Hid (s3.size < 4611686018427387904)) (HN : Hid ((gi s3 9 0 0).2.2 ≠ 0)) :
    Calls Tryd.prog 25 #[.string s] w fun e w' => e = .returned (.tuple #[zagg, .int .i64 (gi s3 9 0 0).2.2]) ∧ Below w.heap.size w w' := by
  have hmf : ∀ (fn : Fn) (first cap : Array Value) (w : World), (Instr.makeFunc fn first cap).run Tryd.prog w = .ok (.func fn first cap) w := fun _ _ _ _ => rfl
  go_enter_defers Tryd.func25, Tryd.ntmps25
  have HX := Lib.hid (Dx.first w s)
  go_wp2_with (first
  | (go_at_call 52
     refine (int_ok' (w.heap.size + 1 + 1) s s1 kd k1 _ E1.out R1.out HX.out.rd).mono ?_
     rintro e w2 ⟨rfl, hr⟩
     have HX := Lib.hid (HX.out.read hr)
     have t0 := blk_cell HX.out.tx 0; have u0 := blk_frozen HX.out.tx 0; simp only [List.getElem?_toArray, List.getElem?_cons_zero, List.getElem?_cons_succ] at t0
     have t1 := blk_cell HX.out.tx 1; have u1 := blk_frozen HX.out.tx 1; simp only [List.getElem?_toArray, List.getElem?_cons_zero, List.getElem?_cons_succ] at t1
     have t2 := blk_cell HX.out.tx 2; have u2 := blk_frozen HX.out.tx 2; simp only [List.getElem?_toArray, List.getElem?_cons_zero, List.getElem?_cons_succ] at t2
     have t3 := blk_cell HX.out.tx 3; have u3 := blk_frozen HX.out.tx 3; simp only [List.getElem?_toArray, List.getElem?_cons_zero, List.getElem?_cons_succ] at t3
     have t4 := blk_cell HX.out.tx 4; have u4 := blk_frozen HX.out.tx 4; simp only [List.getElem?_toArray, List.getElem?_cons_zero, List.getElem?_cons_succ] at t4
     have t5 := blk_cell HX.out.tx 5; have u5 := blk_frozen HX.out.tx 5; simp only [List.getElem?_toArray, List.getElem?_cons_zero, List.getElem?_cons_succ] at t5
     have t6 := blk_cell HX.out.tx 6; have u6 := blk_frozen HX.out.tx 6; simp only [List.getElem?_toArray, List.getElem?_cons_zero, List.getElem?_cons_succ] at t6
     have t7 := blk_cell HX.out.tx 7; have u7 := blk_frozen HX.out.tx 7; simp only [List.getElem?_toArray, List.getElem?_cons_zero, List.getElem?_cons_succ] at t7
     have t8 := blk_cell HX.out.tx 8; have u8 := blk_frozen HX.out.tx 8; simp only [List.getElem?_toArray, List.getElem?_cons_zero, List.getElem?_cons_succ] at t8
     clear hr)
  | (go_at_call 53
     refine (text_ok' (w.heap.size + 1 + 1) s1 s2 f k2 _ Z1.out E2.out R2.out HX.out.rd).mono ?_
     rintro e w2 ⟨rfl, hr⟩
     have HX := Lib.hid (HX.out.read hr)
     have t0 := blk_cell HX.out.tx 0; have u0 := blk_frozen HX.out.tx 0; simp only [List.getElem?_toArray, List.getElem?_cons_zero, List.getElem?_cons_succ] at t0
     have t1 := blk_cell HX.out.tx 1; have u1 := blk_frozen HX.out.tx 1; simp only [List.getElem?_toArray, List.getElem?_cons_zero, List.getElem?_cons_succ] at t1
     have t2 := blk_cell HX.out.tx 2; have u2 := blk_frozen HX.out.tx 2; simp only [List.getElem?_toArray, List.getElem?_cons_zero, List.getElem?_cons_succ] at t2
     have t3 := blk_cell HX.out.tx 3; have u3 := blk_frozen HX.out.tx 3; simp only [List.getElem?_toArray, List.getElem?_cons_zero, List.getElem?_cons_succ] at t3
     have t4 := blk_cell HX.out.tx 4; have u4 := blk_frozen HX.out.tx 4; simp only [List.getElem?_toArray, List.getElem?_cons_zero, List.getElem?_cons_succ] at t4
     have t5 := blk_cell HX.out.tx 5; have u5 := blk_frozen HX.out.tx 5; simp only [List.getElem?_toArray, List.getElem?_cons_zero, List.getElem?_cons_succ] at t5
     have t6 := blk_cell HX.out.tx 6; have u6 := blk_frozen HX.out.tx 6; simp only [List.getElem?_toArray, List.getElem?_cons_zero, List.getElem?_cons_succ] at t6
     have t7 := blk_cell HX.out.tx 7; have u7 := blk_frozen HX.out.tx 7; simp only [List.getElem?_toArray, List.getElem?_cons_zero, List.getElem?_cons_succ] at t7
     have t8 := blk_cell HX.out.tx 8; have u8 := blk_frozen HX.out.tx 8; simp only [List.getElem?_toArray, List.getElem?_cons_zero, List.getElem?_cons_succ] at t8
     clear hr)
  | (go_at_call 53
     refine (text_ok' (w.heap.size + 1 + 1) s2 s3 t k3 _ Z2.out E3.out R3.out HX.out.rd).mono ?_
     rintro e w2 ⟨rfl, hr⟩
     have HX := Lib.hid (HX.out.read hr)
     have t0 := blk_cell HX.out.tx 0; have u0 := blk_frozen HX.out.tx 0; simp only [List.getElem?_toArray, List.getElem?_cons_zero, List.getElem?_cons_succ] at t0
     have t1 := blk_cell HX.out.tx 1; have u1 := blk_frozen HX.out.tx 1; simp only [List.getElem?_toArray, List.getElem?_cons_zero, List.getElem?_cons_succ] at t1
     have t2 := blk_cell HX.out.tx 2; have u2 := blk_frozen HX.out.tx 2; simp only [List.getElem?_toArray, List.getElem?_cons_zero, List.getElem?_cons_succ] at t2
     have t3 := blk_cell HX.out.tx 3; have u3 := blk_frozen HX.out.tx 3; simp only [List.getElem?_toArray, List.getElem?_cons_zero, List.getElem?_cons_succ] at t3
     have t4 := blk_cell HX.out.tx 4; have u4 := blk_frozen HX.out.tx 4; simp only [List.getElem?_toArray, List.getElem?_cons_zero, List.getElem?_cons_succ] at t4
     have t5 := blk_cell HX.out.tx 5; have u5 := blk_frozen HX.out.tx 5; simp only [List.getElem?_toArray, List.getElem?_cons_zero, List.getElem?_cons_succ] at t5
     have t6 := blk_cell HX.out.tx 6; have u6 := blk_frozen HX.out.tx 6; simp only [List.getElem?_toArray, List.getElem?_cons_zero, List.getElem?_cons_succ] at t6
     have t7 := blk_cell HX.out.tx 7; have u7 := blk_frozen HX.out.tx 7; simp only [List.getElem?_toArray, List.getElem?_cons_zero, List.getElem?_cons_succ] at t7
     have t8 := blk_cell HX.out.tx 8; have u8 := blk_frozen HX.out.tx 8; simp only [List.getElem?_toArray, List.getElem?_cons_zero, List.getElem?_cons_succ] at t8
     clear hr)
  | (go_at_call 52
     refine (int_no (w.heap.size + 1 + 1) s3 _ ((HX.out.set1 (.string f)).set2 (.string t)).rd HN.out).mono ?_
     rintro e w2 ⟨rfl, hB⟩
     have HX := Lib.hid (((HX.out.set1 (.string f)).set2 (.string t)).step hB)
     clear hB))
  refine leaves_cons (f := 51) (args := #[.pointer (some ⟨w.heap.size + 1, 0, none⟩)]) (by simp) (by simp [go_sem]) ?_
  refine (caught_panicking ⟨w.heap.size + 1, 0, none⟩ 0 (gi s3 9 0 0).2.2 [] _ (blk_cell HX.out.er 0) (blk_frozen HX.out.er 0)).mono ?_
  rintro e u' w'' ⟨rfl, rfl, rfl⟩
  refine leaves_cons (f := 50) (args := #[.pointer (some ⟨w.heap.size + 1, 0, none⟩), .pointer (some ⟨w.heap.size, 0, none⟩)]) (by simp [settle]) (by simp [go_sem]) ?_
  have hdied := HX.out.died (gi s3 9 0 0).2.2
  refine (undo_yes (w.heap.size + 1) w.heap.size (gi s3 9 0 0).2.2 HN.out _ _ _ _ _ _ _ _ _ _ hdied.1 hdied.2.1).mono ?_
  rintro e u' w'' ⟨rfl, rfl, rfl⟩
  have hz := zset_box _ w.heap.size _ _ _ _ _ _ _ _ _ hdied.2.1
  have hze := (zset_blk _ w.heap.size (w.heap.size + 1) (by omega)).trans hdied.1
  have hzb := zset_below hdied.2.2 (Nat.le_refl _)
  generalize zset _ w.heap.size = Z at hz hze hzb ⊢
  have d0 : Z.cell? ⟨w.heap.size, 0, none⟩ = some (.int .i64 0) := blk_cell hz 0
  have d1 : Z.cell? ⟨w.heap.size, 1, none⟩ = some (.string ⟨#[]⟩) := blk_cell hz 1
  have d2 : Z.cell? ⟨w.heap.size, 2, none⟩ = some (.string ⟨#[]⟩) := blk_cell hz 2
  have d3 : Z.cell? ⟨w.heap.size, 3, none⟩ = some (.int .u64 0) := blk_cell hz 3
  have d4 : Z.cell? ⟨w.heap.size, 4, none⟩ = some (.int .u64 0) := blk_cell hz 4
  have d5 : Z.cell? ⟨w.heap.size, 5, none⟩ = some (.string ⟨#[]⟩) := blk_cell hz 5
  have d6 : Z.cell? ⟨w.heap.size, 6, none⟩ = some (.string ⟨#[]⟩) := blk_cell hz 6
  have d7 : Z.cell? ⟨w.heap.size, 7, none⟩ = some (.slice none 0 0) := blk_cell hz 7
  have d8 : Z.cell? ⟨w.heap.size, 8, none⟩ = some (.slice none 0 0) := blk_cell hz 8
  have de : Z.cell? ⟨w.heap.size + 1, 0, none⟩ = some (.int .i64 ((gi s3 9 0 0).2.2)) := blk_cell hze 0
  clear hz hze hdied
  have HZ := Lib.hid hzb
  clear hzb
  simp [Leaves, settle, results, Tryd.results25, go_sem, d0, d1, d2, d3, d4, d5, d6, d7, d8, de]
  exact ⟨rfl, HZ.out⟩
set_option maxHeartbeats 8000000 in
set_option maxRecDepth 100000 in
theorem dec_no5 (s s1 s2 s3 s4 : ByteArray) (kd : Int) (k1 : Int) (f : ByteArray) (k2 : Int) (t : ByteArray) (k3 : Int) (am : Int) (k4 : Int) (w : World) (E1 : Hid (gi s 9 0 0 = (kd, k1, 0))) (R1 : Hid (rest s k1 = s1)) (Z1 : Hid (s1.size < 4611686018427387904)) (E2 : Hid (gt s1 = (f, k2, 0))) (R2 : Hid (rest s1 k2 = s2)) (Z2 : Hid (s2.size < 4611686018427387904)) (E3 : Hid (gt s2 = (t, k3, 0))) (R3 : Hid (rest s2 k3 = s3)) (Z3 : Hid (s3.size < 4611686018427387904)) (E4 : Hid (gi s3 9 0 0 = (am, k4, 0))) (R4 : Hid (rest s3 k4 = s4)) (Z4 : Hid (s4.size < 4611686018427387904)) (HN : Hid ((gi s4 9 0 0).2.2 ≠ 0)) :
    Calls Tryd.prog 25 #[.string s] w fun e w' => e = .returned (.tuple #[zagg, .int .i64 (gi s4 9 0 0).2.2]) ∧ Below w.heap.size w w' := by
  have hmf : ∀ (fn : Fn) (first cap : Array Value) (w : World), (Instr.makeFunc fn first cap).run Tryd.prog w = .ok (.func fn first cap) w := fun _ _ _ _ => rfl
  go_enter_defers Tryd.func25, Tryd.ntmps25
  have HX := Lib.hid (Dx.first w s)
  go_wp2_with (first
  | (go_at_call 52
     refine (int_ok' (w.heap.size + 1 + 1) s s1 kd k1 _ E1.out R1.out HX.out.rd).mono ?_
     rintro e w2 ⟨rfl, hr⟩
     have HX := Lib.hid (HX.out.read hr)
     have t0 := blk_cell HX.out.tx 0; have u0 := blk_frozen HX.out.tx 0; simp only [List.getElem?_toArray, List.getElem?_cons_zero, List.getElem?_cons_succ] at t0
     have t1 := blk_cell HX.out.tx 1; have u1 := blk_frozen HX.out.tx 1; simp only [List.getElem?_toArray, List.getElem?_cons_zero, List.getElem?_cons_succ] at t1
     have t2 := blk_cell HX.out.tx 2; have u2 := blk_frozen HX.out.tx 2; simp only [List.getElem?_toArray, List.getElem?_cons_zero, List.getElem?_cons_succ] at t2
     have t3 := blk_cell HX.out.tx 3; have u3 := blk_frozen HX.out.tx 3; simp only [List.getElem?_toArray, List.getElem?_cons_zero, List.getElem?_cons_succ] at t3
     have t4 := blk_cell HX.out.tx 4; have u4 := blk_frozen HX.out.tx 4; simp only [List.getElem?_toArray, List.getElem?_cons_zero, List.getElem?_cons_succ] at t4
     have t5 := blk_cell HX.out.tx 5; have u5 := blk_frozen HX.out.tx 5; simp only [List.getElem?_toArray, List.getElem?_cons_zero, List.getElem?_cons_succ] at t5
     have t6 := blk_cell HX.out.tx 6; have u6 := blk_frozen HX.out.tx 6; simp only [List.getElem?_toArray, List.getElem?_cons_zero, List.getElem?_cons_succ] at t6
     have t7 := blk_cell HX.out.tx 7; have u7 := blk_frozen HX.out.tx 7; simp only [List.getElem?_toArray, List.getElem?_cons_zero, List.getElem?_cons_succ] at t7
     have t8 := blk_cell HX.out.tx 8; have u8 := blk_frozen HX.out.tx 8; simp only [List.getElem?_toArray, List.getElem?_cons_zero, List.getElem?_cons_succ] at t8
     clear hr)
  | (go_at_call 53
     refine (text_ok' (w.heap.size + 1 + 1) s1 s2 f k2 _ Z1.out E2.out R2.out HX.out.rd).mono ?_
     rintro e w2 ⟨rfl, hr⟩
     have HX := Lib.hid (HX.out.read hr)
     have t0 := blk_cell HX.out.tx 0; have u0 := blk_frozen HX.out.tx 0; simp only [List.getElem?_toArray, List.getElem?_cons_zero, List.getElem?_cons_succ] at t0
     have t1 := blk_cell HX.out.tx 1; have u1 := blk_frozen HX.out.tx 1; simp only [List.getElem?_toArray, List.getElem?_cons_zero, List.getElem?_cons_succ] at t1
     have t2 := blk_cell HX.out.tx 2; have u2 := blk_frozen HX.out.tx 2; simp only [List.getElem?_toArray, List.getElem?_cons_zero, List.getElem?_cons_succ] at t2
     have t3 := blk_cell HX.out.tx 3; have u3 := blk_frozen HX.out.tx 3; simp only [List.getElem?_toArray, List.getElem?_cons_zero, List.getElem?_cons_succ] at t3
     have t4 := blk_cell HX.out.tx 4; have u4 := blk_frozen HX.out.tx 4; simp only [List.getElem?_toArray, List.getElem?_cons_zero, List.getElem?_cons_succ] at t4
     have t5 := blk_cell HX.out.tx 5; have u5 := blk_frozen HX.out.tx 5; simp only [List.getElem?_toArray, List.getElem?_cons_zero, List.getElem?_cons_succ] at t5
     have t6 := blk_cell HX.out.tx 6; have u6 := blk_frozen HX.out.tx 6; simp only [List.getElem?_toArray, List.getElem?_cons_zero, List.getElem?_cons_succ] at t6
     have t7 := blk_cell HX.out.tx 7; have u7 := blk_frozen HX.out.tx 7; simp only [List.getElem?_toArray, List.getElem?_cons_zero, List.getElem?_cons_succ] at t7
     have t8 := blk_cell HX.out.tx 8; have u8 := blk_frozen HX.out.tx 8; simp only [List.getElem?_toArray, List.getElem?_cons_zero, List.getElem?_cons_succ] at t8
     clear hr)
  | (go_at_call 53
     refine (text_ok' (w.heap.size + 1 + 1) s2 s3 t k3 _ Z2.out E3.out R3.out HX.out.rd).mono ?_
     rintro e w2 ⟨rfl, hr⟩
     have HX := Lib.hid (HX.out.read hr)
     have t0 := blk_cell HX.out.tx 0; have u0 := blk_frozen HX.out.tx 0; simp only [List.getElem?_toArray, List.getElem?_cons_zero, List.getElem?_cons_succ] at t0
     have t1 := blk_cell HX.out.tx 1; have u1 := blk_frozen HX.out.tx 1; simp only [List.getElem?_toArray, List.getElem?_cons_zero, List.getElem?_cons_succ] at t1
     have t2 := blk_cell HX.out.tx 2; have u2 := blk_frozen HX.out.tx 2; simp only [List.getElem?_toArray, List.getElem?_cons_zero, List.getElem?_cons_succ] at t2
     have t3 := blk_cell HX.out.tx 3; have u3 := blk_frozen HX.out.tx 3; simp only [List.getElem?_toArray, List.getElem?_cons_zero, List.getElem?_cons_succ] at t3
     have t4 := blk_cell HX.out.tx 4; have u4 := blk_frozen HX.out.tx 4; simp only [List.getElem?_toArray, List.getElem?_cons_zero, List.getElem?_cons_succ] at t4
     have t5 := blk_cell HX.out.tx 5; have u5 := blk_frozen HX.out.tx 5; simp only [List.getElem?_toArray, List.getElem?_cons_zero, List.getElem?_cons_succ] at t5
     have t6 := blk_cell HX.out.tx 6; have u6 := blk_frozen HX.out.tx 6; simp only [List.getElem?_toArray, List.getElem?_cons_zero, List.getElem?_cons_succ] at t6
     have t7 := blk_cell HX.out.tx 7; have u7 := blk_frozen HX.out.tx 7; simp only [List.getElem?_toArray, List.getElem?_cons_zero, List.getElem?_cons_succ] at t7
     have t8 := blk_cell HX.out.tx 8; have u8 := blk_frozen HX.out.tx 8; simp only [List.getElem?_toArray, List.getElem?_cons_zero, List.getElem?_cons_succ] at t8
     clear hr)
  | (go_at_call 52
     refine (int_ok' (w.heap.size + 1 + 1) s3 s4 am k4 _ E4.out R4.out ((HX.out.set1 (.string f)).set2 (.string t)).rd).mono ?_
     rintro e w2 ⟨rfl, hr⟩
     have HX := Lib.hid (((HX.out.set1 (.string f)).set2 (.string t)).read hr)
     have t0 := blk_cell HX.out.tx 0; have u0 := blk_frozen HX.out.tx 0; simp only [List.getElem?_toArray, List.getElem?_cons_zero, List.getElem?_cons_succ] at t0
     have t1 := blk_cell HX.out.tx 1; have u1 := blk_frozen HX.out.tx 1; simp only [List.getElem?_toArray, List.getElem?_cons_zero, List.getElem?_cons_succ] at t1
     have t2 := blk_cell HX.out.tx 2; have u2 := blk_frozen HX.out.tx 2; simp only [List.getElem?_toArray, List.getElem?_cons_zero, List.getElem?_cons_succ] at t2
     have t3 := blk_cell HX.out.tx 3; have u3 := blk_frozen HX.out.tx 3; simp only [List.getElem?_toArray, List.getElem?_cons_zero, List.getElem?_cons_succ] at t3
     have t4 := blk_cell HX.out.tx 4; have u4 := blk_frozen HX.out.tx 4; simp only [List.getElem?_toArray, List.getElem?_cons_zero, List.getElem?_cons_succ] at t4
     have t5 := blk_cell HX.out.tx 5; have u5 := blk_frozen HX.out.tx 5; simp only [List.getElem?_toArray, List.getElem?_cons_zero, List.getElem?_cons_succ] at t5
     have t6 := blk_cell HX.out.tx 6; have u6 := blk_frozen HX.out.tx 6; simp only [List.getElem?_toArray, List.getElem?_cons_zero, List.getElem?_cons_succ] at t6
     have t7 := blk_cell HX.out.tx 7; have u7 := blk_frozen HX.out.tx 7; simp only [List.getElem?_toArray, List.getElem?_cons_zero, List.getElem?_cons_succ] at t7
     have t8 := blk_cell HX.out.tx 8; have u8 := blk_frozen HX.out.tx 8; simp only [List.getElem?_toArray, List.getElem?_cons_zero, List.getElem?_cons_succ] at t8
     clear hr)
  | (go_at_call 52
     refine (int_no (w.heap.size + 1 + 1) s4 _ HX.out.rd HN.out).mono ?_
     rintro e w2 ⟨rfl, hB⟩
     have HX := Lib.hid (HX.out.step hB)
     clear hB))
  refine leaves_cons (f := 51) (args := #[.pointer (some ⟨w.heap.size + 1, 0, none⟩)]) (by simp) (by simp [go_sem]) ?_
  refine (caught_panicking ⟨w.heap.size + 1, 0, none⟩ 0 (gi s4 9 0 0).2.2 [] _ (blk_cell HX.out.er 0) (blk_frozen HX.out.er 0)).mono ?_
  rintro e u' w'' ⟨rfl, rfl, rfl⟩
  refine leaves_cons (f := 50) (args := #[.pointer (some ⟨w.heap.size + 1, 0, none⟩), .pointer (some ⟨w.heap.size, 0, none⟩)]) (by simp [settle]) (by simp [go_sem]) ?_
  have hdied := HX.out.died (gi s4 9 0 0).2.2
  refine (undo_yes (w.heap.size + 1) w.heap.size (gi s4 9 0 0).2.2 HN.out _ _ _ _ _ _ _ _ _ _ hdied.1 hdied.2.1).mono ?_
  rintro e u' w'' ⟨rfl, rfl, rfl⟩
  have hz := zset_box _ w.heap.size _ _ _ _ _ _ _ _ _ hdied.2.1
  have hze := (zset_blk _ w.heap.size (w.heap.size + 1) (by omega)).trans hdied.1
  have hzb := zset_below hdied.2.2 (Nat.le_refl _)
  generalize zset _ w.heap.size = Z at hz hze hzb ⊢
  have d0 : Z.cell? ⟨w.heap.size, 0, none⟩ = some (.int .i64 0) := blk_cell hz 0
  have d1 : Z.cell? ⟨w.heap.size, 1, none⟩ = some (.string ⟨#[]⟩) := blk_cell hz 1
  have d2 : Z.cell? ⟨w.heap.size, 2, none⟩ = some (.string ⟨#[]⟩) := blk_cell hz 2
  have d3 : Z.cell? ⟨w.heap.size, 3, none⟩ = some (.int .u64 0) := blk_cell hz 3
  have d4 : Z.cell? ⟨w.heap.size, 4, none⟩ = some (.int .u64 0) := blk_cell hz 4
  have d5 : Z.cell? ⟨w.heap.size, 5, none⟩ = some (.string ⟨#[]⟩) := blk_cell hz 5
  have d6 : Z.cell? ⟨w.heap.size, 6, none⟩ = some (.string ⟨#[]⟩) := blk_cell hz 6
  have d7 : Z.cell? ⟨w.heap.size, 7, none⟩ = some (.slice none 0 0) := blk_cell hz 7
  have d8 : Z.cell? ⟨w.heap.size, 8, none⟩ = some (.slice none 0 0) := blk_cell hz 8
  have de : Z.cell? ⟨w.heap.size + 1, 0, none⟩ = some (.int .i64 ((gi s4 9 0 0).2.2)) := blk_cell hze 0
  clear hz hze hdied
  have HZ := Lib.hid hzb
  clear hzb
  simp [Leaves, settle, results, Tryd.results25, go_sem, d0, d1, d2, d3, d4, d5, d6, d7, d8, de]
  exact ⟨rfl, HZ.out⟩
set_option maxHeartbeats 8000000 in
set_option maxRecDepth 100000 in
theorem dec_no6 (s s1 s2 s3 s4 s5 : ByteArray) (kd : Int) (k1 : Int) (f : ByteArray) (k2 : Int) (t : ByteArray) (k3 : Int) (am : Int) (k4 : Int) (nc : Int) (k5 : Int) (w : World) (E1 : Hid (gi s 9 0 0 = (kd, k1, 0))) (R1 : Hid (rest s k1 = s1)) (Z1 : Hid (s1.size < 4611686018427387904)) (E2 : Hid (gt s1 = (f, k2, 0))) (R2 : Hid (rest s1 k2 = s2)) (Z2 : Hid (s2.size < 4611686018427387904)) (E3 : Hid (gt s2 = (t, k3, 0))) (R3 : Hid (rest s2 k3 = s3)) (Z3 : Hid (s3.size < 4611686018427387904)) (E4 : Hid (gi s3 9 0 0 = (am, k4, 0))) (R4 : Hid (rest s3 k4 = s4)) (Z4 : Hid (s4.size < 4611686018427387904)) (E5 : Hid (gi s4 9 0 0 = (nc, k5, 0))) (R5 : Hid (rest s4 k5 = s5)) (Z5 : Hid (s5.size < 4611686018427387904)) (HN : Hid ((gt s5).2.2 ≠ 0)) :
    Calls Tryd.prog 25 #[.string s] w fun e w' => e = .returned (.tuple #[zagg, .int .i64 (gt s5).2.2]) ∧ Below w.heap.size w w' := by
  have hmf : ∀ (fn : Fn) (first cap : Array Value) (w : World), (Instr.makeFunc fn first cap).run Tryd.prog w = .ok (.func fn first cap) w := fun _ _ _ _ => rfl
  go_enter_defers Tryd.func25, Tryd.ntmps25
  have HX := Lib.hid (Dx.first w s)
  go_wp2_with (first
  | (go_at_call 52
     refine (int_ok' (w.heap.size + 1 + 1) s s1 kd k1 _ E1.out R1.out HX.out.rd).mono ?_
     rintro e w2 ⟨rfl, hr⟩
     have HX := Lib.hid (HX.out.read hr)
     have t0 := blk_cell HX.out.tx 0; have u0 := blk_frozen HX.out.tx 0; simp only [List.getElem?_toArray, List.getElem?_cons_zero, List.getElem?_cons_succ] at t0
     have t1 := blk_cell HX.out.tx 1; have u1 := blk_frozen HX.out.tx 1; simp only [List.getElem?_toArray, List.getElem?_cons_zero, List.getElem?_cons_succ] at t1
     have t2 := blk_cell HX.out.tx 2; have u2 := blk_frozen HX.out.tx 2; simp only [List.getElem?_toArray, List.getElem?_cons_zero, List.getElem?_cons_succ] at t2
     have t3 := blk_cell HX.out.tx 3; have u3 := blk_frozen HX.out.tx 3; simp only [List.getElem?_toArray, List.getElem?_cons_zero, List.getElem?_cons_succ] at t3
     have t4 := blk_cell HX.out.tx 4; have u4 := blk_frozen HX.out.tx 4; simp only [List.getElem?_toArray, List.getElem?_cons_zero, List.getElem?_cons_succ] at t4
     have t5 := blk_cell HX.out.tx 5; have u5 := blk_frozen HX.out.tx 5; simp only [List.getElem?_toArray, List.getElem?_cons_zero, List.getElem?_cons_succ] at t5
     have t6 := blk_cell HX.out.tx 6; have u6 := blk_frozen HX.out.tx 6; simp only [List.getElem?_toArray, List.getElem?_cons_zero, List.getElem?_cons_succ] at t6
     have t7 := blk_cell HX.out.tx 7; have u7 := blk_frozen HX.out.tx 7; simp only [List.getElem?_toArray, List.getElem?_cons_zero, List.getElem?_cons_succ] at t7
     have t8 := blk_cell HX.out.tx 8; have u8 := blk_frozen HX.out.tx 8; simp only [List.getElem?_toArray, List.getElem?_cons_zero, List.getElem?_cons_succ] at t8
     clear hr)
  | (go_at_call 53
     refine (text_ok' (w.heap.size + 1 + 1) s1 s2 f k2 _ Z1.out E2.out R2.out HX.out.rd).mono ?_
     rintro e w2 ⟨rfl, hr⟩
     have HX := Lib.hid (HX.out.read hr)
     have t0 := blk_cell HX.out.tx 0; have u0 := blk_frozen HX.out.tx 0; simp only [List.getElem?_toArray, List.getElem?_cons_zero, List.getElem?_cons_succ] at t0
     have t1 := blk_cell HX.out.tx 1; have u1 := blk_frozen HX.out.tx 1; simp only [List.getElem?_toArray, List.getElem?_cons_zero, List.getElem?_cons_succ] at t1
     have t2 := blk_cell HX.out.tx 2; have u2 := blk_frozen HX.out.tx 2; simp only [List.getElem?_toArray, List.getElem?_cons_zero, List.getElem?_cons_succ] at t2
     have t3 := blk_cell HX.out.tx 3; have u3 := blk_frozen HX.out.tx 3; simp only [List.getElem?_toArray, List.getElem?_cons_zero, List.getElem?_cons_succ] at t3
     have t4 := blk_cell HX.out.tx 4; have u4 := blk_frozen HX.out.tx 4; simp only [List.getElem?_toArray, List.getElem?_cons_zero, List.getElem?_cons_succ] at t4
     have t5 := blk_cell HX.out.tx 5; have u5 := blk_frozen HX.out.tx 5; simp only [List.getElem?_toArray, List.getElem?_cons_zero, List.getElem?_cons_succ] at t5
     have t6 := blk_cell HX.out.tx 6; have u6 := blk_frozen HX.out.tx 6; simp only [List.getElem?_toArray, List.getElem?_cons_zero, List.getElem?_cons_succ] at t6
     have t7 := blk_cell HX.out.tx 7; have u7 := blk_frozen HX.out.tx 7; simp only [List.getElem?_toArray, List.getElem?_cons_zero, List.getElem?_cons_succ] at t7
     have t8 := blk_cell HX.out.tx 8; have u8 := blk_frozen HX.out.tx 8; simp only [List.getElem?_toArray, List.getElem?_cons_zero, List.getElem?_cons_succ] at t8
     clear hr)
  | (go_at_call 53
     refine (text_ok' (w.heap.size + 1 + 1) s2 s3 t k3 _ Z2.out E3.out R3.out HX.out.rd).mono ?_
     rintro e w2 ⟨rfl, hr⟩
     have HX := Lib.hid (HX.out.read hr)
     have t0 := blk_cell HX.out.tx 0; have u0 := blk_frozen HX.out.tx 0; simp only [List.getElem?_toArray, List.getElem?_cons_zero, List.getElem?_cons_succ] at t0
     have t1 := blk_cell HX.out.tx 1; have u1 := blk_frozen HX.out.tx 1; simp only [List.getElem?_toArray, List.getElem?_cons_zero, List.getElem?_cons_succ] at t1
     have t2 := blk_cell HX.out.tx 2; have u2 := blk_frozen HX.out.tx 2; simp only [List.getElem?_toArray, List.getElem?_cons_zero, List.getElem?_cons_succ] at t2
     have t3 := blk_cell HX.out.tx 3; have u3 := blk_frozen HX.out.tx 3; simp only [List.getElem?_toArray, List.getElem?_cons_zero, List.getElem?_cons_succ] at t3
     have t4 := blk_cell HX.out.tx 4; have u4 := blk_frozen HX.out.tx 4; simp only [List.getElem?_toArray, List.getElem?_cons_zero, List.getElem?_cons_succ] at t4
     have t5 := blk_cell HX.out.tx 5; have u5 := blk_frozen HX.out.tx 5; simp only [List.getElem?_toArray, List.getElem?_cons_zero, List.getElem?_cons_succ] at t5
     have t6 := blk_cell HX.out.tx 6; have u6 := blk_frozen HX.out.tx 6; simp only [List.getElem?_toArray, List.getElem?_cons_zero, List.getElem?_cons_succ] at t6
     have t7 := blk_cell HX.out.tx 7; have u7 := blk_frozen HX.out.tx 7; simp only [List.getElem?_toArray, List.getElem?_cons_zero, List.getElem?_cons_succ] at t7
     have t8 := blk_cell HX.out.tx 8; have u8 := blk_frozen HX.out.tx 8; simp only [List.getElem?_toArray, List.getElem?_cons_zero, List.getElem?_cons_succ] at t8
     clear hr)
  | (go_at_call 52
     refine (int_ok' (w.heap.size + 1 + 1) s3 s4 am k4 _ E4.out R4.out ((HX.out.set1 (.string f)).set2 (.string t)).rd).mono ?_
     rintro e w2 ⟨rfl, hr⟩
     have HX := Lib.hid (((HX.out.set1 (.string f)).set2 (.string t)).read hr)
     have t0 := blk_cell HX.out.tx 0; have u0 := blk_frozen HX.out.tx 0; simp only [List.getElem?_toArray, List.getElem?_cons_zero, List.getElem?_cons_succ] at t0
     have t1 := blk_cell HX.out.tx 1; have u1 := blk_frozen HX.out.tx 1; simp only [List.getElem?_toArray, List.getElem?_cons_zero, List.getElem?_cons_succ] at t1
     have t2 := blk_cell HX.out.tx 2; have u2 := blk_frozen HX.out.tx 2; simp only [List.getElem?_toArray, List.getElem?_cons_zero, List.getElem?_cons_succ] at t2
     have t3 := blk_cell HX.out.tx 3; have u3 := blk_frozen HX.out.tx 3; simp only [List.getElem?_toArray, List.getElem?_cons_zero, List.getElem?_cons_succ] at t3
     have t4 := blk_cell HX.out.tx 4; have u4 := blk_frozen HX.out.tx 4; simp only [List.getElem?_toArray, List.getElem?_cons_zero, List.getElem?_cons_succ] at t4
     have t5 := blk_cell HX.out.tx 5; have u5 := blk_frozen HX.out.tx 5; simp only [List.getElem?_toArray, List.getElem?_cons_zero, List.getElem?_cons_succ] at t5
     have t6 := blk_cell HX.out.tx 6; have u6 := blk_frozen HX.out.tx 6; simp only [List.getElem?_toArray, List.getElem?_cons_zero, List.getElem?_cons_succ] at t6
     have t7 := blk_cell HX.out.tx 7; have u7 := blk_frozen HX.out.tx 7; simp only [List.getElem?_toArray, List.getElem?_cons_zero, List.getElem?_cons_succ] at t7
     have t8 := blk_cell HX.out.tx 8; have u8 := blk_frozen HX.out.tx 8; simp only [List.getElem?_toArray, List.getElem?_cons_zero, List.getElem?_cons_succ] at t8
     clear hr)
  | (go_at_call 52
     refine (int_ok' (w.heap.size + 1 + 1) s4 s5 nc k5 _ E5.out R5.out HX.out.rd).mono ?_
     rintro e w2 ⟨rfl, hr⟩
     have HX := Lib.hid (HX.out.read hr)
     have t0 := blk_cell HX.out.tx 0; have u0 := blk_frozen HX.out.tx 0; simp only [List.getElem?_toArray, List.getElem?_cons_zero, List.getElem?_cons_succ] at t0
     have t1 := blk_cell HX.out.tx 1; have u1 := blk_frozen HX.out.tx 1; simp only [List.getElem?_toArray, List.getElem?_cons_zero, List.getElem?_cons_succ] at t1
     have t2 := blk_cell HX.out.tx 2; have u2 := blk_frozen HX.out.tx 2; simp only [List.getElem?_toArray, List.getElem?_cons_zero, List.getElem?_cons_succ] at t2
     have t3 := blk_cell HX.out.tx 3; have u3 := blk_frozen HX.out.tx 3; simp only [List.getElem?_toArray, List.getElem?_cons_zero, List.getElem?_cons_succ] at t3
     have t4 := blk_cell HX.out.tx 4; have u4 := blk_frozen HX.out.tx 4; simp only [List.getElem?_toArray, List.getElem?_cons_zero, List.getElem?_cons_succ] at t4
     have t5 := blk_cell HX.out.tx 5; have u5 := blk_frozen HX.out.tx 5; simp only [List.getElem?_toArray, List.getElem?_cons_zero, List.getElem?_cons_succ] at t5
     have t6 := blk_cell HX.out.tx 6; have u6 := blk_frozen HX.out.tx 6; simp only [List.getElem?_toArray, List.getElem?_cons_zero, List.getElem?_cons_succ] at t6
     have t7 := blk_cell HX.out.tx 7; have u7 := blk_frozen HX.out.tx 7; simp only [List.getElem?_toArray, List.getElem?_cons_zero, List.getElem?_cons_succ] at t7
     have t8 := blk_cell HX.out.tx 8; have u8 := blk_frozen HX.out.tx 8; simp only [List.getElem?_toArray, List.getElem?_cons_zero, List.getElem?_cons_succ] at t8
     clear hr)
  | (go_at_call 53
     refine (text_no (w.heap.size + 1 + 1) s5 _ Z5.out ((HX.out.set3 (.int .u64 am)).set4 (.int .u64 nc)).rd HN.out).mono ?_
     rintro e w2 ⟨rfl, hB⟩
     have HX := Lib.hid (((HX.out.set3 (.int .u64 am)).set4 (.int .u64 nc)).step hB)
     clear hB))
  refine leaves_cons (f := 51) (args := #[.pointer (some ⟨w.heap.size + 1, 0, none⟩)]) (by simp) (by simp [go_sem]) ?_
  refine (caught_panicking ⟨w.heap.size + 1, 0, none⟩ 0 (gt s5).2.2 [] _ (blk_cell HX.out.er 0) (blk_frozen HX.out.er 0)).mono ?_
  rintro e u' w'' ⟨rfl, rfl, rfl⟩
  refine leaves_cons (f := 50) (args := #[.pointer (some ⟨w.heap.size + 1, 0, none⟩), .pointer (some ⟨w.heap.size, 0, none⟩)]) (by simp [settle]) (by simp [go_sem]) ?_
  have hdied := HX.out.died (gt s5).2.2
  refine (undo_yes (w.heap.size + 1) w.heap.size (gt s5).2.2 HN.out _ _ _ _ _ _ _ _ _ _ hdied.1 hdied.2.1).mono ?_
  rintro e u' w'' ⟨rfl, rfl, rfl⟩
  have hz := zset_box _ w.heap.size _ _ _ _ _ _ _ _ _ hdied.2.1
  have hze := (zset_blk _ w.heap.size (w.heap.size + 1) (by omega)).trans hdied.1
  have hzb := zset_below hdied.2.2 (Nat.le_refl _)
  generalize zset _ w.heap.size = Z at hz hze hzb ⊢
  have d0 : Z.cell? ⟨w.heap.size, 0, none⟩ = some (.int .i64 0) := blk_cell hz 0
  have d1 : Z.cell? ⟨w.heap.size, 1, none⟩ = some (.string ⟨#[]⟩) := blk_cell hz 1
  have d2 : Z.cell? ⟨w.heap.size, 2, none⟩ = some (.string ⟨#[]⟩) := blk_cell hz 2
  have d3 : Z.cell? ⟨w.heap.size, 3, none⟩ = some (.int .u64 0) := blk_cell hz 3
  have d4 : Z.cell? ⟨w.heap.size, 4, none⟩ = some (.int .u64 0) := blk_cell hz 4
  have d5 : Z.cell? ⟨w.heap.size, 5, none⟩ = some (.string ⟨#[]⟩) := blk_cell hz 5
  have d6 : Z.cell? ⟨w.heap.size, 6, none⟩ = some (.string ⟨#[]⟩) := blk_cell hz 6
  have d7 : Z.cell? ⟨w.heap.size, 7, none⟩ = some (.slice none 0 0) := blk_cell hz 7
  have d8 : Z.cell? ⟨w.heap.size, 8, none⟩ = some (.slice none 0 0) := blk_cell hz 8
  have de : Z.cell? ⟨w.heap.size + 1, 0, none⟩ = some (.int .i64 ((gt s5).2.2)) := blk_cell hze 0
  clear hz hze hdied
  have HZ := Lib.hid hzb
  clear hzb
  simp [Leaves, settle, results, Tryd.results25, go_sem, d0, d1, d2, d3, d4, d5, d6, d7, d8, de]
  exact ⟨rfl, HZ.out⟩
set_option maxHeartbeats 8000000 in
set_option maxRecDepth 100000 in
theorem dec_no7 (s s1 s2 s3 s4 s5 s6 : ByteArray) (kd : Int) (k1 : Int) (f : ByteArray) (k2 : Int) (t : ByteArray) (k3 : Int) (am : Int) (k4 : Int) (nc : Int) (k5 : Int) (ky' : ByteArray) (k6 : Int) (w : World) (E1 : Hid (gi s 9 0 0 = (kd, k1, 0))) (R1 : Hid (rest s k1 = s1)) (Z1 : Hid (s1.size < 4611686018427387904)) (E2 : Hid (gt s1 = (f, k2, 0))) (R2 : Hid (rest s1 k2 = s2)) (Z2 : Hid (s2.size < 4611686018427387904)) (E3 : Hid (gt s2 = (t, k3, 0))) (R3 : Hid (rest s2 k3 = s3)) (Z3 : Hid (s3.size < 4611686018427387904)) (E4 : Hid (gi s3 9 0 0 = (am, k4, 0))) (R4 : Hid (rest s3 k4 = s4)) (Z4 : Hid (s4.size < 4611686018427387904)) (E5 : Hid (gi s4 9 0 0 = (nc, k5, 0))) (R5 : Hid (rest s4 k5 = s5)) (Z5 : Hid (s5.size < 4611686018427387904)) (E6 : Hid (gt s5 = (ky', k6, 0))) (R6 : Hid (rest s5 k6 = s6)) (Z6 : Hid (s6.size < 4611686018427387904)) (HN : Hid ((gt s6).2.2 ≠ 0)) :
    Calls Tryd.prog 25 #[.string s] w fun e w' => e = .returned (.tuple #[zagg, .int .i64 (gt s6).2.2]) ∧ Below w.heap.size w w' := by
  have hmf : ∀ (fn : Fn) (first cap : Array Value) (w : World), (Instr.makeFunc fn first cap).run Tryd.prog w = .ok (.func fn first cap) w := fun _ _ _ _ => rfl
  go_enter_defers Tryd.func25, Tryd.ntmps25
  have HX := Lib.hid (Dx.first w s)
  go_wp2_with (first
  | (go_at_call 52
     refine (int_ok' (w.heap.size + 1 + 1) s s1 kd k1 _ E1.out R1.out HX.out.rd).mono ?_
     rintro e w2 ⟨rfl, hr⟩
     have HX := Lib.hid (HX.out.read hr)
     have t0 := blk_cell HX.out.tx 0; have u0 := blk_frozen HX.out.tx 0; simp only [List.getElem?_toArray, List.getElem?_cons_zero, List.getElem?_cons_succ] at t0
     have t1 := blk_cell HX.out.tx 1; have u1 := blk_frozen HX.out.tx 1; simp only [List.getElem?_toArray, List.getElem?_cons_zero, List.getElem?_cons_succ] at t1
     have t2 := blk_cell HX.out.tx 2; have u2 := blk_frozen HX.out.tx 2; simp only [List.getElem?_toArray, List.getElem?_cons_zero, List.getElem?_cons_succ] at t2
     have t3 := blk_cell HX.out.tx 3; have u3 := blk_frozen HX.out.tx 3; simp only [List.getElem?_toArray, List.getElem?_cons_zero, List.getElem?_cons_succ] at t3
     have t4 := blk_cell HX.out.tx 4; have u4 := blk_frozen HX.out.tx 4; simp only [List.getElem?_toArray, List.getElem?_cons_zero, List.getElem?_cons_succ] at t4
     have t5 := blk_cell HX.out.tx 5; have u5 := blk_frozen HX.out.tx 5; simp only [List.getElem?_toArray, List.getElem?_cons_zero, List.getElem?_cons_succ] at t5
     have t6 := blk_cell HX.out.tx 6; have u6 := blk_frozen HX.out.tx 6; simp only [List.getElem?_toArray, List.getElem?_cons_zero, List.getElem?_cons_succ] at t6
     have t7 := blk_cell HX.out.tx 7; have u7 := blk_frozen HX.out.tx 7; simp only [List.getElem?_toArray, List.getElem?_cons_zero, List.getElem?_cons_succ] at t7
     have t8 := blk_cell HX.out.tx 8; have u8 := blk_frozen HX.out.tx 8; simp only [List.getElem?_toArray, List.getElem?_cons_zero, List.getElem?_cons_succ] at t8
     clear hr)
  | (go_at_call 53
     refine (text_ok' (w.heap.size + 1 + 1) s1 s2 f k2 _ Z1.out E2.out R2.out HX.out.rd).mono ?_
     rintro e w2 ⟨rfl, hr⟩
     have HX := Lib.hid (HX.out.read hr)
     have t0 := blk_cell HX.out.tx 0; have u0 := blk_frozen HX.out.tx 0; simp only [List.getElem?_toArray, List.getElem?_cons_zero, List.getElem?_cons_succ] at t0
     have t1 := blk_cell HX.out.tx 1; have u1 := blk_frozen HX.out.tx 1; simp only [List.getElem?_toArray, List.getElem?_cons_zero, List.getElem?_cons_succ] at t1
     have t2 := blk_cell HX.out.tx 2; have u2 := blk_frozen HX.out.tx 2; simp only [List.getElem?_toArray, List.getElem?_cons_zero, List.getElem?_cons_succ] at t2
     have t3 := blk_cell HX.out.tx 3; have u3 := blk_frozen HX.out.tx 3; simp only [List.getElem?_toArray, List.getElem?_cons_zero, List.getElem?_cons_succ] at t3
     have t4 := blk_cell HX.out.tx 4; have u4 := blk_frozen HX.out.tx 4; simp only [List.getElem?_toArray, List.getElem?_cons_zero, List.getElem?_cons_succ] at t4
     have t5 := blk_cell HX.out.tx 5; have u5 := blk_frozen HX.out.tx 5; simp only [List.getElem?_toArray, List.getElem?_cons_zero, List.getElem?_cons_succ] at t5
     have t6 := blk_cell HX.out.tx 6; have u6 := blk_frozen HX.out.tx 6; simp only [List.getElem?_toArray, List.getElem?_cons_zero, List.getElem?_cons_succ] at t6
     have t7 := blk_cell HX.out.tx 7; have u7 := blk_frozen HX.out.tx 7; simp only [List.getElem?_toArray, List.getElem?_cons_zero, List.getElem?_cons_succ] at t7
     have t8 := blk_cell HX.out.tx 8; have u8 := blk_frozen HX.out.tx 8; simp only [List.getElem?_toArray, List.getElem?_cons_zero, List.getElem?_cons_succ] at t8
     clear hr)
  | (go_at_call 53
     refine (text_ok' (w.heap.size + 1 + 1) s2 s3 t k3 _ Z2.out E3.out R3.out HX.out.rd).mono ?_
     rintro e w2 ⟨rfl, hr⟩
     have HX := Lib.hid (HX.out.read hr)
     have t0 := blk_cell HX.out.tx 0; have u0 := blk_frozen HX.out.tx 0; simp only [List.getElem?_toArray, List.getElem?_cons_zero, List.getElem?_cons_succ] at t0
     have t1 := blk_cell HX.out.tx 1; have u1 := blk_frozen HX.out.tx 1; simp only [List.getElem?_toArray, List.getElem?_cons_zero, List.getElem?_cons_succ] at t1
     have t2 := blk_cell HX.out.tx 2; have u2 := blk_frozen HX.out.tx 2; simp only [List.getElem?_toArray, List.getElem?_cons_zero, List.getElem?_cons_succ] at t2
     have t3 := blk_cell HX.out.tx 3; have u3 := blk_frozen HX.out.tx 3; simp only [List.getElem?_toArray, List.getElem?_cons_zero, List.getElem?_cons_succ] at t3
     have t4 := blk_cell HX.out.tx 4; have u4 := blk_frozen HX.out.tx 4; simp only [List.getElem?_toArray, List.getElem?_cons_zero, List.getElem?_cons_succ] at t4
     have t5 := blk_cell HX.out.tx 5; have u5 := blk_frozen HX.out.tx 5; simp only [List.getElem?_toArray, List.getElem?_cons_zero, List.getElem?_cons_succ] at t5
     have t6 := blk_cell HX.out.tx 6; have u6 := blk_frozen HX.out.tx 6; simp only [List.getElem?_toArray, List.getElem?_cons_zero, List.getElem?_cons_succ] at t6
     have t7 := blk_cell HX.out.tx 7; have u7 := blk_frozen HX.out.tx 7; simp only [List.getElem?_toArray, List.getElem?_cons_zero, List.getElem?_cons_succ] at t7
     have t8 := blk_cell HX.out.tx 8; have u8 := blk_frozen HX.out.tx 8; simp only [List.getElem?_toArray, List.getElem?_cons_zero, List.getElem?_cons_succ] at t8
     clear hr)
  | (go_at_call 52
     refine (int_ok' (w.heap.size + 1 + 1) s3 s4 am k4 _ E4.out R4.out ((HX.out.set1 (.string f)).set2 (.string t)).rd).mono ?_
     rintro e w2 ⟨rfl, hr⟩
     have HX := Lib.hid (((HX.out.set1 (.string f)).set2 (.string t)).read hr)
     have t0 := blk_cell HX.out.tx 0; have u0 := blk_frozen HX.out.tx 0; simp only [List.getElem?_toArray, List.getElem?_cons_zero, List.getElem?_cons_succ] at t0
     have t1 := blk_cell HX.out.tx 1; have u1 := blk_frozen HX.out.tx 1; simp only [List.getElem?_toArray, List.getElem?_cons_zero, List.getElem?_cons_succ] at t1
     have t2 := blk_cell HX.out.tx 2; have u2 := blk_frozen HX.out.tx 2; simp only [List.getElem?_toArray, List.getElem?_cons_zero, List.getElem?_cons_succ] at t2
     have t3 := blk_cell HX.out.tx 3; have u3 := blk_frozen HX.out.tx 3; simp only [List.getElem?_toArray, List.getElem?_cons_zero, List.getElem?_cons_succ] at t3
     have t4 := blk_cell HX.out.tx 4; have u4 := blk_frozen HX.out.tx 4; simp only [List.getElem?_toArray, List.getElem?_cons_zero, List.getElem?_cons_succ] at t4
     have t5 := blk_cell HX.out.tx 5; have u5 := blk_frozen HX.out.tx 5; simp only [List.getElem?_toArray, List.getElem?_cons_zero, List.getElem?_cons_succ] at t5
     have t6 := blk_cell HX.out.tx 6; have u6 := blk_frozen HX.out.tx 6; simp only [List.getElem?_toArray, List.getElem?_cons_zero, List.getElem?_cons_succ] at t6
     have t7 := blk_cell HX.out.tx 7; have u7 := blk_frozen HX.out.tx 7; simp only [List.getElem?_toArray, List.getElem?_cons_zero, List.getElem?_cons_succ] at t7
     have t8 := blk_cell HX.out.tx 8; have u8 := blk_frozen HX.out.tx 8; simp only [List.getElem?_toArray, List.getElem?_cons_zero, List.getElem?_cons_succ] at t8
     clear hr)
  | (go_at_call 52
     refine (int_ok' (w.heap.size + 1 + 1) s4 s5 nc k5 _ E5.out R5.out HX.out.rd).mono ?_
     rintro e w2 ⟨rfl, hr⟩
     have HX := Lib.hid (HX.out.read hr)
     have t0 := blk_cell HX.out.tx 0; have u0 := blk_frozen HX.out.tx 0; simp only [List.getElem?_toArray, List.getElem?_cons_zero, List.getElem?_cons_succ] at t0
     have t1 := blk_cell HX.out.tx 1; have u1 := blk_frozen HX.out.tx 1; simp only [List.getElem?_toArray, List.getElem?_cons_zero, List.getElem?_cons_succ] at t1
     have t2 := blk_cell HX.out.tx 2; have u2 := blk_frozen HX.out.tx 2; simp only [List.getElem?_toArray, List.getElem?_cons_zero, List.getElem?_cons_succ] at t2
     have t3 := blk_cell HX.out.tx 3; have u3 := blk_frozen HX.out.tx 3; simp only [List.getElem?_toArray, List.getElem?_cons_zero, List.getElem?_cons_succ] at t3
     have t4 := blk_cell HX.out.tx 4; have u4 := blk_frozen HX.out.tx 4; simp only [List.getElem?_toArray, List.getElem?_cons_zero, List.getElem?_cons_succ] at t4
     have t5 := blk_cell HX.out.tx 5; have u5 := blk_frozen HX.out.tx 5; simp only [List.getElem?_toArray, List.getElem?_cons_zero, List.getElem?_cons_succ] at t5
     have t6 := blk_cell HX.out.tx 6; have u6 := blk_frozen HX.out.tx 6; simp only [List.getElem?_toArray, List.getElem?_cons_zero, List.getElem?_cons_succ] at t6
     have t7 := blk_cell HX.out.tx 7; have u7 := blk_frozen HX.out.tx 7; simp only [List.getElem?_toArray, List.getElem?_cons_zero, List.getElem?_cons_succ] at t7
     have t8 := blk_cell HX.out.tx 8; have u8 := blk_frozen HX.out.tx 8; simp only [List.getElem?_toArray, List.getElem?_cons_zero, List.getElem?_cons_succ] at t8
     clear hr)
  | (go_at_call 53
     refine (text_ok' (w.heap.size + 1 + 1) s5 s6 ky' k6 _ Z5.out E6.out R6.out ((HX.out.set3 (.int .u64 am)).set4 (.int .u64 nc)).rd).mono ?_
     rintro e w2 ⟨rfl, hr⟩
     have HX := Lib.hid (((HX.out.set3 (.int .u64 am)).set4 (.int .u64 nc)).read hr)
     have t0 := blk_cell HX.out.tx 0; have u0 := blk_frozen HX.out.tx 0; simp only [List.getElem?_toArray, List.getElem?_cons_zero, List.getElem?_cons_succ] at t0
     have t1 := blk_cell HX.out.tx 1; have u1 := blk_frozen HX.out.tx 1; simp only [List.getElem?_toArray, List.getElem?_cons_zero, List.getElem?_cons_succ] at t1
     have t2 := blk_cell HX.out.tx 2; have u2 := blk_frozen HX.out.tx 2; simp only [List.getElem?_toArray, List.getElem?_cons_zero, List.getElem?_cons_succ] at t2
     have t3 := blk_cell HX.out.tx 3; have u3 := blk_frozen HX.out.tx 3; simp only [List.getElem?_toArray, List.getElem?_cons_zero, List.getElem?_cons_succ] at t3
     have t4 := blk_cell HX.out.tx 4; have u4 := blk_frozen HX.out.tx 4; simp only [List.getElem?_toArray, List.getElem?_cons_zero, List.getElem?_cons_succ] at t4
     have t5 := blk_cell HX.out.tx 5; have u5 := blk_frozen HX.out.tx 5; simp only [List.getElem?_toArray, List.getElem?_cons_zero, List.getElem?_cons_succ] at t5
     have t6 := blk_cell HX.out.tx 6; have u6 := blk_frozen HX.out.tx 6; simp only [List.getElem?_toArray, List.getElem?_cons_zero, List.getElem?_cons_succ] at t6
     have t7 := blk_cell HX.out.tx 7; have u7 := blk_frozen HX.out.tx 7; simp only [List.getElem?_toArray, List.getElem?_cons_zero, List.getElem?_cons_succ] at t7
     have t8 := blk_cell HX.out.tx 8; have u8 := blk_frozen HX.out.tx 8; simp only [List.getElem?_toArray, List.getElem?_cons_zero, List.getElem?_cons_succ] at t8
     clear hr)
  | (go_at_call 53
     refine (text_no (w.heap.size + 1 + 1) s6 _ Z6.out HX.out.rd HN.out).mono ?_
     rintro e w2 ⟨rfl, hB⟩
     have HX := Lib.hid (HX.out.step hB)
     clear hB))
  refine leaves_cons (f := 51) (args := #[.pointer (some ⟨w.heap.size + 1, 0, none⟩)]) (by simp) (by simp [go_sem]) ?_
  refine (caught_panicking ⟨w.heap.size + 1, 0, none⟩ 0 (gt s6).2.2 [] _ (blk_cell HX.out.er 0) (blk_frozen HX.out.er 0)).mono ?_
  rintro e u' w'' ⟨rfl, rfl, rfl⟩
  refine leaves_cons (f := 50) (args := #[.pointer (some ⟨w.heap.size + 1, 0, none⟩), .pointer (some ⟨w.heap.size, 0, none⟩)]) (by simp [settle]) (by simp [go_sem]) ?_
  have hdied := HX.out.died (gt s6).2.2
  refine (undo_yes (w.heap.size + 1) w.heap.size (gt s6).2.2 HN.out _ _ _ _ _ _ _ _ _ _ hdied.1 hdied.2.1).mono ?_
  rintro e u' w'' ⟨rfl, rfl, rfl⟩
  have hz := zset_box _ w.heap.size _ _ _ _ _ _ _ _ _ hdied.2.1
  have hze := (zset_blk _ w.heap.size (w.heap.size + 1) (by omega)).trans hdied.1
  have hzb := zset_below hdied.2.2 (Nat.le_refl _)
  generalize zset _ w.heap.size = Z at hz hze hzb ⊢
  have d0 : Z.cell? ⟨w.heap.size, 0, none⟩ = some (.int .i64 0) := blk_cell hz 0
  have d1 : Z.cell? ⟨w.heap.size, 1, none⟩ = some (.string ⟨#[]⟩) := blk_cell hz 1
  have d2 : Z.cell? ⟨w.heap.size, 2, none⟩ = some (.string ⟨#[]⟩) := blk_cell hz 2
  have d3 : Z.cell? ⟨w.heap.size, 3, none⟩ = some (.int .u64 0) := blk_cell hz 3
  have d4 : Z.cell? ⟨w.heap.size, 4, none⟩ = some (.int .u64 0) := blk_cell hz 4
  have d5 : Z.cell? ⟨w.heap.size, 5, none⟩ = some (.string ⟨#[]⟩) := blk_cell hz 5
  have d6 : Z.cell? ⟨w.heap.size, 6, none⟩ = some (.string ⟨#[]⟩) := blk_cell hz 6
  have d7 : Z.cell? ⟨w.heap.size, 7, none⟩ = some (.slice none 0 0) := blk_cell hz 7
  have d8 : Z.cell? ⟨w.heap.size, 8, none⟩ = some (.slice none 0 0) := blk_cell hz 8
  have de : Z.cell? ⟨w.heap.size + 1, 0, none⟩ = some (.int .i64 ((gt s6).2.2)) := blk_cell hze 0
  clear hz hze hdied
  have HZ := Lib.hid hzb
  clear hzb
  simp [Leaves, settle, results, Tryd.results25, go_sem, d0, d1, d2, d3, d4, d5, d6, d7, d8, de]
  exact ⟨rfl, HZ.out⟩
set_option maxHeartbeats 8000000 in
set_option maxRecDepth 100000 in
theorem dec_no8 (s s1 s2 s3 s4 s5 s6 s7 : ByteArray) (kd : Int) (k1 : Int) (f : ByteArray) (k2 : Int) (t : ByteArray) (k3 : Int) (am : Int) (k4 : Int) (nc : Int) (k5 : Int) (ky' : ByteArray) (k6 : Int) (vl : ByteArray) (k7 : Int) (w : World) (E1 : Hid (gi s 9 0 0 = (kd, k1, 0))) (R1 : Hid (rest s k1 = s1)) (Z1 : Hid (s1.size < 4611686018427387904)) (E2 : Hid (gt s1 = (f, k2, 0))) (R2 : Hid (rest s1 k2 = s2)) (Z2 : Hid (s2.size < 4611686018427387904)) (E3 : Hid (gt s2 = (t, k3, 0))) (R3 : Hid (rest s2 k3 = s3)) (Z3 : Hid (s3.size < 4611686018427387904)) (E4 : Hid (gi s3 9 0 0 = (am, k4, 0))) (R4 : Hid (rest s3 k4 = s4)) (Z4 : Hid (s4.size < 4611686018427387904)) (E5 : Hid (gi s4 9 0 0 = (nc, k5, 0))) (R5 : Hid (rest s4 k5 = s5)) (Z5 : Hid (s5.size < 4611686018427387904)) (E6 : Hid (gt s5 = (ky', k6, 0))) (R6 : Hid (rest s5 k6 = s6)) (Z6 : Hid (s6.size < 4611686018427387904)) (E7 : Hid (gt s6 = (vl, k7, 0))) (R7 : Hid (rest s6 k7 = s7)) (Z7 : Hid (s7.size < 4611686018427387904)) (HN : Hid ((gl s7 8).2.2 ≠ 0)) :
    Calls Tryd.prog 25 #[.string s] w fun e w' => e = .returned (.tuple #[zagg, .int .i64 (gl s7 8).2.2]) ∧ Below w.heap.size w w' := by
  have hmf : ∀ (fn : Fn) (first cap : Array Value) (w : World), (Instr.makeFunc fn first cap).run Tryd.prog w = .ok (.func fn first cap) w := fun _ _ _ _ => rfl
  go_enter_defers Tryd.func25, Tryd.ntmps25
  have HX := Lib.hid (Dx.first w s)
  go_wp2_with (first
  | (go_at_call 52
     refine (int_ok' (w.heap.size + 1 + 1) s s1 kd k1 _ E1.out R1.out HX.out.rd).mono ?_
     rintro e w2 ⟨rfl, hr⟩
     have HX := Lib.hid (HX.out.read hr)
     have t0 := blk_cell HX.out.tx 0; have u0 := blk_frozen HX.out.tx 0; simp only [List.getElem?_toArray, List.getElem?_cons_zero, List.getElem?_cons_succ] at t0
     have t1 := blk_cell HX.out.tx 1; have u1 := blk_frozen HX.out.tx 1; simp only [List.getElem?_toArray, List.getElem?_cons_zero, List.getElem?_cons_succ] at t1
     have t2 := blk_cell HX.out.tx 2; have u2 := blk_frozen HX.out.tx 2; simp only [List.getElem?_toArray, List.getElem?_cons_zero, List.getElem?_cons_succ] at t2
     have t3 := blk_cell HX.out.tx 3; have u3 := blk_frozen HX.out.tx 3; simp only [List.getElem?_toArray, List.getElem?_cons_zero, List.getElem?_cons_succ] at t3
     have t4 := blk_cell HX.out.tx 4; have u4 := blk_frozen HX.out.tx 4; simp only [List.getElem?_toArray, List.getElem?_cons_zero, List.getElem?_cons_succ] at t4
     have t5 := blk_cell HX.out.tx 5; have u5 := blk_frozen HX.out.tx 5; simp only [List.getElem?_toArray, List.getElem?_cons_zero, List.getElem?_cons_succ] at t5
     have t6 := blk_cell HX.out.tx 6; have u6 := blk_frozen HX.out.tx 6; simp only [List.getElem?_toArray, List.getElem?_cons_zero, List.getElem?_cons_succ] at t6
     have t7 := blk_cell HX.out.tx 7; have u7 := blk_frozen HX.out.tx 7; simp only [List.getElem?_toArray, List.getElem?_cons_zero, List.getElem?_cons_succ] at t7
     have t8 := blk_cell HX.out.tx 8; have u8 := blk_frozen HX.out.tx 8; simp only [List.getElem?_toArray, List.getElem?_cons_zero, List.getElem?_cons_succ] at t8
     clear hr)
  | (go_at_call 53
     refine (text_ok' (w.heap.size + 1 + 1) s1 s2 f k2 _ Z1.out E2.out R2.out HX.out.rd).mono ?_
     rintro e w2 ⟨rfl, hr⟩
     have HX := Lib.hid (HX.out.read hr)
     have t0 := blk_cell HX.out.tx 0; have u0 := blk_frozen HX.out.tx 0; simp only [List.getElem?_toArray, List.getElem?_cons_zero, List.getElem?_cons_succ] at t0
     have t1 := blk_cell HX.out.tx 1; have u1 := blk_frozen HX.out.tx 1; simp only [List.getElem?_toArray, List.getElem?_cons_zero, List.getElem?_cons_succ] at t1
     have t2 := blk_cell HX.out.tx 2; have u2 := blk_frozen HX.out.tx 2; simp only [List.getElem?_toArray, List.getElem?_cons_zero, List.getElem?_cons_succ] at t2
     have t3 := blk_cell HX.out.tx 3; have u3 := blk_frozen HX.out.tx 3; simp only [List.getElem?_toArray, List.getElem?_cons_zero, List.getElem?_cons_succ] at t3
     have t4 := blk_cell HX.out.tx 4; have u4 := blk_frozen HX.out.tx 4; simp only [List.getElem?_toArray, List.getElem?_cons_zero, List.getElem?_cons_succ] at t4
     have t5 := blk_cell HX.out.tx 5; have u5 := blk_frozen HX.out.tx 5; simp only [List.getElem?_toArray, List.getElem?_cons_zero, List.getElem?_cons_succ] at t5
     have t6 := blk_cell HX.out.tx 6; have u6 := blk_frozen HX.out.tx 6; simp only [List.getElem?_toArray, List.getElem?_cons_zero, List.getElem?_cons_succ] at t6
     have t7 := blk_cell HX.out.tx 7; have u7 := blk_frozen HX.out.tx 7; simp only [List.getElem?_toArray, List.getElem?_cons_zero, List.getElem?_cons_succ] at t7
     have t8 := blk_cell HX.out.tx 8; have u8 := blk_frozen HX.out.tx 8; simp only [List.getElem?_toArray, List.getElem?_cons_zero, List.getElem?_cons_succ] at t8
     clear hr)
  | (go_at_call 53
     refine (text_ok' (w.heap.size + 1 + 1) s2 s3 t k3 _ Z2.out E3.out R3.out HX.out.rd).mono ?_
     rintro e w2 ⟨rfl, hr⟩
     have HX := Lib.hid (HX.out.read hr)
     have t0 := blk_cell HX.out.tx 0; have u0 := blk_frozen HX.out.tx 0; simp only [List.getElem?_toArray, List.getElem?_cons_zero, List.getElem?_cons_succ] at t0
     have t1 := blk_cell HX.out.tx 1; have u1 := blk_frozen HX.out.tx 1; simp only [List.getElem?_toArray, List.getElem?_cons_zero, List.getElem?_cons_succ] at t1
     have t2 := blk_cell HX.out.tx 2; have u2 := blk_frozen HX.out.tx 2; simp only [List.getElem?_toArray, List.getElem?_cons_zero, List.getElem?_cons_succ] at t2
     have t3 := blk_cell HX.out.tx 3; have u3 := blk_frozen HX.out.tx 3; simp only [List.getElem?_toArray, List.getElem?_cons_zero, List.getElem?_cons_succ] at t3
     have t4 := blk_cell HX.out.tx 4; have u4 := blk_frozen HX.out.tx 4; simp only [List.getElem?_toArray, List.getElem?_cons_zero, List.getElem?_cons_succ] at t4
     have t5 := blk_cell HX.out.tx 5; have u5 := blk_frozen HX.out.tx 5; simp only [List.getElem?_toArray, List.getElem?_cons_zero, List.getElem?_cons_succ] at t5
     have t6 := blk_cell HX.out.tx 6; have u6 := blk_frozen HX.out.tx 6; simp only [List.getElem?_toArray, List.getElem?_cons_zero, List.getElem?_cons_succ] at t6
     have t7 := blk_cell HX.out.tx 7; have u7 := blk_frozen HX.out.tx 7; simp only [List.getElem?_toArray, List.getElem?_cons_zero, List.getElem?_cons_succ] at t7
     have t8 := blk_cell HX.out.tx 8; have u8 := blk_frozen HX.out.tx 8; simp only [List.getElem?_toArray, List.getElem?_cons_zero, List.getElem?_cons_succ] at t8
     clear hr)
  | (go_at_call 52
     refine (int_ok' (w.heap.size + 1 + 1) s3 s4 am k4 _ E4.out R4.out ((HX.out.set1 (.string f)).set2 (.string t)).rd).mono ?_
     rintro e w2 ⟨rfl, hr⟩
     have HX := Lib.hid (((HX.out.set1 (.string f)).set2 (.string t)).read hr)
     have t0 := blk_cell HX.out.tx 0; have u0 := blk_frozen HX.out.tx 0; simp only [List.getElem?_toArray, List.getElem?_cons_zero, List.getElem?_cons_succ] at t0
     have t1 := blk_cell HX.out.tx 1; have u1 := blk_frozen HX.out.tx 1; simp only [List.getElem?_toArray, List.getElem?_cons_zero, List.getElem?_cons_succ] at t1
     have t2 := blk_cell HX.out.tx 2; have u2 := blk_frozen HX.out.tx 2; simp only [List.getElem?_toArray, List.getElem?_cons_zero, List.getElem?_cons_succ] at t2
     have t3 := blk_cell HX.out.tx 3; have u3 := blk_frozen HX.out.tx 3; simp only [List.getElem?_toArray, List.getElem?_cons_zero, List.getElem?_cons_succ] at t3
     have t4 := blk_cell HX.out.tx 4; have u4 := blk_frozen HX.out.tx 4; simp only [List.getElem?_toArray, List.getElem?_cons_zero, List.getElem?_cons_succ] at t4
     have t5 := blk_cell HX.out.tx 5; have u5 := blk_frozen HX.out.tx 5; simp only [List.getElem?_toArray, List.getElem?_cons_zero, List.getElem?_cons_succ] at t5
     have t6 := blk_cell HX.out.tx 6; have u6 := blk_frozen HX.out.tx 6; simp only [List.getElem?_toArray, List.getElem?_cons_zero, List.getElem?_cons_succ] at t6
     have t7 := blk_cell HX.out.tx 7; have u7 := blk_frozen HX.out.tx 7; simp only [List.getElem?_toArray, List.getElem?_cons_zero, List.getElem?_cons_succ] at t7
     have t8 := blk_cell HX.out.tx 8; have u8 := blk_frozen HX.out.tx 8; simp only [List.getElem?_toArray, List.getElem?_cons_zero, List.getElem?_cons_succ] at t8
     clear hr)
  | (go_at_call 52
     refine (int_ok' (w.heap.size + 1 + 1) s4 s5 nc k5 _ E5.out R5.out HX.out.rd).mono ?_
     rintro e w2 ⟨rfl, hr⟩
     have HX := Lib.hid (HX.out.read hr)
     have t0 := blk_cell HX.out.tx 0; have u0 := blk_frozen HX.out.tx 0; simp only [List.getElem?_toArray, List.getElem?_cons_zero, List.getElem?_cons_succ] at t0
     have t1 := blk_cell HX.out.tx 1; have u1 := blk_frozen HX.out.tx 1; simp only [List.getElem?_toArray, List.getElem?_cons_zero, List.getElem?_cons_succ] at t1
     have t2 := blk_cell HX.out.tx 2; have u2 := blk_frozen HX.out.tx 2; simp only [List.getElem?_toArray, List.getElem?_cons_zero, List.getElem?_cons_succ] at t2
     have t3 := blk_cell HX.out.tx 3; have u3 := blk_frozen HX.out.tx 3; simp only [List.getElem?_toArray, List.getElem?_cons_zero, List.getElem?_cons_succ] at t3
     have t4 := blk_cell HX.out.tx 4; have u4 := blk_frozen HX.out.tx 4; simp only [List.getElem?_toArray, List.getElem?_cons_zero, List.getElem?_cons_succ] at t4
     have t5 := blk_cell HX.out.tx 5; have u5 := blk_frozen HX.out.tx 5; simp only [List.getElem?_toArray, List.getElem?_cons_zero, List.getElem?_cons_succ] at t5
     have t6 := blk_cell HX.out.tx 6; have u6 := blk_frozen HX.out.tx 6; simp only [List.getElem?_toArray, List.getElem?_cons_zero, List.getElem?_cons_succ] at t6
     have t7 := blk_cell HX.out.tx 7; have u7 := blk_frozen HX.out.tx 7; simp only [List.getElem?_toArray, List.getElem?_cons_zero, List.getElem?_cons_succ] at t7
     have t8 := blk_cell HX.out.tx 8; have u8 := blk_frozen HX.out.tx 8; simp only [List.getElem?_toArray, List.getElem?_cons_zero, List.getElem?_cons_succ] at t8
     clear hr)
  | (go_at_call 53
     refine (text_ok' (w.heap.size + 1 + 1) s5 s6 ky' k6 _ Z5.out E6.out R6.out ((HX.out.set3 (.int .u64 am)).set4 (.int .u64 nc)).rd).mono ?_
     rintro e w2 ⟨rfl, hr⟩
     have HX := Lib.hid (((HX.out.set3 (.int .u64 am)).set4 (.int .u64 nc)).read hr)
     have t0 := blk_cell HX.out.tx 0; have u0 := blk_frozen HX.out.tx 0; simp only [List.getElem?_toArray, List.getElem?_cons_zero, List.getElem?_cons_succ] at t0
     have t1 := blk_cell HX.out.tx 1; have u1 := blk_frozen HX.out.tx 1; simp only [List.getElem?_toArray, List.getElem?_cons_zero, List.getElem?_cons_succ] at t1
     have t2 := blk_cell HX.out.tx 2; have u2 := blk_frozen HX.out.tx 2; simp only [List.getElem?_toArray, List.getElem?_cons_zero, List.getElem?_cons_succ] at t2
     have t3 := blk_cell HX.out.tx 3; have u3 := blk_frozen HX.out.tx 3; simp only [List.getElem?_toArray, List.getElem?_cons_zero, List.getElem?_cons_succ] at t3
     have t4 := blk_cell HX.out.tx 4; have u4 := blk_frozen HX.out.tx 4; simp only [List.getElem?_toArray, List.getElem?_cons_zero, List.getElem?_cons_succ] at t4
     have t5 := blk_cell HX.out.tx 5; have u5 := blk_frozen HX.out.tx 5; simp only [List.getElem?_toArray, List.getElem?_cons_zero, List.getElem?_cons_succ] at t5
     have t6 := blk_cell HX.out.tx 6; have u6 := blk_frozen HX.out.tx 6; simp only [List.getElem?_toArray, List.getElem?_cons_zero, List.getElem?_cons_succ] at t6
     have t7 := blk_cell HX.out.tx 7; have u7 := blk_frozen HX.out.tx 7; simp only [List.getElem?_toArray, List.getElem?_cons_zero, List.getElem?_cons_succ] at t7
     have t8 := blk_cell HX.out.tx 8; have u8 := blk_frozen HX.out.tx 8; simp only [List.getElem?_toArray, List.getElem?_cons_zero, List.getElem?_cons_succ] at t8
     clear hr)
  | (go_at_call 53
     refine (text_ok' (w.heap.size + 1 + 1) s6 s7 vl k7 _ Z6.out E7.out R7.out HX.out.rd).mono ?_
     rintro e w2 ⟨rfl, hr⟩
     have HX := Lib.hid (HX.out.read hr)
     have t0 := blk_cell HX.out.tx 0; have u0 := blk_frozen HX.out.tx 0; simp only [List.getElem?_toArray, List.getElem?_cons_zero, List.getElem?_cons_succ] at t0
     have t1 := blk_cell HX.out.tx 1; have u1 := blk_frozen HX.out.tx 1; simp only [List.getElem?_toArray, List.getElem?_cons_zero, List.getElem?_cons_succ] at t1
     have t2 := blk_cell HX.out.tx 2; have u2 := blk_frozen HX.out.tx 2; simp only [List.getElem?_toArray, List.getElem?_cons_zero, List.getElem?_cons_succ] at t2
     have t3 := blk_cell HX.out.tx 3; have u3 := blk_frozen HX.out.tx 3; simp only [List.getElem?_toArray, List.getElem?_cons_zero, List.getElem?_cons_succ] at t3
     have t4 := blk_cell HX.out.tx 4; have u4 := blk_frozen HX.out.tx 4; simp only [List.getElem?_toArray, List.getElem?_cons_zero, List.getElem?_cons_succ] at t4
     have t5 := blk_cell HX.out.tx 5; have u5 := blk_frozen HX.out.tx 5; simp only [List.getElem?_toArray, List.getElem?_cons_zero, List.getElem?_cons_succ] at t5
     have t6 := blk_cell HX.out.tx 6; have u6 := blk_frozen HX.out.tx 6; simp only [List.getElem?_toArray, List.getElem?_cons_zero, List.getElem?_cons_succ] at t6
     have t7 := blk_cell HX.out.tx 7; have u7 := blk_frozen HX.out.tx 7; simp only [List.getElem?_toArray, List.getElem?_cons_zero, List.getElem?_cons_succ] at t7
     have t8 := blk_cell HX.out.tx 8; have u8 := blk_frozen HX.out.tx 8; simp only [List.getElem?_toArray, List.getElem?_cons_zero, List.getElem?_cons_succ] at t8
     clear hr)
  | (go_at_call 54
     refine (list_no (w.heap.size + 1 + 1) s7 _ Z7.out ((HX.out.set5 (.string ky')).set6 (.string vl)).rd HN.out).mono ?_
     rintro e w2 ⟨rfl, hB⟩
     have HX := Lib.hid (((HX.out.set5 (.string ky')).set6 (.string vl)).step hB)
     clear hB))
  refine leaves_cons (f := 51) (args := #[.pointer (some ⟨w.heap.size + 1, 0, none⟩)]) (by simp) (by simp [go_sem]) ?_
  refine (caught_panicking ⟨w.heap.size + 1, 0, none⟩ 0 (gl s7 8).2.2 [] _ (blk_cell HX.out.er 0) (blk_frozen HX.out.er 0)).mono ?_
  rintro e u' w'' ⟨rfl, rfl, rfl⟩
  refine leaves_cons (f := 50) (args := #[.pointer (some ⟨w.heap.size + 1, 0, none⟩), .pointer (some ⟨w.heap.size, 0, none⟩)]) (by simp [settle]) (by simp [go_sem]) ?_
  have hdied := HX.out.died (gl s7 8).2.2
  refine (undo_yes (w.heap.size + 1) w.heap.size (gl s7 8).2.2 HN.out _ _ _ _ _ _ _ _ _ _ hdied.1 hdied.2.1).mono ?_
  rintro e u' w'' ⟨rfl, rfl, rfl⟩
  have hz := zset_box _ w.heap.size _ _ _ _ _ _ _ _ _ hdied.2.1
  have hze := (zset_blk _ w.heap.size (w.heap.size + 1) (by omega)).trans hdied.1
  have hzb := zset_below hdied.2.2 (Nat.le_refl _)
  generalize zset _ w.heap.size = Z at hz hze hzb ⊢
  have d0 : Z.cell? ⟨w.heap.size, 0, none⟩ = some (.int .i64 0) := blk_cell hz 0
  have d1 : Z.cell? ⟨w.heap.size, 1, none⟩ = some (.string ⟨#[]⟩) := blk_cell hz 1
  have d2 : Z.cell? ⟨w.heap.size, 2, none⟩ = some (.string ⟨#[]⟩) := blk_cell hz 2
  have d3 : Z.cell? ⟨w.heap.size, 3, none⟩ = some (.int .u64 0) := blk_cell hz 3
  have d4 : Z.cell? ⟨w.heap.size, 4, none⟩ = some (.int .u64 0) := blk_cell hz 4
  have d5 : Z.cell? ⟨w.heap.size, 5, none⟩ = some (.string ⟨#[]⟩) := blk_cell hz 5
  have d6 : Z.cell? ⟨w.heap.size, 6, none⟩ = some (.string ⟨#[]⟩) := blk_cell hz 6
  have d7 : Z.cell? ⟨w.heap.size, 7, none⟩ = some (.slice none 0 0) := blk_cell hz 7
  have d8 : Z.cell? ⟨w.heap.size, 8, none⟩ = some (.slice none 0 0) := blk_cell hz 8
  have de : Z.cell? ⟨w.heap.size + 1, 0, none⟩ = some (.int .i64 ((gl s7 8).2.2)) := blk_cell hze 0
  clear hz hze hdied
  have HZ := Lib.hid hzb
  clear hzb
  simp [Leaves, settle, results, Tryd.results25, go_sem, d0, d1, d2, d3, d4, d5, d6, d7, d8, de]
  exact ⟨rfl, HZ.out⟩
set_option maxHeartbeats 8000000 in
set_option maxRecDepth 100000 in
theorem dec_no9 (s s1 s2 s3 s4 s5 s6 s7 s8 : ByteArray) (kd : Int) (k1 : Int) (f : ByteArray) (k2 : Int) (t : ByteArray) (k3 : Int) (am : Int) (k4 : Int) (nc : Int) (k5 : Int) (ky' : ByteArray) (k6 : Int) (vl : ByteArray) (k7 : Int) (rs : List ByteArray) (k8 : Int) (w : World) (E1 : Hid (gi s 9 0 0 = (kd, k1, 0))) (R1 : Hid (rest s k1 = s1)) (Z1 : Hid (s1.size < 4611686018427387904)) (E2 : Hid (gt s1 = (f, k2, 0))) (R2 : Hid (rest s1 k2 = s2)) (Z2 : Hid (s2.size < 4611686018427387904)) (E3 : Hid (gt s2 = (t, k3, 0))) (R3 : Hid (rest s2 k3 = s3)) (Z3 : Hid (s3.size < 4611686018427387904)) (E4 : Hid (gi s3 9 0 0 = (am, k4, 0))) (R4 : Hid (rest s3 k4 = s4)) (Z4 : Hid (s4.size < 4611686018427387904)) (E5 : Hid (gi s4 9 0 0 = (nc, k5, 0))) (R5 : Hid (rest s4 k5 = s5)) (Z5 : Hid (s5.size < 4611686018427387904)) (E6 : Hid (gt s5 = (ky', k6, 0))) (R6 : Hid (rest s5 k6 = s6)) (Z6 : Hid (s6.size < 4611686018427387904)) (E7 : Hid (gt s6 = (vl, k7, 0))) (R7 : Hid (rest s6 k7 = s7)) (Z7 : Hid (s7.size < 4611686018427387904)) (E8 : Hid (gl s7 8 = (rs, k8, 0))) (R8 : Hid (rest s7 k8 = s8)) (Z8 : Hid (s8.size < 4611686018427387904)) (HN : Hid ((gl s8 8).2.2 ≠ 0)) :
    Calls Tryd.prog 25 #[.string s] w fun e w' => e = .returned (.tuple #[zagg, .int .i64 (gl s8 8).2.2]) ∧ Below w.heap.size w w' := by
  have hmf : ∀ (fn : Fn) (first cap : Array Value) (w : World), (Instr.makeFunc fn first cap).run Tryd.prog w = .ok (.func fn first cap) w := fun _ _ _ _ => rfl
  go_enter_defers Tryd.func25, Tryd.ntmps25
  have HX := Lib.hid (Dx.first w s)
  go_wp2_with (first
  | (go_at_call 52
     refine (int_ok' (w.heap.size + 1 + 1) s s1 kd k1 _ E1.out R1.out HX.out.rd).mono ?_
     rintro e w2 ⟨rfl, hr⟩
     have HX := Lib.hid (HX.out.read hr)
     have t0 := blk_cell HX.out.tx 0; have u0 := blk_frozen HX.out.tx 0; simp only [List.getElem?_toArray, List.getElem?_cons_zero, List.getElem?_cons_succ] at t0
     have t1 := blk_cell HX.out.tx 1; have u1 := blk_frozen HX.out.tx 1; simp only [List.getElem?_toArray, List.getElem?_cons_zero, List.getElem?_cons_succ] at t1
     have t2 := blk_cell HX.out.tx 2; have u2 := blk_frozen HX.out.tx 2; simp only [List.getElem?_toArray, List.getElem?_cons_zero, List.getElem?_cons_succ] at t2
     have t3 := blk_cell HX.out.tx 3; have u3 := blk_frozen HX.out.tx 3; simp only [List.getElem?_toArray, List.getElem?_cons_zero, List.getElem?_cons_succ] at t3
     have t4 := blk_cell HX.out.tx 4; have u4 := blk_frozen HX.out.tx 4; simp only [List.getElem?_toArray, List.getElem?_cons_zero, List.getElem?_cons_succ] at t4
     have t5 := blk_cell HX.out.tx 5; have u5 := blk_frozen HX.out.tx 5; simp only [List.getElem?_toArray, List.getElem?_cons_zero, List.getElem?_cons_succ] at t5
     have t6 := blk_cell HX.out.tx 6; have u6 := blk_frozen HX.out.tx 6; simp only [List.getElem?_toArray, List.getElem?_cons_zero, List.getElem?_cons_succ] at t6
     have t7 := blk_cell HX.out.tx 7; have u7 := blk_frozen HX.out.tx 7; simp only [List.getElem?_toArray, List.getElem?_cons_zero, List.getElem?_cons_succ] at t7
     have t8 := blk_cell HX.out.tx 8; have u8 := blk_frozen HX.out.tx 8; simp only [List.getElem?_toArray, List.getElem?_cons_zero, List.getElem?_cons_succ] at t8
     clear hr)
  | (go_at_call 53
     refine (text_ok' (w.heap.size + 1 + 1) s1 s2 f k2 _ Z1.out E2.out R2.out HX.out.rd).mono ?_
     rintro e w2 ⟨rfl, hr⟩
     have HX := Lib.hid (HX.out.read hr)
     have t0 := blk_cell HX.out.tx 0; have u0 := blk_frozen HX.out.tx 0; simp only [List.getElem?_toArray, List.getElem?_cons_zero, List.getElem?_cons_succ] at t0
     have t1 := blk_cell HX.out.tx 1; have u1 := blk_frozen HX.out.tx 1; simp only [List.getElem?_toArray, List.getElem?_cons_zero, List.getElem?_cons_succ] at t1
     have t2 := blk_cell HX.out.tx 2; have u2 := blk_frozen HX.out.tx 2; simp only [List.getElem?_toArray, List.getElem?_cons_zero, List.getElem?_cons_succ] at t2
     have t3 := blk_cell HX.out.tx 3; have u3 := blk_frozen HX.out.tx 3; simp only [List.getElem?_toArray, List.getElem?_cons_zero, List.getElem?_cons_succ] at t3
     have t4 := blk_cell HX.out.tx 4; have u4 := blk_frozen HX.out.tx 4; simp only [List.getElem?_toArray, List.getElem?_cons_zero, List.getElem?_cons_succ] at t4
     have t5 := blk_cell HX.out.tx 5; have u5 := blk_frozen HX.out.tx 5; simp only [List.getElem?_toArray, List.getElem?_cons_zero, List.getElem?_cons_succ] at t5
     have t6 := blk_cell HX.out.tx 6; have u6 := blk_frozen HX.out.tx 6; simp only [List.getElem?_toArray, List.getElem?_cons_zero, List.getElem?_cons_succ] at t6
     have t7 := blk_cell HX.out.tx 7; have u7 := blk_frozen HX.out.tx 7; simp only [List.getElem?_toArray, List.getElem?_cons_zero, List.getElem?_cons_succ] at t7
     have t8 := blk_cell HX.out.tx 8; have u8 := blk_frozen HX.out.tx 8; simp only [List.getElem?_toArray, List.getElem?_cons_zero, List.getElem?_cons_succ] at t8
     clear hr)
  | (go_at_call 53
     refine (text_ok' (w.heap.size + 1 + 1) s2 s3 t k3 _ Z2.out E3.out R3.out HX.out.rd).mono ?_
     rintro e w2 ⟨rfl, hr⟩
     have HX := Lib.hid (HX.out.read hr)
     have t0 := blk_cell HX.out.tx 0; have u0 := blk_frozen HX.out.tx 0; simp only [List.getElem?_toArray, List.getElem?_cons_zero, List.getElem?_cons_succ] at t0
     have t1 := blk_cell HX.out.tx 1; have u1 := blk_frozen HX.out.tx 1; simp only [List.getElem?_toArray, List.getElem?_cons_zero, List.getElem?_cons_succ] at t1
     have t2 := blk_cell HX.out.tx 2; have u2 := blk_frozen HX.out.tx 2; simp only [List.getElem?_toArray, List.getElem?_cons_zero, List.getElem?_cons_succ] at t2
     have t3 := blk_cell HX.out.tx 3; have u3 := blk_frozen HX.out.tx 3; simp only [List.getElem?_toArray, List.getElem?_cons_zero, List.getElem?_cons_succ] at t3
     have t4 := blk_cell HX.out.tx 4; have u4 := blk_frozen HX.out.tx 4; simp only [List.getElem?_toArray, List.getElem?_cons_zero, List.getElem?_cons_succ] at t4
     have t5 := blk_cell HX.out.tx 5; have u5 := blk_frozen HX.out.tx 5; simp only [List.getElem?_toArray, List.getElem?_cons_zero, List.getElem?_cons_succ] at t5
     have t6 := blk_cell HX.out.tx 6; have u6 := blk_frozen HX.out.tx 6; simp only [List.getElem?_toArray, List.getElem?_cons_zero, List.getElem?_cons_succ] at t6
     have t7 := blk_cell HX.out.tx 7; have u7 := blk_frozen HX.out.tx 7; simp only [List.getElem?_toArray, List.getElem?_cons_zero, List.getElem?_cons_succ] at t7
     have t8 := blk_cell HX.out.tx 8; have u8 := blk_frozen HX.out.tx 8; simp only [List.getElem?_toArray, List.getElem?_cons_zero, List.getElem?_cons_succ] at t8
     clear hr)
  | (go_at_call 52
     refine (int_ok' (w.heap.size + 1 + 1) s3 s4 am k4 _ E4.out R4.out ((HX.out.set1 (.string f)).set2 (.string t)).rd).mono ?_
     rintro e w2 ⟨rfl, hr⟩
     have HX := Lib.hid (((HX.out.set1 (.string f)).set2 (.string t)).read hr)
     have t0 := blk_cell HX.out.tx 0; have u0 := blk_frozen HX.out.tx 0; simp only [List.getElem?_toArray, List.getElem?_cons_zero, List.getElem?_cons_succ] at t0
     have t1 := blk_cell HX.out.tx 1; have u1 := blk_frozen HX.out.tx 1; simp only [List.getElem?_toArray, List.getElem?_cons_zero, List.getElem?_cons_succ] at t1
     have t2 := blk_cell HX.out.tx 2; have u2 := blk_frozen HX.out.tx 2; simp only [List.getElem?_toArray, List.getElem?_cons_zero, List.getElem?_cons_succ] at t2
     have t3 := blk_cell HX.out.tx 3; have u3 := blk_frozen HX.out.tx 3; simp only [List.getElem?_toArray, List.getElem?_cons_zero, List.getElem?_cons_succ] at t3
     have t4 := blk_cell HX.out.tx 4; have u4 := blk_frozen HX.out.tx 4; simp only [List.getElem?_toArray, List.getElem?_cons_zero, List.getElem?_cons_succ] at t4
     have t5 := blk_cell HX.out.tx 5; have u5 := blk_frozen HX.out.tx 5; simp only [List.getElem?_toArray, List.getElem?_cons_zero, List.getElem?_cons_succ] at t5
     have t6 := blk_cell HX.out.tx 6; have u6 := blk_frozen HX.out.tx 6; simp only [List.getElem?_toArray, List.getElem?_cons_zero, List.getElem?_cons_succ] at t6
     have t7 := blk_cell HX.out.tx 7; have u7 := blk_frozen HX.out.tx 7; simp only [List.getElem?_toArray, List.getElem?_cons_zero, List.getElem?_cons_succ] at t7
     have t8 := blk_cell HX.out.tx 8; have u8 := blk_frozen HX.out.tx 8; simp only [List.getElem?_toArray, List.getElem?_cons_zero, List.getElem?_cons_succ] at t8
     clear hr)
  | (go_at_call 52
     refine (int_ok' (w.heap.size + 1 + 1) s4 s5 nc k5 _ E5.out R5.out HX.out.rd).mono ?_
     rintro e w2 ⟨rfl, hr⟩
     have HX := Lib.hid (HX.out.read hr)
     have t0 := blk_cell HX.out.tx 0; have u0 := blk_frozen HX.out.tx 0; simp only [List.getElem?_toArray, List.getElem?_cons_zero, List.getElem?_cons_succ] at t0
     have t1 := blk_cell HX.out.tx 1; have u1 := blk_frozen HX.out.tx 1; simp only [List.getElem?_toArray, List.getElem?_cons_zero, List.getElem?_cons_succ] at t1
     have t2 := blk_cell HX.out.tx 2; have u2 := blk_frozen HX.out.tx 2; simp only [List.getElem?_toArray, List.getElem?_cons_zero, List.getElem?_cons_succ] at t2
     have t3 := blk_cell HX.out.tx 3; have u3 := blk_frozen HX.out.tx 3; simp only [List.getElem?_toArray, List.getElem?_cons_zero, List.getElem?_cons_succ] at t3
     have t4 := blk_cell HX.out.tx 4; have u4 := blk_frozen HX.out.tx 4; simp only [List.getElem?_toArray, List.getElem?_cons_zero, List.getElem?_cons_succ] at t4
     have t5 := blk_cell HX.out.tx 5; have u5 := blk_frozen HX.out.tx 5; simp only [List.getElem?_toArray, List.getElem?_cons_zero, List.getElem?_cons_succ] at t5
     have t6 := blk_cell HX.out.tx 6; have u6 := blk_frozen HX.out.tx 6; simp only [List.getElem?_toArray, List.getElem?_cons_zero, List.getElem?_cons_succ] at t6
     have t7 := blk_cell HX.out.tx 7; have u7 := blk_frozen HX.out.tx 7; simp only [List.getElem?_toArray, List.getElem?_cons_zero, List.getElem?_cons_succ] at t7
     have t8 := blk_cell HX.out.tx 8; have u8 := blk_frozen HX.out.tx 8; simp only [List.getElem?_toArray, List.getElem?_cons_zero, List.getElem?_cons_succ] at t8
     clear hr)
  | (go_at_call 53
     refine (text_ok' (w.heap.size + 1 + 1) s5 s6 ky' k6 _ Z5.out E6.out R6.out ((HX.out.set3 (.int .u64 am)).set4 (.int .u64 nc)).rd).mono ?_
     rintro e w2 ⟨rfl, hr⟩
     have HX := Lib.hid (((HX.out.set3 (.int .u64 am)).set4 (.int .u64 nc)).read hr)
     have t0 := blk_cell HX.out.tx 0; have u0 := blk_frozen HX.out.tx 0; simp only [List.getElem?_toArray, List.getElem?_cons_zero, List.getElem?_cons_succ] at t0
     have t1 := blk_cell HX.out.tx 1; have u1 := blk_frozen HX.out.tx 1; simp only [List.getElem?_toArray, List.getElem?_cons_zero, List.getElem?_cons_succ] at t1
     have t2 := blk_cell HX.out.tx 2; have u2 := blk_frozen HX.out.tx 2; simp only [List.getElem?_toArray, List.getElem?_cons_zero, List.getElem?_cons_succ] at t2
     have t3 := blk_cell HX.out.tx 3; have u3 := blk_frozen HX.out.tx 3; simp only [List.getElem?_toArray, List.getElem?_cons_zero, List.getElem?_cons_succ] at t3
     have t4 := blk_cell HX.out.tx 4; have u4 := blk_frozen HX.out.tx 4; simp only [List.getElem?_toArray, List.getElem?_cons_zero, List.getElem?_cons_succ] at t4
     have t5 := blk_cell HX.out.tx 5; have u5 := blk_frozen HX.out.tx 5; simp only [List.getElem?_toArray, List.getElem?_cons_zero, List.getElem?_cons_succ] at t5
     have t6 := blk_cell HX.out.tx 6; have u6 := blk_frozen HX.out.tx 6; simp only [List.getElem?_toArray, List.getElem?_cons_zero, List.getElem?_cons_succ] at t6
     have t7 := blk_cell HX.out.tx 7; have u7 := blk_frozen HX.out.tx 7; simp only [List.getElem?_toArray, List.getElem?_cons_zero, List.getElem?_cons_succ] at t7
     have t8 := blk_cell HX.out.tx 8; have u8 := blk_frozen HX.out.tx 8; simp only [List.getElem?_toArray, List.getElem?_cons_zero, List.getElem?_cons_succ] at t8
     clear hr)
  | (go_at_call 53
     refine (text_ok' (w.heap.size + 1 + 1) s6 s7 vl k7 _ Z6.out E7.out R7.out HX.out.rd).mono ?_
     rintro e w2 ⟨rfl, hr⟩
     have HX := Lib.hid (HX.out.read hr)
     have t0 := blk_cell HX.out.tx 0; have u0 := blk_frozen HX.out.tx 0; simp only [List.getElem?_toArray, List.getElem?_cons_zero, List.getElem?_cons_succ] at t0
     have t1 := blk_cell HX.out.tx 1; have u1 := blk_frozen HX.out.tx 1; simp only [List.getElem?_toArray, List.getElem?_cons_zero, List.getElem?_cons_succ] at t1
     have t2 := blk_cell HX.out.tx 2; have u2 := blk_frozen HX.out.tx 2; simp only [List.getElem?_toArray, List.getElem?_cons_zero, List.getElem?_cons_succ] at t2
     have t3 := blk_cell HX.out.tx 3; have u3 := blk_frozen HX.out.tx 3; simp only [List.getElem?_toArray, List.getElem?_cons_zero, List.getElem?_cons_succ] at t3
     have t4 := blk_cell HX.out.tx 4; have u4 := blk_frozen HX.out.tx 4; simp only [List.getElem?_toArray, List.getElem?_cons_zero, List.getElem?_cons_succ] at t4
     have t5 := blk_cell HX.out.tx 5; have u5 := blk_frozen HX.out.tx 5; simp only [List.getElem?_toArray, List.getElem?_cons_zero, List.getElem?_cons_succ] at t5
     have t6 := blk_cell HX.out.tx 6; have u6 := blk_frozen HX.out.tx 6; simp only [List.getElem?_toArray, List.getElem?_cons_zero, List.getElem?_cons_succ] at t6
     have t7 := blk_cell HX.out.tx 7; have u7 := blk_frozen HX.out.tx 7; simp only [List.getElem?_toArray, List.getElem?_cons_zero, List.getElem?_cons_succ] at t7
     have t8 := blk_cell HX.out.tx 8; have u8 := blk_frozen HX.out.tx 8; simp only [List.getElem?_toArray, List.getElem?_cons_zero, List.getElem?_cons_succ] at t8
     clear hr)
  | (go_at_call 54
     refine (list_ok' (w.heap.size + 1 + 1) s7 s8 rs k8 _ Z7.out E8.out R8.out ((HX.out.set5 (.string ky')).set6 (.string vl)).rd).mono ?_
     rintro e w2 ⟨v7, rfl, hR7, hr⟩
     obtain ⟨A7, c7, rfl, hc7, hC7⟩ := Kd.R_reads hR7
     have HC7 := Lib.hid hc7
     clear hc7 hC7
     have HR7 := Lib.hid hR7
     have HB7 := Lib.hid (((HX.out.set5 (.string ky')).set6 (.string vl)).low.size)
     have HX := Lib.hid (((HX.out.set5 (.string ky')).set6 (.string vl)).read hr)
     have t0 := blk_cell HX.out.tx 0; have u0 := blk_frozen HX.out.tx 0; simp only [List.getElem?_toArray, List.getElem?_cons_zero, List.getElem?_cons_succ] at t0
     have t1 := blk_cell HX.out.tx 1; have u1 := blk_frozen HX.out.tx 1; simp only [List.getElem?_toArray, List.getElem?_cons_zero, List.getElem?_cons_succ] at t1
     have t2 := blk_cell HX.out.tx 2; have u2 := blk_frozen HX.out.tx 2; simp only [List.getElem?_toArray, List.getElem?_cons_zero, List.getElem?_cons_succ] at t2
     have t3 := blk_cell HX.out.tx 3; have u3 := blk_frozen HX.out.tx 3; simp only [List.getElem?_toArray, List.getElem?_cons_zero, List.getElem?_cons_succ] at t3
     have t4 := blk_cell HX.out.tx 4; have u4 := blk_frozen HX.out.tx 4; simp only [List.getElem?_toArray, List.getElem?_cons_zero, List.getElem?_cons_succ] at t4
     have t5 := blk_cell HX.out.tx 5; have u5 := blk_frozen HX.out.tx 5; simp only [List.getElem?_toArray, List.getElem?_cons_zero, List.getElem?_cons_succ] at t5
     have t6 := blk_cell HX.out.tx 6; have u6 := blk_frozen HX.out.tx 6; simp only [List.getElem?_toArray, List.getElem?_cons_zero, List.getElem?_cons_succ] at t6
     have t7 := blk_cell HX.out.tx 7; have u7 := blk_frozen HX.out.tx 7; simp only [List.getElem?_toArray, List.getElem?_cons_zero, List.getElem?_cons_succ] at t7
     have t8 := blk_cell HX.out.tx 8; have u8 := blk_frozen HX.out.tx 8; simp only [List.getElem?_toArray, List.getElem?_cons_zero, List.getElem?_cons_succ] at t8
     clear hr hR7)
  | (go_at_call 54
     refine (list_no (w.heap.size + 1 + 1) s8 _ Z8.out HX.out.rd HN.out).mono ?_
     rintro e w2 ⟨rfl, hB⟩
     have HX := Lib.hid (HX.out.step hB)
     clear hB))
  refine leaves_cons (f := 51) (args := #[.pointer (some ⟨w.heap.size + 1, 0, none⟩)]) (by simp) (by simp [go_sem]) ?_
  refine (caught_panicking ⟨w.heap.size + 1, 0, none⟩ 0 (gl s8 8).2.2 [] _ (blk_cell HX.out.er 0) (blk_frozen HX.out.er 0)).mono ?_
  rintro e u' w'' ⟨rfl, rfl, rfl⟩
  refine leaves_cons (f := 50) (args := #[.pointer (some ⟨w.heap.size + 1, 0, none⟩), .pointer (some ⟨w.heap.size, 0, none⟩)]) (by simp [settle]) (by simp [go_sem]) ?_
  have hdied := HX.out.died (gl s8 8).2.2
  refine (undo_yes (w.heap.size + 1) w.heap.size (gl s8 8).2.2 HN.out _ _ _ _ _ _ _ _ _ _ hdied.1 hdied.2.1).mono ?_
  rintro e u' w'' ⟨rfl, rfl, rfl⟩
  have hz := zset_box _ w.heap.size _ _ _ _ _ _ _ _ _ hdied.2.1
  have hze := (zset_blk _ w.heap.size (w.heap.size + 1) (by omega)).trans hdied.1
  have hzb := zset_below hdied.2.2 (Nat.le_refl _)
  generalize zset _ w.heap.size = Z at hz hze hzb ⊢
  have d0 : Z.cell? ⟨w.heap.size, 0, none⟩ = some (.int .i64 0) := blk_cell hz 0
  have d1 : Z.cell? ⟨w.heap.size, 1, none⟩ = some (.string ⟨#[]⟩) := blk_cell hz 1
  have d2 : Z.cell? ⟨w.heap.size, 2, none⟩ = some (.string ⟨#[]⟩) := blk_cell hz 2
  have d3 : Z.cell? ⟨w.heap.size, 3, none⟩ = some (.int .u64 0) := blk_cell hz 3
  have d4 : Z.cell? ⟨w.heap.size, 4, none⟩ = some (.int .u64 0) := blk_cell hz 4
  have d5 : Z.cell? ⟨w.heap.size, 5, none⟩ = some (.string ⟨#[]⟩) := blk_cell hz 5
  have d6 : Z.cell? ⟨w.heap.size, 6, none⟩ = some (.string ⟨#[]⟩) := blk_cell hz 6
  have d7 : Z.cell? ⟨w.heap.size, 7, none⟩ = some (.slice none 0 0) := blk_cell hz 7
  have d8 : Z.cell? ⟨w.heap.size, 8, none⟩ = some (.slice none 0 0) := blk_cell hz 8
  have de : Z.cell? ⟨w.heap.size + 1, 0, none⟩ = some (.int .i64 ((gl s8 8).2.2)) := blk_cell hze 0
  clear hz hze hdied
  have HZ := Lib.hid hzb
  clear hzb
  simp [Leaves, settle, results, Tryd.results25, go_sem, d0, d1, d2, d3, d4, d5, d6, d7, d8, de]
  exact ⟨rfl, HZ.out⟩
set_option maxHeartbeats 8000000 in
set_option maxRecDepth 100000 in
theorem dec_kind (s s1 s2 s3 s4 s5 s6 s7 s8 s9 : ByteArray) (kd : Int) (k1 : Int) (f : ByteArray) (k2 : Int) (t : ByteArray) (k3 : Int) (am : Int) (k4 : Int) (nc : Int) (k5 : Int) (ky' : ByteArray) (k6 : Int) (vl : ByteArray) (k7 : Int) (rs : List ByteArray) (k8 : Int) (ws : List ByteArray) (k9 : Int) (w : World) (E1 : Hid (gi s 9 0 0 = (kd, k1, 0))) (R1 : Hid (rest s k1 = s1)) (Z1 : Hid (s1.size < 4611686018427387904)) (E2 : Hid (gt s1 = (f, k2, 0))) (R2 : Hid (rest s1 k2 = s2)) (Z2 : Hid (s2.size < 4611686018427387904)) (E3 : Hid (gt s2 = (t, k3, 0))) (R3 : Hid (rest s2 k3 = s3)) (Z3 : Hid (s3.size < 4611686018427387904)) (E4 : Hid (gi s3 9 0 0 = (am, k4, 0))) (R4 : Hid (rest s3 k4 = s4)) (Z4 : Hid (s4.size < 4611686018427387904)) (E5 : Hid (gi s4 9 0 0 = (nc, k5, 0))) (R5 : Hid (rest s4 k5 = s5)) (Z5 : Hid (s5.size < 4611686018427387904)) (E6 : Hid (gt s5 = (ky', k6, 0))) (R6 : Hid (rest s5 k6 = s6)) (Z6 : Hid (s6.size < 4611686018427387904)) (E7 : Hid (gt s6 = (vl, k7, 0))) (R7 : Hid (rest s6 k7 = s7)) (Z7 : Hid (s7.size < 4611686018427387904)) (E8 : Hid (gl s7 8 = (rs, k8, 0))) (R8 : Hid (rest s7 k8 = s8)) (Z8 : Hid (s8.size < 4611686018427387904)) (E9 : Hid (gl s8 8 = (ws, k9, 0))) (R9 : Hid (rest s8 k9 = s9)) (Z9 : Hid (s9.size < 4611686018427387904)) (hk : ¬ kd ≤ 2) :
    Calls Tryd.prog 25 #[.string s] w fun e w' => e = .returned (.tuple #[zagg, .int .i64 2]) ∧ Below w.heap.size w w' := by
  have d1 : decide (kd ≤ 2) = false := decide_eq_false hk
  clear hk
  have hmf : ∀ (fn : Fn) (first cap : Array Value) (w : World), (Instr.makeFunc fn first cap).run Tryd.prog w = .ok (.func fn first cap) w := fun _ _ _ _ => rfl
  go_enter_defers Tryd.func25, Tryd.ntmps25
  have HX := Lib.hid (Dx.first w s)
  go_upto_region 9 with (first
  | (go_at_call 52
     refine (int_ok' (w.heap.size + 1 + 1) s s1 kd k1 _ E1.out R1.out HX.out.rd).mono ?_
     rintro e w2 ⟨rfl, hr⟩
     have HX := Lib.hid (HX.out.read hr)
     have t0 := blk_cell HX.out.tx 0; have u0 := blk_frozen HX.out.tx 0; simp only [List.getElem?_toArray, List.getElem?_cons_zero, List.getElem?_cons_succ] at t0
     have t1 := blk_cell HX.out.tx 1; have u1 := blk_frozen HX.out.tx 1; simp only [List.getElem?_toArray, List.getElem?_cons_zero, List.getElem?_cons_succ] at t1
     have t2 := blk_cell HX.out.tx 2; have u2 := blk_frozen HX.out.tx 2; simp only [List.getElem?_toArray, List.getElem?_cons_zero, List.getElem?_cons_succ] at t2
     have t3 := blk_cell HX.out.tx 3; have u3 := blk_frozen HX.out.tx 3; simp only [List.getElem?_toArray, List.getElem?_cons_zero, List.getElem?_cons_succ] at t3
     have t4 := blk_cell HX.out.tx 4; have u4 := blk_frozen HX.out.tx 4; simp only [List.getElem?_toArray, List.getElem?_cons_zero, List.getElem?_cons_succ] at t4
     have t5 := blk_cell HX.out.tx 5; have u5 := blk_frozen HX.out.tx 5; simp only [List.getElem?_toArray, List.getElem?_cons_zero, List.getElem?_cons_succ] at t5
     have t6 := blk_cell HX.out.tx 6; have u6 := blk_frozen HX.out.tx 6; simp only [List.getElem?_toArray, List.getElem?_cons_zero, List.getElem?_cons_succ] at t6
     have t7 := blk_cell HX.out.tx 7; have u7 := blk_frozen HX.out.tx 7; simp only [List.getElem?_toArray, List.getElem?_cons_zero, List.getElem?_cons_succ] at t7
     have t8 := blk_cell HX.out.tx 8; have u8 := blk_frozen HX.out.tx 8; simp only [List.getElem?_toArray, List.getElem?_cons_zero, List.getElem?_cons_succ] at t8
     clear hr)
  | (go_at_call 53
     refine (text_ok' (w.heap.size + 1 + 1) s1 s2 f k2 _ Z1.out E2.out R2.out HX.out.rd).mono ?_
     rintro e w2 ⟨rfl, hr⟩
     have HX := Lib.hid (HX.out.read hr)
     have t0 := blk_cell HX.out.tx 0; have u0 := blk_frozen HX.out.tx 0; simp only [List.getElem?_toArray, List.getElem?_cons_zero, List.getElem?_cons_succ] at t0
     have t1 := blk_cell HX.out.tx 1; have u1 := blk_frozen HX.out.tx 1; simp only [List.getElem?_toArray, List.getElem?_cons_zero, List.getElem?_cons_succ] at t1
     have t2 := blk_cell HX.out.tx 2; have u2 := blk_frozen HX.out.tx 2; simp only [List.getElem?_toArray, List.getElem?_cons_zero, List.getElem?_cons_succ] at t2
     have t3 := blk_cell HX.out.tx 3; have u3 := blk_frozen HX.out.tx 3; simp only [List.getElem?_toArray, List.getElem?_cons_zero, List.getElem?_cons_succ] at t3
     have t4 := blk_cell HX.out.tx 4; have u4 := blk_frozen HX.out.tx 4; simp only [List.getElem?_toArray, List.getElem?_cons_zero, List.getElem?_cons_succ] at t4
     have t5 := blk_cell HX.out.tx 5; have u5 := blk_frozen HX.out.tx 5; simp only [List.getElem?_toArray, List.getElem?_cons_zero, List.getElem?_cons_succ] at t5
     have t6 := blk_cell HX.out.tx 6; have u6 := blk_frozen HX.out.tx 6; simp only [List.getElem?_toArray, List.getElem?_cons_zero, List.getElem?_cons_succ] at t6
     have t7 := blk_cell HX.out.tx 7; have u7 := blk_frozen HX.out.tx 7; simp only [List.getElem?_toArray, List.getElem?_cons_zero, List.getElem?_cons_succ] at t7
     have t8 := blk_cell HX.out.tx 8; have u8 := blk_frozen HX.out.tx 8; simp only [List.getElem?_toArray, List.getElem?_cons_zero, List.getElem?_cons_succ] at t8
     clear hr)
  | (go_at_call 53
     refine (text_ok' (w.heap.size + 1 + 1) s2 s3 t k3 _ Z2.out E3.out R3.out HX.out.rd).mono ?_
     rintro e w2 ⟨rfl, hr⟩
     have HX := Lib.hid (HX.out.read hr)
     have t0 := blk_cell HX.out.tx 0; have u0 := blk_frozen HX.out.tx 0; simp only [List.getElem?_toArray, List.getElem?_cons_zero, List.getElem?_cons_succ] at t0
     have t1 := blk_cell HX.out.tx 1; have u1 := blk_frozen HX.out.tx 1; simp only [List.getElem?_toArray, List.getElem?_cons_zero, List.getElem?_cons_succ] at t1
     have t2 := blk_cell HX.out.tx 2; have u2 := blk_frozen HX.out.tx 2; simp only [List.getElem?_toArray, List.getElem?_cons_zero, List.getElem?_cons_succ] at t2
     have t3 := blk_cell HX.out.tx 3; have u3 := blk_frozen HX.out.tx 3; simp only [List.getElem?_toArray, List.getElem?_cons_zero, List.getElem?_cons_succ] at t3
     have t4 := blk_cell HX.out.tx 4; have u4 := blk_frozen HX.out.tx 4; simp only [List.getElem?_toArray, List.getElem?_cons_zero, List.getElem?_cons_succ] at t4
     have t5 := blk_cell HX.out.tx 5; have u5 := blk_frozen HX.out.tx 5; simp only [List.getElem?_toArray, List.getElem?_cons_zero, List.getElem?_cons_succ] at t5
     have t6 := blk_cell HX.out.tx 6; have u6 := blk_frozen HX.out.tx 6; simp only [List.getElem?_toArray, List.getElem?_cons_zero, List.getElem?_cons_succ] at t6
     have t7 := blk_cell HX.out.tx 7; have u7 := blk_frozen HX.out.tx 7; simp only [List.getElem?_toArray, List.getElem?_cons_zero, List.getElem?_cons_succ] at t7
     have t8 := blk_cell HX.out.tx 8; have u8 := blk_frozen HX.out.tx 8; simp only [List.getElem?_toArray, List.getElem?_cons_zero, List.getElem?_cons_succ] at t8
     clear hr)
  | (go_at_call 52
     refine (int_ok' (w.heap.size + 1 + 1) s3 s4 am k4 _ E4.out R4.out ((HX.out.set1 (.string f)).set2 (.string t)).rd).mono ?_
     rintro e w2 ⟨rfl, hr⟩
     have HX := Lib.hid (((HX.out.set1 (.string f)).set2 (.string t)).read hr)
     have t0 := blk_cell HX.out.tx 0; have u0 := blk_frozen HX.out.tx 0; simp only [List.getElem?_toArray, List.getElem?_cons_zero, List.getElem?_cons_succ] at t0
     have t1 := blk_cell HX.out.tx 1; have u1 := blk_frozen HX.out.tx 1; simp only [List.getElem?_toArray, List.getElem?_cons_zero, List.getElem?_cons_succ] at t1
     have t2 := blk_cell HX.out.tx 2; have u2 := blk_frozen HX.out.tx 2; simp only [List.getElem?_toArray, List.getElem?_cons_zero, List.getElem?_cons_succ] at t2
     have t3 := blk_cell HX.out.tx 3; have u3 := blk_frozen HX.out.tx 3; simp only [List.getElem?_toArray, List.getElem?_cons_zero, List.getElem?_cons_succ] at t3
     have t4 := blk_cell HX.out.tx 4; have u4 := blk_frozen HX.out.tx 4; simp only [List.getElem?_toArray, List.getElem?_cons_zero, List.getElem?_cons_succ] at t4
     have t5 := blk_cell HX.out.tx 5; have u5 := blk_frozen HX.out.tx 5; simp only [List.getElem?_toArray, List.getElem?_cons_zero, List.getElem?_cons_succ] at t5
     have t6 := blk_cell HX.out.tx 6; have u6 := blk_frozen HX.out.tx 6; simp only [List.getElem?_toArray, List.getElem?_cons_zero, List.getElem?_cons_succ] at t6
     have t7 := blk_cell HX.out.tx 7; have u7 := blk_frozen HX.out.tx 7; simp only [List.getElem?_toArray, List.getElem?_cons_zero, List.getElem?_cons_succ] at t7
     have t8 := blk_cell HX.out.tx 8; have u8 := blk_frozen HX.out.tx 8; simp only [List.getElem?_toArray, List.getElem?_cons_zero, List.getElem?_cons_succ] at t8
     clear hr)
  | (go_at_call 52
     refine (int_ok' (w.heap.size + 1 + 1) s4 s5 nc k5 _ E5.out R5.out HX.out.rd).mono ?_
     rintro e w2 ⟨rfl, hr⟩
     have HX := Lib.hid (HX.out.read hr)
     have t0 := blk_cell HX.out.tx 0; have u0 := blk_frozen HX.out.tx 0; simp only [List.getElem?_toArray, List.getElem?_cons_zero, List.getElem?_cons_succ] at t0
     have t1 := blk_cell HX.out.tx 1; have u1 := blk_frozen HX.out.tx 1; simp only [List.getElem?_toArray, List.getElem?_cons_zero, List.getElem?_cons_succ] at t1
     have t2 := blk_cell HX.out.tx 2; have u2 := blk_frozen HX.out.tx 2; simp only [List.getElem?_toArray, List.getElem?_cons_zero, List.getElem?_cons_succ] at t2
     have t3 := blk_cell HX.out.tx 3; have u3 := blk_frozen HX.out.tx 3; simp only [List.getElem?_toArray, List.getElem?_cons_zero, List.getElem?_cons_succ] at t3
     have t4 := blk_cell HX.out.tx 4; have u4 := blk_frozen HX.out.tx 4; simp only [List.getElem?_toArray, List.getElem?_cons_zero, List.getElem?_cons_succ] at t4
     have t5 := blk_cell HX.out.tx 5; have u5 := blk_frozen HX.out.tx 5; simp only [List.getElem?_toArray, List.getElem?_cons_zero, List.getElem?_cons_succ] at t5
     have t6 := blk_cell HX.out.tx 6; have u6 := blk_frozen HX.out.tx 6; simp only [List.getElem?_toArray, List.getElem?_cons_zero, List.getElem?_cons_succ] at t6
     have t7 := blk_cell HX.out.tx 7; have u7 := blk_frozen HX.out.tx 7; simp only [List.getElem?_toArray, List.getElem?_cons_zero, List.getElem?_cons_succ] at t7
     have t8 := blk_cell HX.out.tx 8; have u8 := blk_frozen HX.out.tx 8; simp only [List.getElem?_toArray, List.getElem?_cons_zero, List.getElem?_cons_succ] at t8
     clear hr)
  | (go_at_call 53
     refine (text_ok' (w.heap.size + 1 + 1) s5 s6 ky' k6 _ Z5.out E6.out R6.out ((HX.out.set3 (.int .u64 am)).set4 (.int .u64 nc)).rd).mono ?_
     rintro e w2 ⟨rfl, hr⟩
     have HX := Lib.hid (((HX.out.set3 (.int .u64 am)).set4 (.int .u64 nc)).read hr)
     have t0 := blk_cell HX.out.tx 0; have u0 := blk_frozen HX.out.tx 0; simp only [List.getElem?_toArray, List.getElem?_cons_zero, List.getElem?_cons_succ] at t0
     have t1 := blk_cell HX.out.tx 1; have u1 := blk_frozen HX.out.tx 1; simp only [List.getElem?_toArray, List.getElem?_cons_zero, List.getElem?_cons_succ] at t1
     have t2 := blk_cell HX.out.tx 2; have u2 := blk_frozen HX.out.tx 2; simp only [List.getElem?_toArray, List.getElem?_cons_zero, List.getElem?_cons_succ] at t2
     have t3 := blk_cell HX.out.tx 3; have u3 := blk_frozen HX.out.tx 3; simp only [List.getElem?_toArray, List.getElem?_cons_zero, List.getElem?_cons_succ] at t3
     have t4 := blk_cell HX.out.tx 4; have u4 := blk_frozen HX.out.tx 4; simp only [List.getElem?_toArray, List.getElem?_cons_zero, List.getElem?_cons_succ] at t4
     have t5 := blk_cell HX.out.tx 5; have u5 := blk_frozen HX.out.tx 5; simp only [List.getElem?_toArray, List.getElem?_cons_zero, List.getElem?_cons_succ] at t5
     have t6 := blk_cell HX.out.tx 6; have u6 := blk_frozen HX.out.tx 6; simp only [List.getElem?_toArray, List.getElem?_cons_zero, List.getElem?_cons_succ] at t6
     have t7 := blk_cell HX.out.tx 7; have u7 := blk_frozen HX.out.tx 7; simp only [List.getElem?_toArray, List.getElem?_cons_zero, List.getElem?_cons_succ] at t7
     have t8 := blk_cell HX.out.tx 8; have u8 := blk_frozen HX.out.tx 8; simp only [List.getElem?_toArray, List.getElem?_cons_zero, List.getElem?_cons_succ] at t8
     clear hr)
  | (go_at_call 53
     refine (text_ok' (w.heap.size + 1 + 1) s6 s7 vl k7 _ Z6.out E7.out R7.out HX.out.rd).mono ?_
     rintro e w2 ⟨rfl, hr⟩
     have HX := Lib.hid (HX.out.read hr)
     have t0 := blk_cell HX.out.tx 0; have u0 := blk_frozen HX.out.tx 0; simp only [List.getElem?_toArray, List.getElem?_cons_zero, List.getElem?_cons_succ] at t0
     have t1 := blk_cell HX.out.tx 1; have u1 := blk_frozen HX.out.tx 1; simp only [List.getElem?_toArray, List.getElem?_cons_zero, List.getElem?_cons_succ] at t1
     have t2 := blk_cell HX.out.tx 2; have u2 := blk_frozen HX.out.tx 2; simp only [List.getElem?_toArray, List.getElem?_cons_zero, List.getElem?_cons_succ] at t2
     have t3 := blk_cell HX.out.tx 3; have u3 := blk_frozen HX.out.tx 3; simp only [List.getElem?_toArray, List.getElem?_cons_zero, List.getElem?_cons_succ] at t3
     have t4 := blk_cell HX.out.tx 4; have u4 := blk_frozen HX.out.tx 4; simp only [List.getElem?_toArray, List.getElem?_cons_zero, List.getElem?_cons_succ] at t4
     have t5 := blk_cell HX.out.tx 5; have u5 := blk_frozen HX.out.tx 5; simp only [List.getElem?_toArray, List.getElem?_cons_zero, List.getElem?_cons_succ] at t5
     have t6 := blk_cell HX.out.tx 6; have u6 := blk_frozen HX.out.tx 6; simp only [List.getElem?_toArray, List.getElem?_cons_zero, List.getElem?_cons_succ] at t6
     have t7 := blk_cell HX.out.tx 7; have u7 := blk_frozen HX.out.tx 7; simp only [List.getElem?_toArray, List.getElem?_cons_zero, List.getElem?_cons_succ] at t7
     have t8 := blk_cell HX.out.tx 8; have u8 := blk_frozen HX.out.tx 8; simp only [List.getElem?_toArray, List.getElem?_cons_zero, List.getElem?_cons_succ] at t8
     clear hr)
  | (go_at_call 54
     refine (list_ok' (w.heap.size + 1 + 1) s7 s8 rs k8 _ Z7.out E8.out R8.out ((HX.out.set5 (.string ky')).set6 (.string vl)).rd).mono ?_
     rintro e w2 ⟨v7, rfl, hR7, hr⟩
     obtain ⟨A7, c7, rfl, hc7, hC7⟩ := Kd.R_reads hR7
     have HC7 := Lib.hid hc7
     clear hc7 hC7
     have HR7 := Lib.hid hR7
     have HB7 := Lib.hid (((HX.out.set5 (.string ky')).set6 (.string vl)).low.size)
     have HX := Lib.hid (((HX.out.set5 (.string ky')).set6 (.string vl)).read hr)
     have t0 := blk_cell HX.out.tx 0; have u0 := blk_frozen HX.out.tx 0; simp only [List.getElem?_toArray, List.getElem?_cons_zero, List.getElem?_cons_succ] at t0
     have t1 := blk_cell HX.out.tx 1; have u1 := blk_frozen HX.out.tx 1; simp only [List.getElem?_toArray, List.getElem?_cons_zero, List.getElem?_cons_succ] at t1
     have t2 := blk_cell HX.out.tx 2; have u2 := blk_frozen HX.out.tx 2; simp only [List.getElem?_toArray, List.getElem?_cons_zero, List.getElem?_cons_succ] at t2
     have t3 := blk_cell HX.out.tx 3; have u3 := blk_frozen HX.out.tx 3; simp only [List.getElem?_toArray, List.getElem?_cons_zero, List.getElem?_cons_succ] at t3
     have t4 := blk_cell HX.out.tx 4; have u4 := blk_frozen HX.out.tx 4; simp only [List.getElem?_toArray, List.getElem?_cons_zero, List.getElem?_cons_succ] at t4
     have t5 := blk_cell HX.out.tx 5; have u5 := blk_frozen HX.out.tx 5; simp only [List.getElem?_toArray, List.getElem?_cons_zero, List.getElem?_cons_succ] at t5
     have t6 := blk_cell HX.out.tx 6; have u6 := blk_frozen HX.out.tx 6; simp only [List.getElem?_toArray, List.getElem?_cons_zero, List.getElem?_cons_succ] at t6
     have t7 := blk_cell HX.out.tx 7; have u7 := blk_frozen HX.out.tx 7; simp only [List.getElem?_toArray, List.getElem?_cons_zero, List.getElem?_cons_succ] at t7
     have t8 := blk_cell HX.out.tx 8; have u8 := blk_frozen HX.out.tx 8; simp only [List.getElem?_toArray, List.getElem?_cons_zero, List.getElem?_cons_succ] at t8
     clear hr hR7)
  | (go_at_call 54
     refine (list_ok' (w.heap.size + 1 + 1) s8 s9 ws k9 _ Z8.out E9.out R9.out HX.out.rd).mono ?_
     rintro e w2 ⟨v8, rfl, hR8, hr⟩
     have HR7 := Lib.hid (hr.row HR7.out)
     obtain ⟨A8, c8, rfl, hc8, hC8⟩ := Kd.R_reads hR8
     have HC8 := Lib.hid hc8
     clear hc8 hC8
     have HR8 := Lib.hid hR8
     have HB8 := Lib.hid (HX.out.low.size)
     have HX := Lib.hid (HX.out.read hr)
     have t0 := blk_cell HX.out.tx 0; have u0 := blk_frozen HX.out.tx 0; simp only [List.getElem?_toArray, List.getElem?_cons_zero, List.getElem?_cons_succ] at t0
     have t1 := blk_cell HX.out.tx 1; have u1 := blk_frozen HX.out.tx 1; simp only [List.getElem?_toArray, List.getElem?_cons_zero, List.getElem?_cons_succ] at t1
     have t2 := blk_cell HX.out.tx 2; have u2 := blk_frozen HX.out.tx 2; simp only [List.getElem?_toArray, List.getElem?_cons_zero, List.getElem?_cons_succ] at t2
     have t3 := blk_cell HX.out.tx 3; have u3 := blk_frozen HX.out.tx 3; simp only [List.getElem?_toArray, List.getElem?_cons_zero, List.getElem?_cons_succ] at t3
     have t4 := blk_cell HX.out.tx 4; have u4 := blk_frozen HX.out.tx 4; simp only [List.getElem?_toArray, List.getElem?_cons_zero, List.getElem?_cons_succ] at t4
     have t5 := blk_cell HX.out.tx 5; have u5 := blk_frozen HX.out.tx 5; simp only [List.getElem?_toArray, List.getElem?_cons_zero, List.getElem?_cons_succ] at t5
     have t6 := blk_cell HX.out.tx 6; have u6 := blk_frozen HX.out.tx 6; simp only [List.getElem?_toArray, List.getElem?_cons_zero, List.getElem?_cons_succ] at t6
     have t7 := blk_cell HX.out.tx 7; have u7 := blk_frozen HX.out.tx 7; simp only [List.getElem?_toArray, List.getElem?_cons_zero, List.getElem?_cons_succ] at t7
     have t8 := blk_cell HX.out.tx 8; have u8 := blk_frozen HX.out.tx 8; simp only [List.getElem?_toArray, List.getElem?_cons_zero, List.getElem?_cons_succ] at t8
     clear hr hR8))
  have HX := Lib.hid ((HX.out.set7 (.slice A7 rs.length c7)).set8 (.slice A8 ws.length c8))
  go_wp2_with (first | (go_at_call 55; first | (with_reducible refine (check_ok _ _).mono ?_; rintro e w'' ⟨rfl, hw⟩; have hw := hw.symm; subst hw) | (with_reducible refine (check_no _ _).mono ?_; rintro e w'' ⟨rfl, hw⟩; have hw := hw.symm; subst hw)))
  refine leaves_cons (f := 51) (args := #[.pointer (some ⟨w.heap.size + 1, 0, none⟩)]) (by simp) (by simp [go_sem]) ?_
  refine (caught_panicking ⟨w.heap.size + 1, 0, none⟩ 0 2 [] _ (blk_cell HX.out.er 0) (blk_frozen HX.out.er 0)).mono ?_
  rintro e u' w'' ⟨rfl, rfl, rfl⟩
  refine leaves_cons (f := 50) (args := #[.pointer (some ⟨w.heap.size + 1, 0, none⟩), .pointer (some ⟨w.heap.size, 0, none⟩)]) (by simp [settle]) (by simp [go_sem]) ?_
  have hdied := HX.out.died 2
  refine (undo_yes (w.heap.size + 1) w.heap.size 2 (by decide) _ _ _ _ _ _ _ _ _ _ hdied.1 hdied.2.1).mono ?_
  rintro e u' w'' ⟨rfl, rfl, rfl⟩
  have hz := zset_box _ w.heap.size _ _ _ _ _ _ _ _ _ hdied.2.1
  have hze := (zset_blk _ w.heap.size (w.heap.size + 1) (by omega)).trans hdied.1
  have hzb := zset_below hdied.2.2 (Nat.le_refl _)
  generalize zset _ w.heap.size = Z at hz hze hzb ⊢
  have d0 : Z.cell? ⟨w.heap.size, 0, none⟩ = some (.int .i64 0) := blk_cell hz 0
  have d1 : Z.cell? ⟨w.heap.size, 1, none⟩ = some (.string ⟨#[]⟩) := blk_cell hz 1
  have d2 : Z.cell? ⟨w.heap.size, 2, none⟩ = some (.string ⟨#[]⟩) := blk_cell hz 2
  have d3 : Z.cell? ⟨w.heap.size, 3, none⟩ = some (.int .u64 0) := blk_cell hz 3
  have d4 : Z.cell? ⟨w.heap.size, 4, none⟩ = some (.int .u64 0) := blk_cell hz 4
  have d5 : Z.cell? ⟨w.heap.size, 5, none⟩ = some (.string ⟨#[]⟩) := blk_cell hz 5
  have d6 : Z.cell? ⟨w.heap.size, 6, none⟩ = some (.string ⟨#[]⟩) := blk_cell hz 6
  have d7 : Z.cell? ⟨w.heap.size, 7, none⟩ = some (.slice none 0 0) := blk_cell hz 7
  have d8 : Z.cell? ⟨w.heap.size, 8, none⟩ = some (.slice none 0 0) := blk_cell hz 8
  have de : Z.cell? ⟨w.heap.size + 1, 0, none⟩ = some (.int .i64 (2)) := blk_cell hze 0
  clear hz hze hdied
  have HZ := Lib.hid hzb
  clear hzb
  simp [Leaves, settle, results, Tryd.results25, go_sem, d0, d1, d2, d3, d4, d5, d6, d7, d8, de]
  exact ⟨rfl, HZ.out⟩
set_option maxHeartbeats 8000000 in
set_option maxRecDepth 100000 in
theorem dec_more (s s1 s2 s3 s4 s5 s6 s7 s8 s9 : ByteArray) (kd : Int) (k1 : Int) (f : ByteArray) (k2 : Int) (t : ByteArray) (k3 : Int) (am : Int) (k4 : Int) (nc : Int) (k5 : Int) (ky' : ByteArray) (k6 : Int) (vl : ByteArray) (k7 : Int) (rs : List ByteArray) (k8 : Int) (ws : List ByteArray) (k9 : Int) (w : World) (E1 : Hid (gi s 9 0 0 = (kd, k1, 0))) (R1 : Hid (rest s k1 = s1)) (Z1 : Hid (s1.size < 4611686018427387904)) (E2 : Hid (gt s1 = (f, k2, 0))) (R2 : Hid (rest s1 k2 = s2)) (Z2 : Hid (s2.size < 4611686018427387904)) (E3 : Hid (gt s2 = (t, k3, 0))) (R3 : Hid (rest s2 k3 = s3)) (Z3 : Hid (s3.size < 4611686018427387904)) (E4 : Hid (gi s3 9 0 0 = (am, k4, 0))) (R4 : Hid (rest s3 k4 = s4)) (Z4 : Hid (s4.size < 4611686018427387904)) (E5 : Hid (gi s4 9 0 0 = (nc, k5, 0))) (R5 : Hid (rest s4 k5 = s5)) (Z5 : Hid (s5.size < 4611686018427387904)) (E6 : Hid (gt s5 = (ky', k6, 0))) (R6 : Hid (rest s5 k6 = s6)) (Z6 : Hid (s6.size < 4611686018427387904)) (E7 : Hid (gt s6 = (vl, k7, 0))) (R7 : Hid (rest s6 k7 = s7)) (Z7 : Hid (s7.size < 4611686018427387904)) (E8 : Hid (gl s7 8 = (rs, k8, 0))) (R8 : Hid (rest s7 k8 = s8)) (Z8 : Hid (s8.size < 4611686018427387904)) (E9 : Hid (gl s8 8 = (ws, k9, 0))) (R9 : Hid (rest s8 k9 = s9)) (Z9 : Hid (s9.size < 4611686018427387904)) (hk : kd ≤ 2) (h9 : s9.toList.isEmpty = false) :
    Calls Tryd.prog 25 #[.string s] w fun e w' => e = .returned (.tuple #[zagg, .int .i64 6]) ∧ Below w.heap.size w w' := by
  have d1 : decide (kd ≤ 2) = true := decide_eq_true hk
  clear hk
  have hmf : ∀ (fn : Fn) (first cap : Array Value) (w : World), (Instr.makeFunc fn first cap).run Tryd.prog w = .ok (.func fn first cap) w := fun _ _ _ _ => rfl
  go_enter_defers Tryd.func25, Tryd.ntmps25
  have HX := Lib.hid (Dx.first w s)
  go_upto_region 9 with (first
  | (go_at_call 52
     refine (int_ok' (w.heap.size + 1 + 1) s s1 kd k1 _ E1.out R1.out HX.out.rd).mono ?_
     rintro e w2 ⟨rfl, hr⟩
     have HX := Lib.hid (HX.out.read hr)
     have t0 := blk_cell HX.out.tx 0; have u0 := blk_frozen HX.out.tx 0; simp only [List.getElem?_toArray, List.getElem?_cons_zero, List.getElem?_cons_succ] at t0
     have t1 := blk_cell HX.out.tx 1; have u1 := blk_frozen HX.out.tx 1; simp only [List.getElem?_toArray, List.getElem?_cons_zero, List.getElem?_cons_succ] at t1
     have t2 := blk_cell HX.out.tx 2; have u2 := blk_frozen HX.out.tx 2; simp only [List.getElem?_toArray, List.getElem?_cons_zero, List.getElem?_cons_succ] at t2
     have t3 := blk_cell HX.out.tx 3; have u3 := blk_frozen HX.out.tx 3; simp only [List.getElem?_toArray, List.getElem?_cons_zero, List.getElem?_cons_succ] at t3
     have t4 := blk_cell HX.out.tx 4; have u4 := blk_frozen HX.out.tx 4; simp only [List.getElem?_toArray, List.getElem?_cons_zero, List.getElem?_cons_succ] at t4
     have t5 := blk_cell HX.out.tx 5; have u5 := blk_frozen HX.out.tx 5; simp only [List.getElem?_toArray, List.getElem?_cons_zero, List.getElem?_cons_succ] at t5
     have t6 := blk_cell HX.out.tx 6; have u6 := blk_frozen HX.out.tx 6; simp only [List.getElem?_toArray, List.getElem?_cons_zero, List.getElem?_cons_succ] at t6
     have t7 := blk_cell HX.out.tx 7; have u7 := blk_frozen HX.out.tx 7; simp only [List.getElem?_toArray, List.getElem?_cons_zero, List.getElem?_cons_succ] at t7
     have t8 := blk_cell HX.out.tx 8; have u8 := blk_frozen HX.out.tx 8; simp only [List.getElem?_toArray, List.getElem?_cons_zero, List.getElem?_cons_succ] at t8
     clear hr)
  | (go_at_call 53
     refine (text_ok' (w.heap.size + 1 + 1) s1 s2 f k2 _ Z1.out E2.out R2.out HX.out.rd).mono ?_
     rintro e w2 ⟨rfl, hr⟩
     have HX := Lib.hid (HX.out.read hr)
     have t0 := blk_cell HX.out.tx 0; have u0 := blk_frozen HX.out.tx 0; simp only [List.getElem?_toArray, List.getElem?_cons_zero, List.getElem?_cons_succ] at t0
     have t1 := blk_cell HX.out.tx 1; have u1 := blk_frozen HX.out.tx 1; simp only [List.getElem?_toArray, List.getElem?_cons_zero, List.getElem?_cons_succ] at t1
     have t2 := blk_cell HX.out.tx 2; have u2 := blk_frozen HX.out.tx 2; simp only [List.getElem?_toArray, List.getElem?_cons_zero, List.getElem?_cons_succ] at t2
     have t3 := blk_cell HX.out.tx 3; have u3 := blk_frozen HX.out.tx 3; simp only [List.getElem?_toArray, List.getElem?_cons_zero, List.getElem?_cons_succ] at t3
     have t4 := blk_cell HX.out.tx 4; have u4 := blk_frozen HX.out.tx 4; simp only [List.getElem?_toArray, List.getElem?_cons_zero, List.getElem?_cons_succ] at t4
     have t5 := blk_cell HX.out.tx 5; have u5 := blk_frozen HX.out.tx 5; simp only [List.getElem?_toArray, List.getElem?_cons_zero, List.getElem?_cons_succ] at t5
     have t6 := blk_cell HX.out.tx 6; have u6 := blk_frozen HX.out.tx 6; simp only [List.getElem?_toArray, List.getElem?_cons_zero, List.getElem?_cons_succ] at t6
     have t7 := blk_cell HX.out.tx 7; have u7 := blk_frozen HX.out.tx 7; simp only [List.getElem?_toArray, List.getElem?_cons_zero, List.getElem?_cons_succ] at t7
     have t8 := blk_cell HX.out.tx 8; have u8 := blk_frozen HX.out.tx 8; simp only [List.getElem?_toArray, List.getElem?_cons_zero, List.getElem?_cons_succ] at t8
     clear hr)
  | (go_at_call 53
     refine (text_ok' (w.heap.size + 1 + 1) s2 s3 t k3 _ Z2.out E3.out R3.out HX.out.rd).mono ?_
     rintro e w2 ⟨rfl, hr⟩
     have HX := Lib.hid (HX.out.read hr)
     have t0 := blk_cell HX.out.tx 0; have u0 := blk_frozen HX.out.tx 0; simp only [List.getElem?_toArray, List.getElem?_cons_zero, List.getElem?_cons_succ] at t0
     have t1 := blk_cell HX.out.tx 1; have u1 := blk_frozen HX.out.tx 1; simp only [List.getElem?_toArray, List.getElem?_cons_zero, List.getElem?_cons_succ] at t1
     have t2 := blk_cell HX.out.tx 2; have u2 := blk_frozen HX.out.tx 2; simp only [List.getElem?_toArray, List.getElem?_cons_zero, List.getElem?_cons_succ] at t2
     have t3 := blk_cell HX.out.tx 3; have u3 := blk_frozen HX.out.tx 3; simp only [List.getElem?_toArray, List.getElem?_cons_zero, List.getElem?_cons_succ] at t3
     have t4 := blk_cell HX.out.tx 4; have u4 := blk_frozen HX.out.tx 4; simp only [List.getElem?_toArray, List.getElem?_cons_zero, List.getElem?_cons_succ] at t4
     have t5 := blk_cell HX.out.tx 5; have u5 := blk_frozen HX.out.tx 5; simp only [List.getElem?_toArray, List.getElem?_cons_zero, List.getElem?_cons_succ] at t5
     have t6 := blk_cell HX.out.tx 6; have u6 := blk_frozen HX.out.tx 6; simp only [List.getElem?_toArray, List.getElem?_cons_zero, List.getElem?_cons_succ] at t6
     have t7 := blk_cell HX.out.tx 7; have u7 := blk_frozen HX.out.tx 7; simp only [List.getElem?_toArray, List.getElem?_cons_zero, List.getElem?_cons_succ] at t7
     have t8 := blk_cell HX.out.tx 8; have u8 := blk_frozen HX.out.tx 8; simp only [List.getElem?_toArray, List.getElem?_cons_zero, List.getElem?_cons_succ] at t8
     clear hr)
  | (go_at_call 52
     refine (int_ok' (w.heap.size + 1 + 1) s3 s4 am k4 _ E4.out R4.out ((HX.out.set1 (.string f)).set2 (.string t)).rd).mono ?_
     rintro e w2 ⟨rfl, hr⟩
     have HX := Lib.hid (((HX.out.set1 (.string f)).set2 (.string t)).read hr)
     have t0 := blk_cell HX.out.tx 0; have u0 := blk_frozen HX.out.tx 0; simp only [List.getElem?_toArray, List.getElem?_cons_zero, List.getElem?_cons_succ] at t0
     have t1 := blk_cell HX.out.tx 1; have u1 := blk_frozen HX.out.tx 1; simp only [List.getElem?_toArray, List.getElem?_cons_zero, List.getElem?_cons_succ] at t1
     have t2 := blk_cell HX.out.tx 2; have u2 := blk_frozen HX.out.tx 2; simp only [List.getElem?_toArray, List.getElem?_cons_zero, List.getElem?_cons_succ] at t2
     have t3 := blk_cell HX.out.tx 3; have u3 := blk_frozen HX.out.tx 3; simp only [List.getElem?_toArray, List.getElem?_cons_zero, List.getElem?_cons_succ] at t3
     have t4 := blk_cell HX.out.tx 4; have u4 := blk_frozen HX.out.tx 4; simp only [List.getElem?_toArray, List.getElem?_cons_zero, List.getElem?_cons_succ] at t4
     have t5 := blk_cell HX.out.tx 5; have u5 := blk_frozen HX.out.tx 5; simp only [List.getElem?_toArray, List.getElem?_cons_zero, List.getElem?_cons_succ] at t5
     have t6 := blk_cell HX.out.tx 6; have u6 := blk_frozen HX.out.tx 6; simp only [List.getElem?_toArray, List.getElem?_cons_zero, List.getElem?_cons_succ] at t6
     have t7 := blk_cell HX.out.tx 7; have u7 := blk_frozen HX.out.tx 7; simp only [List.getElem?_toArray, List.getElem?_cons_zero, List.getElem?_cons_succ] at t7
     have t8 := blk_cell HX.out.tx 8; have u8 := blk_frozen HX.out.tx 8; simp only [List.getElem?_toArray, List.getElem?_cons_zero, List.getElem?_cons_succ] at t8
     clear hr)
  | (go_at_call 52
     refine (int_ok' (w.heap.size + 1 + 1) s4 s5 nc k5 _ E5.out R5.out HX.out.rd).mono ?_
     rintro e w2 ⟨rfl, hr⟩
     have HX := Lib.hid (HX.out.read hr)
     have t0 := blk_cell HX.out.tx 0; have u0 := blk_frozen HX.out.tx 0; simp only [List.getElem?_toArray, List.getElem?_cons_zero, List.getElem?_cons_succ] at t0
     have t1 := blk_cell HX.out.tx 1; have u1 := blk_frozen HX.out.tx 1; simp only [List.getElem?_toArray, List.getElem?_cons_zero, List.getElem?_cons_succ] at t1
     have t2 := blk_cell HX.out.tx 2; have u2 := blk_frozen HX.out.tx 2; simp only [List.getElem?_toArray, List.getElem?_cons_zero, List.getElem?_cons_succ] at t2
     have t3 := blk_cell HX.out.tx 3; have u3 := blk_frozen HX.out.tx 3; simp only [List.getElem?_toArray, List.getElem?_cons_zero, List.getElem?_cons_succ] at t3
     have t4 := blk_cell HX.out.tx 4; have u4 := blk_frozen HX.out.tx 4; simp only [List.getElem?_toArray, List.getElem?_cons_zero, List.getElem?_cons_succ] at t4
     have t5 := blk_cell HX.out.tx 5; have u5 := blk_frozen HX.out.tx 5; simp only [List.getElem?_toArray, List.getElem?_cons_zero, List.getElem?_cons_succ] at t5
     have t6 := blk_cell HX.out.tx 6; have u6 := blk_frozen HX.out.tx 6; simp only [List.getElem?_toArray, List.getElem?_cons_zero, List.getElem?_cons_succ] at t6
     have t7 := blk_cell HX.out.tx 7; have u7 := blk_frozen HX.out.tx 7; simp only [List.getElem?_toArray, List.getElem?_cons_zero, List.getElem?_cons_succ] at t7
     have t8 := blk_cell HX.out.tx 8; have u8 := blk_frozen HX.out.tx 8; simp only [List.getElem?_toArray, List.getElem?_cons_zero, List.getElem?_cons_succ] at t8
     clear hr)
  | (go_at_call 53
     refine (text_ok' (w.heap.size + 1 + 1) s5 s6 ky' k6 _ Z5.out E6.out R6.out ((HX.out.set3 (.int .u64 am)).set4 (.int .u64 nc)).rd).mono ?_
     rintro e w2 ⟨rfl, hr⟩
     have HX := Lib.hid (((HX.out.set3 (.int .u64 am)).set4 (.int .u64 nc)).read hr)
     have t0 := blk_cell HX.out.tx 0; have u0 := blk_frozen HX.out.tx 0; simp only [List.getElem?_toArray, List.getElem?_cons_zero, List.getElem?_cons_succ] at t0
     have t1 := blk_cell HX.out.tx 1; have u1 := blk_frozen HX.out.tx 1; simp only [List.getElem?_toArray, List.getElem?_cons_zero, List.getElem?_cons_succ] at t1
     have t2 := blk_cell HX.out.tx 2; have u2 := blk_frozen HX.out.tx 2; simp only [List.getElem?_toArray, List.getElem?_cons_zero, List.getElem?_cons_succ] at t2
     have t3 := blk_cell HX.out.tx 3; have u3 := blk_frozen HX.out.tx 3; simp only [List.getElem?_toArray, List.getElem?_cons_zero, List.getElem?_cons_succ] at t3
     have t4 := blk_cell HX.out.tx 4; have u4 := blk_frozen HX.out.tx 4; simp only [List.getElem?_toArray, List.getElem?_cons_zero, List.getElem?_cons_succ] at t4
     have t5 := blk_cell HX.out.tx 5; have u5 := blk_frozen HX.out.tx 5; simp only [List.getElem?_toArray, List.getElem?_cons_zero, List.getElem?_cons_succ] at t5
     have t6 := blk_cell HX.out.tx 6; have u6 := blk_frozen HX.out.tx 6; simp only [List.getElem?_toArray, List.getElem?_cons_zero, List.getElem?_cons_succ] at t6
     have t7 := blk_cell HX.out.tx 7; have u7 := blk_frozen HX.out.tx 7; simp only [List.getElem?_toArray, List.getElem?_cons_zero, List.getElem?_cons_succ] at t7
     have t8 := blk_cell HX.out.tx 8; have u8 := blk_frozen HX.out.tx 8; simp only [List.getElem?_toArray, List.getElem?_cons_zero, List.getElem?_cons_succ] at t8
     clear hr)
  | (go_at_call 53
     refine (text_ok' (w.heap.size + 1 + 1) s6 s7 vl k7 _ Z6.out E7.out R7.out HX.out.rd).mono ?_
     rintro e w2 ⟨rfl, hr⟩
     have HX := Lib.hid (HX.out.read hr)
     have t0 := blk_cell HX.out.tx 0; have u0 := blk_frozen HX.out.tx 0; simp only [List.getElem?_toArray, List.getElem?_cons_zero, List.getElem?_cons_succ] at t0
     have t1 := blk_cell HX.out.tx 1; have u1 := blk_frozen HX.out.tx 1; simp only [List.getElem?_toArray, List.getElem?_cons_zero, List.getElem?_cons_succ] at t1
     have t2 := blk_cell HX.out.tx 2; have u2 := blk_frozen HX.out.tx 2; simp only [List.getElem?_toArray, List.getElem?_cons_zero, List.getElem?_cons_succ] at t2
     have t3 := blk_cell HX.out.tx 3; have u3 := blk_frozen HX.out.tx 3; simp only [List.getElem?_toArray, List.getElem?_cons_zero, List.getElem?_cons_succ] at t3
     have t4 := blk_cell HX.out.tx 4; have u4 := blk_frozen HX.out.tx 4; simp only [List.getElem?_toArray, List.getElem?_cons_zero, List.getElem?_cons_succ] at t4
     have t5 := blk_cell HX.out.tx 5; have u5 := blk_frozen HX.out.tx 5; simp only [List.getElem?_toArray, List.getElem?_cons_zero, List.getElem?_cons_succ] at t5
     have t6 := blk_cell HX.out.tx 6; have u6 := blk_frozen HX.out.tx 6; simp only [List.getElem?_toArray, List.getElem?_cons_zero, List.getElem?_cons_succ] at t6
     have t7 := blk_cell HX.out.tx 7; have u7 := blk_frozen HX.out.tx 7; simp only [List.getElem?_toArray, List.getElem?_cons_zero, List.getElem?_cons_succ] at t7
     have t8 := blk_cell HX.out.tx 8; have u8 := blk_frozen HX.out.tx 8; simp only [List.getElem?_toArray, List.getElem?_cons_zero, List.getElem?_cons_succ] at t8
     clear hr)
  | (go_at_call 54
     refine (list_ok' (w.heap.size + 1 + 1) s7 s8 rs k8 _ Z7.out E8.out R8.out ((HX.out.set5 (.string ky')).set6 (.string vl)).rd).mono ?_
     rintro e w2 ⟨v7, rfl, hR7, hr⟩
     obtain ⟨A7, c7, rfl, hc7, hC7⟩ := Kd.R_reads hR7
     have HC7 := Lib.hid hc7
     clear hc7 hC7
     have HR7 := Lib.hid hR7
     have HB7 := Lib.hid (((HX.out.set5 (.string ky')).set6 (.string vl)).low.size)
     have HX := Lib.hid (((HX.out.set5 (.string ky')).set6 (.string vl)).read hr)
     have t0 := blk_cell HX.out.tx 0; have u0 := blk_frozen HX.out.tx 0; simp only [List.getElem?_toArray, List.getElem?_cons_zero, List.getElem?_cons_succ] at t0
     have t1 := blk_cell HX.out.tx 1; have u1 := blk_frozen HX.out.tx 1; simp only [List.getElem?_toArray, List.getElem?_cons_zero, List.getElem?_cons_succ] at t1
     have t2 := blk_cell HX.out.tx 2; have u2 := blk_frozen HX.out.tx 2; simp only [List.getElem?_toArray, List.getElem?_cons_zero, List.getElem?_cons_succ] at t2
     have t3 := blk_cell HX.out.tx 3; have u3 := blk_frozen HX.out.tx 3; simp only [List.getElem?_toArray, List.getElem?_cons_zero, List.getElem?_cons_succ] at t3
     have t4 := blk_cell HX.out.tx 4; have u4 := blk_frozen HX.out.tx 4; simp only [List.getElem?_toArray, List.getElem?_cons_zero, List.getElem?_cons_succ] at t4
     have t5 := blk_cell HX.out.tx 5; have u5 := blk_frozen HX.out.tx 5; simp only [List.getElem?_toArray, List.getElem?_cons_zero, List.getElem?_cons_succ] at t5
     have t6 := blk_cell HX.out.tx 6; have u6 := blk_frozen HX.out.tx 6; simp only [List.getElem?_toArray, List.getElem?_cons_zero, List.getElem?_cons_succ] at t6
     have t7 := blk_cell HX.out.tx 7; have u7 := blk_frozen HX.out.tx 7; simp only [List.getElem?_toArray, List.getElem?_cons_zero, List.getElem?_cons_succ] at t7
     have t8 := blk_cell HX.out.tx 8; have u8 := blk_frozen HX.out.tx 8; simp only [List.getElem?_toArray, List.getElem?_cons_zero, List.getElem?_cons_succ] at t8
     clear hr hR7)
  | (go_at_call 54
     refine (list_ok' (w.heap.size + 1 + 1) s8 s9 ws k9 _ Z8.out E9.out R9.out HX.out.rd).mono ?_
     rintro e w2 ⟨v8, rfl, hR8, hr⟩
     have HR7 := Lib.hid (hr.row HR7.out)
     obtain ⟨A8, c8, rfl, hc8, hC8⟩ := Kd.R_reads hR8
     have HC8 := Lib.hid hc8
     clear hc8 hC8
     have HR8 := Lib.hid hR8
     have HB8 := Lib.hid (HX.out.low.size)
     have HX := Lib.hid (HX.out.read hr)
     have t0 := blk_cell HX.out.tx 0; have u0 := blk_frozen HX.out.tx 0; simp only [List.getElem?_toArray, List.getElem?_cons_zero, List.getElem?_cons_succ] at t0
     have t1 := blk_cell HX.out.tx 1; have u1 := blk_frozen HX.out.tx 1; simp only [List.getElem?_toArray, List.getElem?_cons_zero, List.getElem?_cons_succ] at t1
     have t2 := blk_cell HX.out.tx 2; have u2 := blk_frozen HX.out.tx 2; simp only [List.getElem?_toArray, List.getElem?_cons_zero, List.getElem?_cons_succ] at t2
     have t3 := blk_cell HX.out.tx 3; have u3 := blk_frozen HX.out.tx 3; simp only [List.getElem?_toArray, List.getElem?_cons_zero, List.getElem?_cons_succ] at t3
     have t4 := blk_cell HX.out.tx 4; have u4 := blk_frozen HX.out.tx 4; simp only [List.getElem?_toArray, List.getElem?_cons_zero, List.getElem?_cons_succ] at t4
     have t5 := blk_cell HX.out.tx 5; have u5 := blk_frozen HX.out.tx 5; simp only [List.getElem?_toArray, List.getElem?_cons_zero, List.getElem?_cons_succ] at t5
     have t6 := blk_cell HX.out.tx 6; have u6 := blk_frozen HX.out.tx 6; simp only [List.getElem?_toArray, List.getElem?_cons_zero, List.getElem?_cons_succ] at t6
     have t7 := blk_cell HX.out.tx 7; have u7 := blk_frozen HX.out.tx 7; simp only [List.getElem?_toArray, List.getElem?_cons_zero, List.getElem?_cons_succ] at t7
     have t8 := blk_cell HX.out.tx 8; have u8 := blk_frozen HX.out.tx 8; simp only [List.getElem?_toArray, List.getElem?_cons_zero, List.getElem?_cons_succ] at t8
     clear hr hR8))
  have HX := Lib.hid ((HX.out.set7 (.slice A7 rs.length c7)).set8 (.slice A8 ws.length c8))
  have q9 : _ = some (Value.string s9) := blk_cell HX.out.rd 0
  go_wp2_with (first | (go_at_call 55; first | (with_reducible refine (check_ok _ _).mono ?_; rintro e w'' ⟨rfl, hw⟩; have hw := hw.symm; subst hw) | (with_reducible refine (check_no _ _).mono ?_; rintro e w'' ⟨rfl, hw⟩; have hw := hw.symm; subst hw)))
  refine leaves_cons (f := 51) (args := #[.pointer (some ⟨w.heap.size + 1, 0, none⟩)]) (by simp) (by simp [go_sem]) ?_
  refine (caught_panicking ⟨w.heap.size + 1, 0, none⟩ 0 6 [] _ (blk_cell HX.out.er 0) (blk_frozen HX.out.er 0)).mono ?_
  rintro e u' w'' ⟨rfl, rfl, rfl⟩
  refine leaves_cons (f := 50) (args := #[.pointer (some ⟨w.heap.size + 1, 0, none⟩), .pointer (some ⟨w.heap.size, 0, none⟩)]) (by simp [settle]) (by simp [go_sem]) ?_
  have hdied := HX.out.died 6
  refine (undo_yes (w.heap.size + 1) w.heap.size 6 (by decide) _ _ _ _ _ _ _ _ _ _ hdied.1 hdied.2.1).mono ?_
  rintro e u' w'' ⟨rfl, rfl, rfl⟩
  have hz := zset_box _ w.heap.size _ _ _ _ _ _ _ _ _ hdied.2.1
  have hze := (zset_blk _ w.heap.size (w.heap.size + 1) (by omega)).trans hdied.1
  have hzb := zset_below hdied.2.2 (Nat.le_refl _)
  generalize zset _ w.heap.size = Z at hz hze hzb ⊢
  have d0 : Z.cell? ⟨w.heap.size, 0, none⟩ = some (.int .i64 0) := blk_cell hz 0
  have d1 : Z.cell? ⟨w.heap.size, 1, none⟩ = some (.string ⟨#[]⟩) := blk_cell hz 1
  have d2 : Z.cell? ⟨w.heap.size, 2, none⟩ = some (.string ⟨#[]⟩) := blk_cell hz 2
  have d3 : Z.cell? ⟨w.heap.size, 3, none⟩ = some (.int .u64 0) := blk_cell hz 3
  have d4 : Z.cell? ⟨w.heap.size, 4, none⟩ = some (.int .u64 0) := blk_cell hz 4
  have d5 : Z.cell? ⟨w.heap.size, 5, none⟩ = some (.string ⟨#[]⟩) := blk_cell hz 5
  have d6 : Z.cell? ⟨w.heap.size, 6, none⟩ = some (.string ⟨#[]⟩) := blk_cell hz 6
  have d7 : Z.cell? ⟨w.heap.size, 7, none⟩ = some (.slice none 0 0) := blk_cell hz 7
  have d8 : Z.cell? ⟨w.heap.size, 8, none⟩ = some (.slice none 0 0) := blk_cell hz 8
  have de : Z.cell? ⟨w.heap.size + 1, 0, none⟩ = some (.int .i64 (6)) := blk_cell hze 0
  clear hz hze hdied
  have HZ := Lib.hid hzb
  clear hzb
  simp [Leaves, settle, results, Tryd.results25, go_sem, d0, d1, d2, d3, d4, d5, d6, d7, d8, de]
  exact ⟨rfl, HZ.out⟩
end Go.Proofs.YtndicjikjcifaaaDoor
