/- Texts joined by wip/tools/slim2.py: Txdec, Inref, Refdec, Refdecb, Batpre, Batsame, Txneed, POwx0, POwx1, Opens, Txown, Bownh, Sealp, PFtx0, PFtx1, Txworks, Pay, Payc, Codeb, Codec, Batcod. -/
import Derived.Test.YtndicjikjcifaaaDoorJ2
import Derived.Test.YtndicjikjcifaaaDoorJ1
import Derived.Test.YtndicjikjcifaaaDoorJ3
import Derived.Shelf.Sort.Plain
import Derived.Shelf.Slices.CompactS
import Derived.Shelf.Slices.Turned
import Derived.Test.YtndicjikjcifaaaDoorProg
import Derived.Below
import Derived.Deep.Draws
import Derived.Deep.AppendLies
import Derived.Maps.AppendAt
import Derived.OwnWalk
import Derived.Laws.BytesArg
import Derived.Laws.MakeOwn
import Derived.Laws.OwnMore
import Derived.Deep.OwnRows
import Derived.Tactics
import Derived.Lib.ConvBytes
import Derived.Laws.Slices
import Derived.WalkKit
import Derived.KernelRfl
import Derived.RowKit3
import Derived.Deep.LoopGhost
import Derived.Deep.QuietTactic
import Derived.BigQuiet
import Derived.WideLaws
import Derived.Deep.DeepCutAuto
import Derived.Deep.CutBlock
import Derived.Deep.RegionHeld3
import Derived.Laws.Rows
import Derived.Lib.AppendStr
import Derived.ArgAppend
import Derived.Laws.IdiomCopy
import Derived.OrdersHeld
import Derived.Laws.BitsLemmas
import Derived.RowKit
import Derived.ChangeArms
import Derived.Deep.Slices
import Derived.SizedLaws
import Derived.ChangeShapes
import Derived.DataShut
/- tx.Decode. -/
namespace Go.Proofs.YtndicjikjcifaaaDoor
open Go.RowKit Go.Shelf Go.Lib Go.Proofs.YtndicjikjcifaaaDoorW.PrintWords Go.Proofs.YtndicjikjcifaaaDoorW.PrintLast
set_option linter.unusedVariables false
set_option linter.unusedSimpArgs false
theorem tx9 {W : World} {g : Nat} {b0 b1 b2 b3 b4 b5 b6 b7 b8 : Value} {T : TypeId} (h : W.heap[g]? = some (.cells #[b0, b1, b2, b3, b4, b5, b6, b7, b8] T (0, 0))) :
    W.cell? ⟨g, 0, none⟩ = some b0 ∧ W.cell? ⟨g, 1, none⟩ = some b1 ∧ W.cell? ⟨g, 2, none⟩ = some b2 ∧ W.cell? ⟨g, 3, none⟩ = some b3 ∧ W.cell? ⟨g, 4, none⟩ = some b4 ∧ W.cell? ⟨g, 5, none⟩ = some b5 ∧ W.cell? ⟨g, 6, none⟩ = some b6 ∧ W.cell? ⟨g, 7, none⟩ = some b7 ∧ W.cell? ⟨g, 8, none⟩ = some b8 ∧ W.frozen? ⟨g, 0, none⟩ = false ∧ W.frozen? ⟨g, 1, none⟩ = false ∧ W.frozen? ⟨g, 2, none⟩ = false ∧ W.frozen? ⟨g, 3, none⟩ = false ∧ W.frozen? ⟨g, 4, none⟩ = false ∧ W.frozen? ⟨g, 5, none⟩ = false ∧ W.frozen? ⟨g, 6, none⟩ = false ∧ W.frozen? ⟨g, 7, none⟩ = false ∧ W.frozen? ⟨g, 8, none⟩ = false :=
  ⟨blk_cell h 0, blk_cell h 1, blk_cell h 2, blk_cell h 3, blk_cell h 4, blk_cell h 5, blk_cell h 6, blk_cell h 7, blk_cell h 8, blk_frozen h 0, blk_frozen h 1, blk_frozen h 2, blk_frozen h 3, blk_frozen h 4, blk_frozen h 5, blk_frozen h 6, blk_frozen h 7, blk_frozen h 8⟩
theorem undo_no (g h : Nat) (w : World) (he : w.heap[g]? = some (.cells #[.int .i64 0] 24 (0, 0))) :
    CallsD Tryd.prog 50 #[.pointer (some ⟨g, 0, none⟩), .pointer (some ⟨h, 0, none⟩)] .returning w fun e u' w' => u' = .returning ∧ (e = .returned (.tuple #[]) ∧ w' = w) := by
  have c0 : w.cell? ⟨g, 0, none⟩ = some (.int .i64 0) := blk_cell he 0
  clear he
  go_enter_d Tryd.func50, Tryd.ntmps50
  go_wp2
  go_end0
  exact ⟨rfl, rfl⟩
def zset (w : World) (h : Nat) : World :=
  (((((((((w.setCell ⟨h, 0, none⟩ (.int .i64 0)).setCell ⟨h, 1, none⟩ (.string ⟨#[]⟩)).setCell ⟨h, 2, none⟩ (.string ⟨#[]⟩)).setCell ⟨h, 3, none⟩ (.int .u64 0)).setCell ⟨h, 4, none⟩ (.int .u64 0)).setCell ⟨h, 5, none⟩ (.string ⟨#[]⟩)).setCell ⟨h, 6, none⟩ (.string ⟨#[]⟩)).setCell ⟨h, 7, none⟩ (.slice none 0 0)).setCell ⟨h, 8, none⟩ (.slice none 0 0))
theorem zset_box (w : World) (h : Nat) (b0 b1 b2 b3 b4 b5 b6 b7 b8 : Value) (ht : w.heap[h]? = some (.cells #[b0, b1, b2, b3, b4, b5, b6, b7, b8] 33 (0, 0))) :
    (zset w h).heap[h]? = some (.cells #[.int .i64 0, .string ⟨#[]⟩, .string ⟨#[]⟩, .int .u64 0, .int .u64 0, .string ⟨#[]⟩, .string ⟨#[]⟩, .slice none 0 0, .slice none 0 0] 33 (0, 0)) := by
  have := blk_set (blk_set (blk_set (blk_set (blk_set (blk_set (blk_set (blk_set (blk_set ht 0 (.int .i64 0)) 1 (.string ⟨#[]⟩)) 2 (.string ⟨#[]⟩)) 3 (.int .u64 0)) 4 (.int .u64 0)) 5 (.string ⟨#[]⟩)) 6 (.string ⟨#[]⟩)) 7 (.slice none 0 0)) 8 (.slice none 0 0)
  simpa [zset] using this
theorem zset_blk (w : World) (h g : Nat) (hg : g ≠ h) : (zset w h).heap[g]? = w.heap[g]? := by
  simp only [zset]
  iterate 9 rw [Below.heap_setCell _ _ _ _ (by simpa using hg)]
theorem zset_below {w0 w : World} {h : Nat} (hl : Below w0.heap.size w0 w) (hh : w0.heap.size ≤ h) : Below w0.heap.size w0 (zset w h) := by
  simp only [zset]
  iterate 9 refine Below.setCell ?_ (by simpa using hh) _
  exact hl
theorem undo_yes (g h : Nat) (x : Int) (hx : x ≠ 0) (b0 b1 b2 b3 b4 b5 b6 b7 b8 : Value) (w : World) (he : w.heap[g]? = some (.cells #[.int .i64 x] 24 (0, 0))) (ht : w.heap[h]? = some (.cells #[b0, b1, b2, b3, b4, b5, b6, b7, b8] 33 (0, 0))) :
    CallsD Tryd.prog 50 #[.pointer (some ⟨g, 0, none⟩), .pointer (some ⟨h, 0, none⟩)] .returning w fun e u' w' => u' = .returning ∧ (e = .returned (.tuple #[]) ∧ w' = zset w h) := by
  have c0 : w.cell? ⟨g, 0, none⟩ = some (.int .i64 x) := blk_cell he 0
  have hx : (x == 0) = false := by simpa using hx
  have d0 : w.cell? ⟨h, 0, none⟩ = some b0 := blk_cell ht 0
  have f0 := blk_frozen ht 0
  have d1 : w.cell? ⟨h, 1, none⟩ = some b1 := blk_cell ht 1
  have f1 := blk_frozen ht 1
  have d2 : w.cell? ⟨h, 2, none⟩ = some b2 := blk_cell ht 2
  have f2 := blk_frozen ht 2
  have d3 : w.cell? ⟨h, 3, none⟩ = some b3 := blk_cell ht 3
  have f3 := blk_frozen ht 3
  have d4 : w.cell? ⟨h, 4, none⟩ = some b4 := blk_cell ht 4
  have f4 := blk_frozen ht 4
  have d5 : w.cell? ⟨h, 5, none⟩ = some b5 := blk_cell ht 5
  have f5 := blk_frozen ht 5
  have d6 : w.cell? ⟨h, 6, none⟩ = some b6 := blk_cell ht 6
  have f6 := blk_frozen ht 6
  have d7 : w.cell? ⟨h, 7, none⟩ = some b7 := blk_cell ht 7
  have f7 := blk_frozen ht 7
  have d8 : w.cell? ⟨h, 8, none⟩ = some b8 := blk_cell ht 8
  have f8 := blk_frozen ht 8
  clear he ht
  go_enter_d Tryd.func50, Tryd.ntmps50
  go_wp2
  go_end0
  exact ⟨rfl, rfl⟩
def zagg : Value := .agg #[.int .i64 0, .string ⟨#[]⟩, .string ⟨#[]⟩, .int .u64 0, .int .u64 0, .string ⟨#[]⟩, .string ⟨#[]⟩, .slice none 0 0, .slice none 0 0]
structure Dx (w : World) (b0 b1 b2 b3 b4 b5 b6 b7 b8 : Value) (s : ByteArray) (W : World) : Prop where
  low : Below w.heap.size w W
  tx : W.heap[w.heap.size]? = some (.cells #[b0, b1, b2, b3, b4, b5, b6, b7, b8] 33 (0, 0))
  er : W.heap[w.heap.size + 1]? = some (.cells #[.int .i64 0] 24 (0, 0))
  rd : W.heap[w.heap.size + 1 + 1]? = some (.cells #[.string s] 77 (0, 0))
theorem Dx.size {w W : World} {b0 b1 b2 b3 b4 b5 b6 b7 b8 : Value} {s : ByteArray} (h : Dx w b0 b1 b2 b3 b4 b5 b6 b7 b8 s W) : w.heap.size + 1 + 1 < W.heap.size := by
  have := h.rd
  rcases Nat.lt_or_ge (w.heap.size + 1 + 1) W.heap.size with h | h
  · exact h
  · rw [Array.getElem?_eq_none h] at this; cases this
theorem Dx.read {w W W' : World} {b0 b1 b2 b3 b4 b5 b6 b7 b8 : Value} {s s' : ByteArray} (h : Dx w b0 b1 b2 b3 b4 b5 b6 b7 b8 s W) (hr : Rd (w.heap.size + 1 + 1) s' W W') : Dx w b0 b1 b2 b3 b4 b5 b6 b7 b8 s' W' :=
  ⟨hr.below h.low (by omega), (hr.blk (by omega) (by have := h.size; omega)).trans h.tx, (hr.blk (by omega) (by have := h.size; omega)).trans h.er, hr.box⟩
theorem Dx.step {w W W' : World} {b0 b1 b2 b3 b4 b5 b6 b7 b8 : Value} {s : ByteArray} (h : Dx w b0 b1 b2 b3 b4 b5 b6 b7 b8 s W) (hb : Below W.heap.size W W') : Dx w b0 b1 b2 b3 b4 b5 b6 b7 b8 s W' :=
  ⟨below_then h.low h.low.size hb, (hb.block _ (by have := h.size; omega)).trans h.tx, (hb.block _ (by have := h.size; omega)).trans h.er, (hb.block _ h.size).trans h.rd⟩
theorem Dx.set0 {w W : World} {b0 b1 b2 b3 b4 b5 b6 b7 b8 : Value} {s : ByteArray} (h : Dx w b0 b1 b2 b3 b4 b5 b6 b7 b8 s W) (v : Value) : Dx w v b1 b2 b3 b4 b5 b6 b7 b8 s (W.setCell ⟨w.heap.size, 0, none⟩ v) :=
  ⟨h.low.setCell (by simp) v, by simpa using blk_set h.tx 0 v, (Below.heap_setCell _ _ _ _ (by simp)).trans h.er, (Below.heap_setCell _ _ _ _ (by simp; omega)).trans h.rd⟩
theorem Dx.set1 {w W : World} {b0 b1 b2 b3 b4 b5 b6 b7 b8 : Value} {s : ByteArray} (h : Dx w b0 b1 b2 b3 b4 b5 b6 b7 b8 s W) (v : Value) : Dx w b0 v b2 b3 b4 b5 b6 b7 b8 s (W.setCell ⟨w.heap.size, 1, none⟩ v) :=
  ⟨h.low.setCell (by simp) v, by simpa using blk_set h.tx 1 v, (Below.heap_setCell _ _ _ _ (by simp)).trans h.er, (Below.heap_setCell _ _ _ _ (by simp; omega)).trans h.rd⟩
theorem Dx.set2 {w W : World} {b0 b1 b2 b3 b4 b5 b6 b7 b8 : Value} {s : ByteArray} (h : Dx w b0 b1 b2 b3 b4 b5 b6 b7 b8 s W) (v : Value) : Dx w b0 b1 v b3 b4 b5 b6 b7 b8 s (W.setCell ⟨w.heap.size, 2, none⟩ v) :=
  ⟨h.low.setCell (by simp) v, by simpa using blk_set h.tx 2 v, (Below.heap_setCell _ _ _ _ (by simp)).trans h.er, (Below.heap_setCell _ _ _ _ (by simp; omega)).trans h.rd⟩
theorem Dx.set3 {w W : World} {b0 b1 b2 b3 b4 b5 b6 b7 b8 : Value} {s : ByteArray} (h : Dx w b0 b1 b2 b3 b4 b5 b6 b7 b8 s W) (v : Value) : Dx w b0 b1 b2 v b4 b5 b6 b7 b8 s (W.setCell ⟨w.heap.size, 3, none⟩ v) :=
  ⟨h.low.setCell (by simp) v, by simpa using blk_set h.tx 3 v, (Below.heap_setCell _ _ _ _ (by simp)).trans h.er, (Below.heap_setCell _ _ _ _ (by simp; omega)).trans h.rd⟩
theorem Dx.set4 {w W : World} {b0 b1 b2 b3 b4 b5 b6 b7 b8 : Value} {s : ByteArray} (h : Dx w b0 b1 b2 b3 b4 b5 b6 b7 b8 s W) (v : Value) : Dx w b0 b1 b2 b3 v b5 b6 b7 b8 s (W.setCell ⟨w.heap.size, 4, none⟩ v) :=
  ⟨h.low.setCell (by simp) v, by simpa using blk_set h.tx 4 v, (Below.heap_setCell _ _ _ _ (by simp)).trans h.er, (Below.heap_setCell _ _ _ _ (by simp; omega)).trans h.rd⟩
theorem Dx.set5 {w W : World} {b0 b1 b2 b3 b4 b5 b6 b7 b8 : Value} {s : ByteArray} (h : Dx w b0 b1 b2 b3 b4 b5 b6 b7 b8 s W) (v : Value) : Dx w b0 b1 b2 b3 b4 v b6 b7 b8 s (W.setCell ⟨w.heap.size, 5, none⟩ v) :=
  ⟨h.low.setCell (by simp) v, by simpa using blk_set h.tx 5 v, (Below.heap_setCell _ _ _ _ (by simp)).trans h.er, (Below.heap_setCell _ _ _ _ (by simp; omega)).trans h.rd⟩
theorem Dx.set6 {w W : World} {b0 b1 b2 b3 b4 b5 b6 b7 b8 : Value} {s : ByteArray} (h : Dx w b0 b1 b2 b3 b4 b5 b6 b7 b8 s W) (v : Value) : Dx w b0 b1 b2 b3 b4 b5 v b7 b8 s (W.setCell ⟨w.heap.size, 6, none⟩ v) :=
  ⟨h.low.setCell (by simp) v, by simpa using blk_set h.tx 6 v, (Below.heap_setCell _ _ _ _ (by simp)).trans h.er, (Below.heap_setCell _ _ _ _ (by simp; omega)).trans h.rd⟩
theorem Dx.set7 {w W : World} {b0 b1 b2 b3 b4 b5 b6 b7 b8 : Value} {s : ByteArray} (h : Dx w b0 b1 b2 b3 b4 b5 b6 b7 b8 s W) (v : Value) : Dx w b0 b1 b2 b3 b4 b5 b6 v b8 s (W.setCell ⟨w.heap.size, 7, none⟩ v) :=
  ⟨h.low.setCell (by simp) v, by simpa using blk_set h.tx 7 v, (Below.heap_setCell _ _ _ _ (by simp)).trans h.er, (Below.heap_setCell _ _ _ _ (by simp; omega)).trans h.rd⟩
theorem Dx.set8 {w W : World} {b0 b1 b2 b3 b4 b5 b6 b7 b8 : Value} {s : ByteArray} (h : Dx w b0 b1 b2 b3 b4 b5 b6 b7 b8 s W) (v : Value) : Dx w b0 b1 b2 b3 b4 b5 b6 b7 v s (W.setCell ⟨w.heap.size, 8, none⟩ v) :=
  ⟨h.low.setCell (by simp) v, by simpa using blk_set h.tx 8 v, (Below.heap_setCell _ _ _ _ (by simp)).trans h.er, (Below.heap_setCell _ _ _ _ (by simp; omega)).trans h.rd⟩
theorem int_ok' (p : Nat) (s s' : ByteArray) (n k : Int) (w : World) (hg : gi s 9 0 0 = (n, k, 0)) (hr : rest s k = s') (h : w.heap[p]? = some (.cells #[.string s] 77 (0, 0))) :
    Calls Tryd.prog 52 #[.pointer (some ⟨p, 0, none⟩)] w fun e w' => e = .returned (.int .u64 n) ∧ Rd p s' w w' := by
  have := int_ok p s w h (by rw [hg])
  rw [hg] at this
  subst hr
  exact this
theorem text_ok' (p : Nat) (s s' f : ByteArray) (k : Int) (w : World) (hs : s.size < 4611686018427387904) (hg : gt s = (f, k, 0)) (hr : rest s k = s') (h : w.heap[p]? = some (.cells #[.string s] 77 (0, 0))) :
    Calls Tryd.prog 53 #[.pointer (some ⟨p, 0, none⟩)] w fun e w' => e = .returned (.string f) ∧ Rd p s' w w' := by
  have := text_ok p s w hs h (by rw [hg])
  rw [hg] at this
  subst hr
  exact this
theorem list_ok' (p : Nat) (s s' : ByteArray) (f : List ByteArray) (k : Int) (w : World) (hs : s.size < 4611686018427387904) (hg : gl s 8 = (f, k, 0)) (hr : rest s k = s') (h : w.heap[p]? = some (.cells #[.string s] 77 (0, 0))) :
    Calls Tryd.prog 54 #[.pointer (some ⟨p, 0, none⟩)] w fun e w' => ∃ v, e = .returned v ∧ Kd.R Kd.string 9 w' w.heap.size (fun _ => True) v f ∧ Rd p s' w w' := by
  have := list_ok p s w hs h (by rw [hg])
  rw [hg] at this
  subst hr
  exact this
theorem rest_size (s : ByteArray) (n : Int) : (rest s n).size ≤ s.size := by
  unfold rest
  rw [ByteArray.size_extract]
  omega
theorem Dx.first (w : World) (s : ByteArray) : Dx w (.int .i64 0) (.string ⟨#[]⟩) (.string ⟨#[]⟩) (.int .u64 0) (.int .u64 0) (.string ⟨#[]⟩) (.string ⟨#[]⟩) (.slice none 0 0) (.slice none 0 0) s
    (((w.alloc (.cells #[.int .i64 0, .string ⟨#[]⟩, .string ⟨#[]⟩, .int .u64 0, .int .u64 0, .string ⟨#[]⟩, .string ⟨#[]⟩, .slice none 0 0, .slice none 0 0] 33)).alloc (.cells #[.int .i64 0] 24)).alloc (.cells #[.string s] 77)) :=
  ⟨(((Below.refl _ w).alloc (Nat.le_refl _) _).alloc (by simp) _).alloc (by simp; omega) _, blk_alloc (blk_alloc (blk_new _ _) _) _, blk_alloc (blk_newAt _ _ (by simp)) _, blk_newAt _ _ (by simp)⟩
theorem Dx.died {w W : World} {b0 b1 b2 b3 b4 b5 b6 b7 b8 : Value} {s : ByteArray} (h : Dx w b0 b1 b2 b3 b4 b5 b6 b7 b8 s W) (x : Int) :
    (W.setCell ⟨w.heap.size + 1, 0, none⟩ (.int .i64 x)).heap[w.heap.size + 1]? = some (.cells #[.int .i64 x] 24 (0, 0)) ∧
    (W.setCell ⟨w.heap.size + 1, 0, none⟩ (.int .i64 x)).heap[w.heap.size]? = some (.cells #[b0, b1, b2, b3, b4, b5, b6, b7, b8] 33 (0, 0)) ∧
    Below w.heap.size w (W.setCell ⟨w.heap.size + 1, 0, none⟩ (.int .i64 x)) :=
  ⟨by simpa using blk_set h.er 0 (.int .i64 x), (Below.heap_setCell _ _ _ _ (by simp)).trans h.tx, h.low.setCell (by simp) _⟩
set_option maxHeartbeats 8000000 in
set_option maxRecDepth 100000 in
theorem dec_no1 (s : ByteArray) (w : World) (HN : Hid ((gi s 9 0 0).2.2 ≠ 0)) :
    Calls Tryd.prog 25 #[.string s] w fun e w' => e = .returned (.tuple #[zagg, .int .i64 (gi s 9 0 0).2.2]) ∧ Below w.heap.size w w' := by
  have hmf : ∀ (fn : Fn) (first cap : Array Value) (w : World), (Instr.makeFunc fn first cap).run Tryd.prog w = .ok (.func fn first cap) w := fun _ _ _ _ => rfl
  go_enter_defers Tryd.func25, Tryd.ntmps25
  have HX := Lib.hid (Dx.first w s)
  go_wp2_with (first
  | (go_at_call 52
     refine (int_no (w.heap.size + 1 + 1) s _ HX.out.rd HN.out).mono ?_
     rintro e w2 ⟨rfl, hB⟩
     have HX := Lib.hid (HX.out.step hB)
     clear hB))
  refine leaves_cons (f := 51) (args := #[.pointer (some ⟨w.heap.size + 1, 0, none⟩)]) (by simp) (by simp [go_sem]) ?_
  refine (caught_panicking ⟨w.heap.size + 1, 0, none⟩ 0 (gi s 9 0 0).2.2 [] _ (blk_cell HX.out.er 0) (blk_frozen HX.out.er 0)).mono ?_
  rintro e u' w'' ⟨rfl, rfl, rfl⟩
  refine leaves_cons (f := 50) (args := #[.pointer (some ⟨w.heap.size + 1, 0, none⟩), .pointer (some ⟨w.heap.size, 0, none⟩)]) (by simp [settle]) (by simp [go_sem]) ?_
  have hdied := HX.out.died (gi s 9 0 0).2.2
  refine (undo_yes (w.heap.size + 1) w.heap.size (gi s 9 0 0).2.2 HN.out _ _ _ _ _ _ _ _ _ _ hdied.1 hdied.2.1).mono ?_
  rintro e u' w'' ⟨rfl, rfl, rfl⟩
  have hz := zset_box _ w.heap.size _ _ _ _ _ _ _ _ _ hdied.2.1
  have hze := (zset_blk _ w.heap.size (w.heap.size + 1) (by omega)).trans hdied.1
  have hzb := zset_below hdied.2.2 (Nat.le_refl _)
  generalize zset _ w.heap.size = Z at hz hze hzb ⊢
  have d0 : Z.cell? ⟨w.heap.size, 0, none⟩ = some (.int .i64 0) := blk_cell hz 0
  have d1 : Z.cell? ⟨w.heap.size, 1, none⟩ = some (.string ⟨#[]⟩) := blk_cell hz 1
  have d2 : Z.cell? ⟨w.heap.size, 2, none⟩ = some (.string ⟨#[]⟩) := blk_cell hz 2
  have d3 : Z.cell? ⟨w.heap.size, 3, none⟩ = some (.int .u64 0) := blk_cell hz 3
  have d4 : Z.cell? ⟨w.heap.size, 4, none⟩ = some (.int .u64 0) := blk_cell hz 4
  have d5 : Z.cell? ⟨w.heap.size, 5, none⟩ = some (.string ⟨#[]⟩) := blk_cell hz 5
  have d6 : Z.cell? ⟨w.heap.size, 6, none⟩ = some (.string ⟨#[]⟩) := blk_cell hz 6
  have d7 : Z.cell? ⟨w.heap.size, 7, none⟩ = some (.slice none 0 0) := blk_cell hz 7
  have d8 : Z.cell? ⟨w.heap.size, 8, none⟩ = some (.slice none 0 0) := blk_cell hz 8
  have de : Z.cell? ⟨w.heap.size + 1, 0, none⟩ = some (.int .i64 ((gi s 9 0 0).2.2)) := blk_cell hze 0
  clear hz hze hdied
  have HZ := Lib.hid hzb
  clear hzb
  simp [Leaves, settle, results, Tryd.results25, go_sem, d0, d1, d2, d3, d4, d5, d6, d7, d8, de]
  exact ⟨rfl, HZ.out⟩
set_option maxHeartbeats 8000000 in
set_option maxRecDepth 100000 in
theorem dec_no2 (s s1 : ByteArray) (kd : Int) (k1 : Int) (w : World) (E1 : Hid (gi s 9 0 0 = (kd, k1, 0))) (R1 : Hid (rest s k1 = s1)) (Z1 : Hid (s1.size < 4611686018427387904)) (HN : Hid ((gt s1).2.2 ≠ 0)) :
    Calls Tryd.prog 25 #[.string s] w fun e w' => e = .returned (.tuple #[zagg, .int .i64 (gt s1).2.2]) ∧ Below w.heap.size w w' := by
  have hmf : ∀ (fn : Fn) (first cap : Array Value) (w : World), (Instr.makeFunc fn first cap).run Tryd.prog w = .ok (.func fn first cap) w := fun _ _ _ _ => rfl
  go_enter_defers Tryd.func25, Tryd.ntmps25
  have HX := Lib.hid (Dx.first w s)
  go_wp2_with (first
  | (go_at_call 52
     refine (int_ok' (w.heap.size + 1 + 1) s s1 kd k1 _ E1.out R1.out HX.out.rd).mono ?_
     rintro e w2 ⟨rfl, hr⟩
     have HX := Lib.hid (HX.out.read hr)
     obtain ⟨t0, t1, t2, t3, t4, t5, t6, t7, t8, u0, u1, u2, u3, u4, u5, u6, u7, u8⟩ := tx9 HX.out.tx
     clear hr)
  | (go_at_call 53
     refine (text_no (w.heap.size + 1 + 1) s1 _ Z1.out HX.out.rd HN.out).mono ?_
     rintro e w2 ⟨rfl, hB⟩
     have HX := Lib.hid (HX.out.step hB)
     clear hB))
  refine leaves_cons (f := 51) (args := #[.pointer (some ⟨w.heap.size + 1, 0, none⟩)]) (by simp) (by simp [go_sem]) ?_
  refine (caught_panicking ⟨w.heap.size + 1, 0, none⟩ 0 (gt s1).2.2 [] _ (blk_cell HX.out.er 0) (blk_frozen HX.out.er 0)).mono ?_
  rintro e u' w'' ⟨rfl, rfl, rfl⟩
  refine leaves_cons (f := 50) (args := #[.pointer (some ⟨w.heap.size + 1, 0, none⟩), .pointer (some ⟨w.heap.size, 0, none⟩)]) (by simp [settle]) (by simp [go_sem]) ?_
  have hdied := HX.out.died (gt s1).2.2
  refine (undo_yes (w.heap.size + 1) w.heap.size (gt s1).2.2 HN.out _ _ _ _ _ _ _ _ _ _ hdied.1 hdied.2.1).mono ?_
  rintro e u' w'' ⟨rfl, rfl, rfl⟩
  have hz := zset_box _ w.heap.size _ _ _ _ _ _ _ _ _ hdied.2.1
  have hze := (zset_blk _ w.heap.size (w.heap.size + 1) (by omega)).trans hdied.1
  have hzb := zset_below hdied.2.2 (Nat.le_refl _)
  generalize zset _ w.heap.size = Z at hz hze hzb ⊢
  have d0 : Z.cell? ⟨w.heap.size, 0, none⟩ = some (.int .i64 0) := blk_cell hz 0
  have d1 : Z.cell? ⟨w.heap.size, 1, none⟩ = some (.string ⟨#[]⟩) := blk_cell hz 1
  have d2 : Z.cell? ⟨w.heap.size, 2, none⟩ = some (.string ⟨#[]⟩) := blk_cell hz 2
  have d3 : Z.cell? ⟨w.heap.size, 3, none⟩ = some (.int .u64 0) := blk_cell hz 3
  have d4 : Z.cell? ⟨w.heap.size, 4, none⟩ = some (.int .u64 0) := blk_cell hz 4
  have d5 : Z.cell? ⟨w.heap.size, 5, none⟩ = some (.string ⟨#[]⟩) := blk_cell hz 5
  have d6 : Z.cell? ⟨w.heap.size, 6, none⟩ = some (.string ⟨#[]⟩) := blk_cell hz 6
  have d7 : Z.cell? ⟨w.heap.size, 7, none⟩ = some (.slice none 0 0) := blk_cell hz 7
  have d8 : Z.cell? ⟨w.heap.size, 8, none⟩ = some (.slice none 0 0) := blk_cell hz 8
  have de : Z.cell? ⟨w.heap.size + 1, 0, none⟩ = some (.int .i64 ((gt s1).2.2)) := blk_cell hze 0
  clear hz hze hdied
  have HZ := Lib.hid hzb
  clear hzb
  simp [Leaves, settle, results, Tryd.results25, go_sem, d0, d1, d2, d3, d4, d5, d6, d7, d8, de]
  exact ⟨rfl, HZ.out⟩
set_option maxHeartbeats 8000000 in
set_option maxRecDepth 100000 in
theorem dec_no3 (s s1 s2 : ByteArray) (kd : Int) (k1 : Int) (f : ByteArray) (k2 : Int) (w : World) (E1 : Hid (gi s 9 0 0 = (kd, k1, 0))) (R1 : Hid (rest s k1 = s1)) (Z1 : Hid (s1.size < 4611686018427387904)) (E2 : Hid (gt s1 = (f, k2, 0))) (R2 : Hid (rest s1 k2 = s2)) (Z2 : Hid (s2.size < 4611686018427387904)) (HN : Hid ((gt s2).2.2 ≠ 0)) :
    Calls Tryd.prog 25 #[.string s] w fun e w' => e = .returned (.tuple #[zagg, .int .i64 (gt s2).2.2]) ∧ Below w.heap.size w w' := by
  have hmf : ∀ (fn : Fn) (first cap : Array Value) (w : World), (Instr.makeFunc fn first cap).run Tryd.prog w = .ok (.func fn first cap) w := fun _ _ _ _ => rfl
  go_enter_defers Tryd.func25, Tryd.ntmps25
  have HX := Lib.hid (Dx.first w s)
  go_wp2_with (first
  | (go_at_call 52
     refine (int_ok' (w.heap.size + 1 + 1) s s1 kd k1 _ E1.out R1.out HX.out.rd).mono ?_
     rintro e w2 ⟨rfl, hr⟩
     have HX := Lib.hid (HX.out.read hr)
     obtain ⟨t0, t1, t2, t3, t4, t5, t6, t7, t8, u0, u1, u2, u3, u4, u5, u6, u7, u8⟩ := tx9 HX.out.tx
     clear hr)
  | (go_at_call 53
     refine (text_ok' (w.heap.size + 1 + 1) s1 s2 f k2 _ Z1.out E2.out R2.out HX.out.rd).mono ?_
     rintro e w2 ⟨rfl, hr⟩
     have HX := Lib.hid (HX.out.read hr)
     obtain ⟨t0, t1, t2, t3, t4, t5, t6, t7, t8, u0, u1, u2, u3, u4, u5, u6, u7, u8⟩ := tx9 HX.out.tx
     clear hr)
  | (go_at_call 53
     refine (text_no (w.heap.size + 1 + 1) s2 _ Z2.out HX.out.rd HN.out).mono ?_
     rintro e w2 ⟨rfl, hB⟩
     have HX := Lib.hid (HX.out.step hB)
     clear hB))
  refine leaves_cons (f := 51) (args := #[.pointer (some ⟨w.heap.size + 1, 0, none⟩)]) (by simp) (by simp [go_sem]) ?_
  refine (caught_panicking ⟨w.heap.size + 1, 0, none⟩ 0 (gt s2).2.2 [] _ (blk_cell HX.out.er 0) (blk_frozen HX.out.er 0)).mono ?_
  rintro e u' w'' ⟨rfl, rfl, rfl⟩
  refine leaves_cons (f := 50) (args := #[.pointer (some ⟨w.heap.size + 1, 0, none⟩), .pointer (some ⟨w.heap.size, 0, none⟩)]) (by simp [settle]) (by simp [go_sem]) ?_
  have hdied := HX.out.died (gt s2).2.2
  refine (undo_yes (w.heap.size + 1) w.heap.size (gt s2).2.2 HN.out _ _ _ _ _ _ _ _ _ _ hdied.1 hdied.2.1).mono ?_
  rintro e u' w'' ⟨rfl, rfl, rfl⟩
  have hz := zset_box _ w.heap.size _ _ _ _ _ _ _ _ _ hdied.2.1
  have hze := (zset_blk _ w.heap.size (w.heap.size + 1) (by omega)).trans hdied.1
  have hzb := zset_below hdied.2.2 (Nat.le_refl _)
  generalize zset _ w.heap.size = Z at hz hze hzb ⊢
  have d0 : Z.cell? ⟨w.heap.size, 0, none⟩ = some (.int .i64 0) := blk_cell hz 0
  have d1 : Z.cell? ⟨w.heap.size, 1, none⟩ = some (.string ⟨#[]⟩) := blk_cell hz 1
  have d2 : Z.cell? ⟨w.heap.size, 2, none⟩ = some (.string ⟨#[]⟩) := blk_cell hz 2
  have d3 : Z.cell? ⟨w.heap.size, 3, none⟩ = some (.int .u64 0) := blk_cell hz 3
  have d4 : Z.cell? ⟨w.heap.size, 4, none⟩ = some (.int .u64 0) := blk_cell hz 4
  have d5 : Z.cell? ⟨w.heap.size, 5, none⟩ = some (.string ⟨#[]⟩) := blk_cell hz 5
  have d6 : Z.cell? ⟨w.heap.size, 6, none⟩ = some (.string ⟨#[]⟩) := blk_cell hz 6
  have d7 : Z.cell? ⟨w.heap.size, 7, none⟩ = some (.slice none 0 0) := blk_cell hz 7
  have d8 : Z.cell? ⟨w.heap.size, 8, none⟩ = some (.slice none 0 0) := blk_cell hz 8
  have de : Z.cell? ⟨w.heap.size + 1, 0, none⟩ = some (.int .i64 ((gt s2).2.2)) := blk_cell hze 0
  clear hz hze hdied
  have HZ := Lib.hid hzb
  clear hzb
  simp [Leaves, settle, results, Tryd.results25, go_sem, d0, d1, d2, d3, d4, d5, d6, d7, d8, de]
  exact ⟨rfl, HZ.out⟩
set_option maxHeartbeats 8000000 in
set_option maxRecDepth 100000 in
theorem dec_no4 (s s1 s2 s3 : ByteArray) (kd : Int) (k1 : Int) (f : ByteArray) (k2 : Int) (t : ByteArray) (k3 : Int) (w : World) (E1 : Hid (gi s 9 0 0 = (kd, k1, 0))) (R1 : Hid (rest s k1 = s1)) (Z1 : Hid (s1.size < 4611686018427387904)) (E2 : Hid (gt s1 = (f, k2, 0))) (R2 : Hid (rest s1 k2 = s2)) (Z2 : Hid (s2.size < 4611686018427387904)) (E3 : Hid (gt s2 = (t, k3, 0))) (R3 : Hid (rest s2 k3 = s3)) (Z3 : Hid (s3.size < 4611686018427387904)) (HN : Hid ((gi s3 9 0 0).2.2 ≠ 0)) :
    Calls Tryd.prog 25 #[.string s] w fun e w' => e = .returned (.tuple #[zagg, .int .i64 (gi s3 9 0 0).2.2]) ∧ Below w.heap.size w w' := by
  have hmf : ∀ (fn : Fn) (first cap : Array Value) (w : World), (Instr.makeFunc fn first cap).run Tryd.prog w = .ok (.func fn first cap) w := fun _ _ _ _ => rfl
  go_enter_defers Tryd.func25, Tryd.ntmps25
  have HX := Lib.hid (Dx.first w s)
  go_wp2_with (first
  | (go_at_call 52
     refine (int_ok' (w.heap.size + 1 + 1) s s1 kd k1 _ E1.out R1.out HX.out.rd).mono ?_
     rintro e w2 ⟨rfl, hr⟩
     have HX := Lib.hid (HX.out.read hr)
     obtain ⟨t0, t1, t2, t3, t4, t5, t6, t7, t8, u0, u1, u2, u3, u4, u5, u6, u7, u8⟩ := tx9 HX.out.tx
     clear hr)
  | (go_at_call 53
     refine (text_ok' (w.heap.size + 1 + 1) s1 s2 f k2 _ Z1.out E2.out R2.out HX.out.rd).mono ?_
     rintro e w2 ⟨rfl, hr⟩
     have HX := Lib.hid (HX.out.read hr)
     obtain ⟨t0, t1, t2, t3, t4, t5, t6, t7, t8, u0, u1, u2, u3, u4, u5, u6, u7, u8⟩ := tx9 HX.out.tx
     clear hr)
  | (go_at_call 53
     refine (text_ok' (w.heap.size + 1 + 1) s2 s3 t k3 _ Z2.out E3.out R3.out HX.out.rd).mono ?_
     rintro e w2 ⟨rfl, hr⟩
     have HX := Lib.hid (HX.out.read hr)
     obtain ⟨t0, t1, t2, t3, t4, t5, t6, t7, t8, u0, u1, u2, u3, u4, u5, u6, u7, u8⟩ := tx9 HX.out.tx
     clear hr)
  | (go_at_call 52
     refine (int_no (w.heap.size + 1 + 1) s3 _ ((HX.out.set1 (.string f)).set2 (.string t)).rd HN.out).mono ?_
     rintro e w2 ⟨rfl, hB⟩
     have HX := Lib.hid (((HX.out.set1 (.string f)).set2 (.string t)).step hB)
     clear hB))
  refine leaves_cons (f := 51) (args := #[.pointer (some ⟨w.heap.size + 1, 0, none⟩)]) (by simp) (by simp [go_sem]) ?_
  refine (caught_panicking ⟨w.heap.size + 1, 0, none⟩ 0 (gi s3 9 0 0).2.2 [] _ (blk_cell HX.out.er 0) (blk_frozen HX.out.er 0)).mono ?_
  rintro e u' w'' ⟨rfl, rfl, rfl⟩
  refine leaves_cons (f := 50) (args := #[.pointer (some ⟨w.heap.size + 1, 0, none⟩), .pointer (some ⟨w.heap.size, 0, none⟩)]) (by simp [settle]) (by simp [go_sem]) ?_
  have hdied := HX.out.died (gi s3 9 0 0).2.2
  refine (undo_yes (w.heap.size + 1) w.heap.size (gi s3 9 0 0).2.2 HN.out _ _ _ _ _ _ _ _ _ _ hdied.1 hdied.2.1).mono ?_
  rintro e u' w'' ⟨rfl, rfl, rfl⟩
  have hz := zset_box _ w.heap.size _ _ _ _ _ _ _ _ _ hdied.2.1
  have hze := (zset_blk _ w.heap.size (w.heap.size + 1) (by omega)).trans hdied.1
  have hzb := zset_below hdied.2.2 (Nat.le_refl _)
  generalize zset _ w.heap.size = Z at hz hze hzb ⊢
  have d0 : Z.cell? ⟨w.heap.size, 0, none⟩ = some (.int .i64 0) := blk_cell hz 0
  have d1 : Z.cell? ⟨w.heap.size, 1, none⟩ = some (.string ⟨#[]⟩) := blk_cell hz 1
  have d2 : Z.cell? ⟨w.heap.size, 2, none⟩ = some (.string ⟨#[]⟩) := blk_cell hz 2
  have d3 : Z.cell? ⟨w.heap.size, 3, none⟩ = some (.int .u64 0) := blk_cell hz 3
  have d4 : Z.cell? ⟨w.heap.size, 4, none⟩ = some (.int .u64 0) := blk_cell hz 4
  have d5 : Z.cell? ⟨w.heap.size, 5, none⟩ = some (.string ⟨#[]⟩) := blk_cell hz 5
  have d6 : Z.cell? ⟨w.heap.size, 6, none⟩ = some (.string ⟨#[]⟩) := blk_cell hz 6
  have d7 : Z.cell? ⟨w.heap.size, 7, none⟩ = some (.slice none 0 0) := blk_cell hz 7
  have d8 : Z.cell? ⟨w.heap.size, 8, none⟩ = some (.slice none 0 0) := blk_cell hz 8
  have de : Z.cell? ⟨w.heap.size + 1, 0, none⟩ = some (.int .i64 ((gi s3 9 0 0).2.2)) := blk_cell hze 0
  clear hz hze hdied
  have HZ := Lib.hid hzb
  clear hzb
  simp [Leaves, settle, results, Tryd.results25, go_sem, d0, d1, d2, d3, d4, d5, d6, d7, d8, de]
  exact ⟨rfl, HZ.out⟩
set_option maxHeartbeats 8000000 in
set_option maxRecDepth 100000 in
theorem dec_no5 (s s1 s2 s3 s4 : ByteArray) (kd : Int) (k1 : Int) (f : ByteArray) (k2 : Int) (t : ByteArray) (k3 : Int) (am : Int) (k4 : Int) (w : World) (E1 : Hid (gi s 9 0 0 = (kd, k1, 0))) (R1 : Hid (rest s k1 = s1)) (Z1 : Hid (s1.size < 4611686018427387904)) (E2 : Hid (gt s1 = (f, k2, 0))) (R2 : Hid (rest s1 k2 = s2)) (Z2 : Hid (s2.size < 4611686018427387904)) (E3 : Hid (gt s2 = (t, k3, 0))) (R3 : Hid (rest s2 k3 = s3)) (Z3 : Hid (s3.size < 4611686018427387904)) (E4 : Hid (gi s3 9 0 0 = (am, k4, 0))) (R4 : Hid (rest s3 k4 = s4)) (Z4 : Hid (s4.size < 4611686018427387904)) (HN : Hid ((gi s4 9 0 0).2.2 ≠ 0)) :
    Calls Tryd.prog 25 #[.string s] w fun e w' => e = .returned (.tuple #[zagg, .int .i64 (gi s4 9 0 0).2.2]) ∧ Below w.heap.size w w' := by
  have hmf : ∀ (fn : Fn) (first cap : Array Value) (w : World), (Instr.makeFunc fn first cap).run Tryd.prog w = .ok (.func fn first cap) w := fun _ _ _ _ => rfl
  go_enter_defers Tryd.func25, Tryd.ntmps25
  have HX := Lib.hid (Dx.first w s)
  go_wp2_with (first
  | (go_at_call 52
     refine (int_ok' (w.heap.size + 1 + 1) s s1 kd k1 _ E1.out R1.out HX.out.rd).mono ?_
     rintro e w2 ⟨rfl, hr⟩
     have HX := Lib.hid (HX.out.read hr)
     obtain ⟨t0, t1, t2, t3, t4, t5, t6, t7, t8, u0, u1, u2, u3, u4, u5, u6, u7, u8⟩ := tx9 HX.out.tx
     clear hr)
  | (go_at_call 53
     refine (text_ok' (w.heap.size + 1 + 1) s1 s2 f k2 _ Z1.out E2.out R2.out HX.out.rd).mono ?_
     rintro e w2 ⟨rfl, hr⟩
     have HX := Lib.hid (HX.out.read hr)
     obtain ⟨t0, t1, t2, t3, t4, t5, t6, t7, t8, u0, u1, u2, u3, u4, u5, u6, u7, u8⟩ := tx9 HX.out.tx
     clear hr)
  | (go_at_call 53
     refine (text_ok' (w.heap.size + 1 + 1) s2 s3 t k3 _ Z2.out E3.out R3.out HX.out.rd).mono ?_
     rintro e w2 ⟨rfl, hr⟩
     have HX := Lib.hid (HX.out.read hr)
     obtain ⟨t0, t1, t2, t3, t4, t5, t6, t7, t8, u0, u1, u2, u3, u4, u5, u6, u7, u8⟩ := tx9 HX.out.tx
     clear hr)
  | (go_at_call 52
     refine (int_ok' (w.heap.size + 1 + 1) s3 s4 am k4 _ E4.out R4.out ((HX.out.set1 (.string f)).set2 (.string t)).rd).mono ?_
     rintro e w2 ⟨rfl, hr⟩
     have HX := Lib.hid (((HX.out.set1 (.string f)).set2 (.string t)).read hr)
     obtain ⟨t0, t1, t2, t3, t4, t5, t6, t7, t8, u0, u1, u2, u3, u4, u5, u6, u7, u8⟩ := tx9 HX.out.tx
     clear hr)
  | (go_at_call 52
     refine (int_no (w.heap.size + 1 + 1) s4 _ HX.out.rd HN.out).mono ?_
     rintro e w2 ⟨rfl, hB⟩
     have HX := Lib.hid (HX.out.step hB)
     clear hB))
  refine leaves_cons (f := 51) (args := #[.pointer (some ⟨w.heap.size + 1, 0, none⟩)]) (by simp) (by simp [go_sem]) ?_
  refine (caught_panicking ⟨w.heap.size + 1, 0, none⟩ 0 (gi s4 9 0 0).2.2 [] _ (blk_cell HX.out.er 0) (blk_frozen HX.out.er 0)).mono ?_
  rintro e u' w'' ⟨rfl, rfl, rfl⟩
  refine leaves_cons (f := 50) (args := #[.pointer (some ⟨w.heap.size + 1, 0, none⟩), .pointer (some ⟨w.heap.size, 0, none⟩)]) (by simp [settle]) (by simp [go_sem]) ?_
  have hdied := HX.out.died (gi s4 9 0 0).2.2
  refine (undo_yes (w.heap.size + 1) w.heap.size (gi s4 9 0 0).2.2 HN.out _ _ _ _ _ _ _ _ _ _ hdied.1 hdied.2.1).mono ?_
  rintro e u' w'' ⟨rfl, rfl, rfl⟩
  have hz := zset_box _ w.heap.size _ _ _ _ _ _ _ _ _ hdied.2.1
  have hze := (zset_blk _ w.heap.size (w.heap.size + 1) (by omega)).trans hdied.1
  have hzb := zset_below hdied.2.2 (Nat.le_refl _)
  generalize zset _ w.heap.size = Z at hz hze hzb ⊢
  have d0 : Z.cell? ⟨w.heap.size, 0, none⟩ = some (.int .i64 0) := blk_cell hz 0
  have d1 : Z.cell? ⟨w.heap.size, 1, none⟩ = some (.string ⟨#[]⟩) := blk_cell hz 1
  have d2 : Z.cell? ⟨w.heap.size, 2, none⟩ = some (.string ⟨#[]⟩) := blk_cell hz 2
  have d3 : Z.cell? ⟨w.heap.size, 3, none⟩ = some (.int .u64 0) := blk_cell hz 3
  have d4 : Z.cell? ⟨w.heap.size, 4, none⟩ = some (.int .u64 0) := blk_cell hz 4
  have d5 : Z.cell? ⟨w.heap.size, 5, none⟩ = some (.string ⟨#[]⟩) := blk_cell hz 5
  have d6 : Z.cell? ⟨w.heap.size, 6, none⟩ = some (.string ⟨#[]⟩) := blk_cell hz 6
  have d7 : Z.cell? ⟨w.heap.size, 7, none⟩ = some (.slice none 0 0) := blk_cell hz 7
  have d8 : Z.cell? ⟨w.heap.size, 8, none⟩ = some (.slice none 0 0) := blk_cell hz 8
  have de : Z.cell? ⟨w.heap.size + 1, 0, none⟩ = some (.int .i64 ((gi s4 9 0 0).2.2)) := blk_cell hze 0
  clear hz hze hdied
  have HZ := Lib.hid hzb
  clear hzb
  simp [Leaves, settle, results, Tryd.results25, go_sem, d0, d1, d2, d3, d4, d5, d6, d7, d8, de]
  exact ⟨rfl, HZ.out⟩
set_option maxHeartbeats 8000000 in
set_option maxRecDepth 100000 in
theorem dec_no6 (s s1 s2 s3 s4 s5 : ByteArray) (kd : Int) (k1 : Int) (f : ByteArray) (k2 : Int) (t : ByteArray) (k3 : Int) (am : Int) (k4 : Int) (nc : Int) (k5 : Int) (w : World) (E1 : Hid (gi s 9 0 0 = (kd, k1, 0))) (R1 : Hid (rest s k1 = s1)) (Z1 : Hid (s1.size < 4611686018427387904)) (E2 : Hid (gt s1 = (f, k2, 0))) (R2 : Hid (rest s1 k2 = s2)) (Z2 : Hid (s2.size < 4611686018427387904)) (E3 : Hid (gt s2 = (t, k3, 0))) (R3 : Hid (rest s2 k3 = s3)) (Z3 : Hid (s3.size < 4611686018427387904)) (E4 : Hid (gi s3 9 0 0 = (am, k4, 0))) (R4 : Hid (rest s3 k4 = s4)) (Z4 : Hid (s4.size < 4611686018427387904)) (E5 : Hid (gi s4 9 0 0 = (nc, k5, 0))) (R5 : Hid (rest s4 k5 = s5)) (Z5 : Hid (s5.size < 4611686018427387904)) (HN : Hid ((gt s5).2.2 ≠ 0)) :
    Calls Tryd.prog 25 #[.string s] w fun e w' => e = .returned (.tuple #[zagg, .int .i64 (gt s5).2.2]) ∧ Below w.heap.size w w' := by
  have hmf : ∀ (fn : Fn) (first cap : Array Value) (w : World), (Instr.makeFunc fn first cap).run Tryd.prog w = .ok (.func fn first cap) w := fun _ _ _ _ => rfl
  go_enter_defers Tryd.func25, Tryd.ntmps25
  have HX := Lib.hid (Dx.first w s)
  go_wp2_with (first
  | (go_at_call 52
     refine (int_ok' (w.heap.size + 1 + 1) s s1 kd k1 _ E1.out R1.out HX.out.rd).mono ?_
     rintro e w2 ⟨rfl, hr⟩
     have HX := Lib.hid (HX.out.read hr)
     obtain ⟨t0, t1, t2, t3, t4, t5, t6, t7, t8, u0, u1, u2, u3, u4, u5, u6, u7, u8⟩ := tx9 HX.out.tx
     clear hr)
  | (go_at_call 53
     refine (text_ok' (w.heap.size + 1 + 1) s1 s2 f k2 _ Z1.out E2.out R2.out HX.out.rd).mono ?_
     rintro e w2 ⟨rfl, hr⟩
     have HX := Lib.hid (HX.out.read hr)
     obtain ⟨t0, t1, t2, t3, t4, t5, t6, t7, t8, u0, u1, u2, u3, u4, u5, u6, u7, u8⟩ := tx9 HX.out.tx
     clear hr)
  | (go_at_call 53
     refine (text_ok' (w.heap.size + 1 + 1) s2 s3 t k3 _ Z2.out E3.out R3.out HX.out.rd).mono ?_
     rintro e w2 ⟨rfl, hr⟩
     have HX := Lib.hid (HX.out.read hr)
     obtain ⟨t0, t1, t2, t3, t4, t5, t6, t7, t8, u0, u1, u2, u3, u4, u5, u6, u7, u8⟩ := tx9 HX.out.tx
     clear hr)
  | (go_at_call 52
     refine (int_ok' (w.heap.size + 1 + 1) s3 s4 am k4 _ E4.out R4.out ((HX.out.set1 (.string f)).set2 (.string t)).rd).mono ?_
     rintro e w2 ⟨rfl, hr⟩
     have HX := Lib.hid (((HX.out.set1 (.string f)).set2 (.string t)).read hr)
     obtain ⟨t0, t1, t2, t3, t4, t5, t6, t7, t8, u0, u1, u2, u3, u4, u5, u6, u7, u8⟩ := tx9 HX.out.tx
     clear hr)
  | (go_at_call 52
     refine (int_ok' (w.heap.size + 1 + 1) s4 s5 nc k5 _ E5.out R5.out HX.out.rd).mono ?_
     rintro e w2 ⟨rfl, hr⟩
     have HX := Lib.hid (HX.out.read hr)
     obtain ⟨t0, t1, t2, t3, t4, t5, t6, t7, t8, u0, u1, u2, u3, u4, u5, u6, u7, u8⟩ := tx9 HX.out.tx
     clear hr)
  | (go_at_call 53
     refine (text_no (w.heap.size + 1 + 1) s5 _ Z5.out ((HX.out.set3 (.int .u64 am)).set4 (.int .u64 nc)).rd HN.out).mono ?_
     rintro e w2 ⟨rfl, hB⟩
     have HX := Lib.hid (((HX.out.set3 (.int .u64 am)).set4 (.int .u64 nc)).step hB)
     clear hB))
  refine leaves_cons (f := 51) (args := #[.pointer (some ⟨w.heap.size + 1, 0, none⟩)]) (by simp) (by simp [go_sem]) ?_
  refine (caught_panicking ⟨w.heap.size + 1, 0, none⟩ 0 (gt s5).2.2 [] _ (blk_cell HX.out.er 0) (blk_frozen HX.out.er 0)).mono ?_
  rintro e u' w'' ⟨rfl, rfl, rfl⟩
  refine leaves_cons (f := 50) (args := #[.pointer (some ⟨w.heap.size + 1, 0, none⟩), .pointer (some ⟨w.heap.size, 0, none⟩)]) (by simp [settle]) (by simp [go_sem]) ?_
  have hdied := HX.out.died (gt s5).2.2
  refine (undo_yes (w.heap.size + 1) w.heap.size (gt s5).2.2 HN.out _ _ _ _ _ _ _ _ _ _ hdied.1 hdied.2.1).mono ?_
  rintro e u' w'' ⟨rfl, rfl, rfl⟩
  have hz := zset_box _ w.heap.size _ _ _ _ _ _ _ _ _ hdied.2.1
  have hze := (zset_blk _ w.heap.size (w.heap.size + 1) (by omega)).trans hdied.1
  have hzb := zset_below hdied.2.2 (Nat.le_refl _)
  generalize zset _ w.heap.size = Z at hz hze hzb ⊢
  have d0 : Z.cell? ⟨w.heap.size, 0, none⟩ = some (.int .i64 0) := blk_cell hz 0
  have d1 : Z.cell? ⟨w.heap.size, 1, none⟩ = some (.string ⟨#[]⟩) := blk_cell hz 1
  have d2 : Z.cell? ⟨w.heap.size, 2, none⟩ = some (.string ⟨#[]⟩) := blk_cell hz 2
  have d3 : Z.cell? ⟨w.heap.size, 3, none⟩ = some (.int .u64 0) := blk_cell hz 3
  have d4 : Z.cell? ⟨w.heap.size, 4, none⟩ = some (.int .u64 0) := blk_cell hz 4
  have d5 : Z.cell? ⟨w.heap.size, 5, none⟩ = some (.string ⟨#[]⟩) := blk_cell hz 5
  have d6 : Z.cell? ⟨w.heap.size, 6, none⟩ = some (.string ⟨#[]⟩) := blk_cell hz 6
  have d7 : Z.cell? ⟨w.heap.size, 7, none⟩ = some (.slice none 0 0) := blk_cell hz 7
  have d8 : Z.cell? ⟨w.heap.size, 8, none⟩ = some (.slice none 0 0) := blk_cell hz 8
  have de : Z.cell? ⟨w.heap.size + 1, 0, none⟩ = some (.int .i64 ((gt s5).2.2)) := blk_cell hze 0
  clear hz hze hdied
  have HZ := Lib.hid hzb
  clear hzb
  simp [Leaves, settle, results, Tryd.results25, go_sem, d0, d1, d2, d3, d4, d5, d6, d7, d8, de]
  exact ⟨rfl, HZ.out⟩
set_option maxHeartbeats 8000000 in
set_option maxRecDepth 100000 in
theorem dec_no7 (s s1 s2 s3 s4 s5 s6 : ByteArray) (kd : Int) (k1 : Int) (f : ByteArray) (k2 : Int) (t : ByteArray) (k3 : Int) (am : Int) (k4 : Int) (nc : Int) (k5 : Int) (ky' : ByteArray) (k6 : Int) (w : World) (E1 : Hid (gi s 9 0 0 = (kd, k1, 0))) (R1 : Hid (rest s k1 = s1)) (Z1 : Hid (s1.size < 4611686018427387904)) (E2 : Hid (gt s1 = (f, k2, 0))) (R2 : Hid (rest s1 k2 = s2)) (Z2 : Hid (s2.size < 4611686018427387904)) (E3 : Hid (gt s2 = (t, k3, 0))) (R3 : Hid (rest s2 k3 = s3)) (Z3 : Hid (s3.size < 4611686018427387904)) (E4 : Hid (gi s3 9 0 0 = (am, k4, 0))) (R4 : Hid (rest s3 k4 = s4)) (Z4 : Hid (s4.size < 4611686018427387904)) (E5 : Hid (gi s4 9 0 0 = (nc, k5, 0))) (R5 : Hid (rest s4 k5 = s5)) (Z5 : Hid (s5.size < 4611686018427387904)) (E6 : Hid (gt s5 = (ky', k6, 0))) (R6 : Hid (rest s5 k6 = s6)) (Z6 : Hid (s6.size < 4611686018427387904)) (HN : Hid ((gt s6).2.2 ≠ 0)) :
    Calls Tryd.prog 25 #[.string s] w fun e w' => e = .returned (.tuple #[zagg, .int .i64 (gt s6).2.2]) ∧ Below w.heap.size w w' := by
  have hmf : ∀ (fn : Fn) (first cap : Array Value) (w : World), (Instr.makeFunc fn first cap).run Tryd.prog w = .ok (.func fn first cap) w := fun _ _ _ _ => rfl
  go_enter_defers Tryd.func25, Tryd.ntmps25
  have HX := Lib.hid (Dx.first w s)
  go_wp2_with (first
  | (go_at_call 52
     refine (int_ok' (w.heap.size + 1 + 1) s s1 kd k1 _ E1.out R1.out HX.out.rd).mono ?_
     rintro e w2 ⟨rfl, hr⟩
     have HX := Lib.hid (HX.out.read hr)
     obtain ⟨t0, t1, t2, t3, t4, t5, t6, t7, t8, u0, u1, u2, u3, u4, u5, u6, u7, u8⟩ := tx9 HX.out.tx
     clear hr)
  | (go_at_call 53
     refine (text_ok' (w.heap.size + 1 + 1) s1 s2 f k2 _ Z1.out E2.out R2.out HX.out.rd).mono ?_
     rintro e w2 ⟨rfl, hr⟩
     have HX := Lib.hid (HX.out.read hr)
     obtain ⟨t0, t1, t2, t3, t4, t5, t6, t7, t8, u0, u1, u2, u3, u4, u5, u6, u7, u8⟩ := tx9 HX.out.tx
     clear hr)
  | (go_at_call 53
     refine (text_ok' (w.heap.size + 1 + 1) s2 s3 t k3 _ Z2.out E3.out R3.out HX.out.rd).mono ?_
     rintro e w2 ⟨rfl, hr⟩
     have HX := Lib.hid (HX.out.read hr)
     obtain ⟨t0, t1, t2, t3, t4, t5, t6, t7, t8, u0, u1, u2, u3, u4, u5, u6, u7, u8⟩ := tx9 HX.out.tx
     clear hr)
  | (go_at_call 52
     refine (int_ok' (w.heap.size + 1 + 1) s3 s4 am k4 _ E4.out R4.out ((HX.out.set1 (.string f)).set2 (.string t)).rd).mono ?_
     rintro e w2 ⟨rfl, hr⟩
     have HX := Lib.hid (((HX.out.set1 (.string f)).set2 (.string t)).read hr)
     obtain ⟨t0, t1, t2, t3, t4, t5, t6, t7, t8, u0, u1, u2, u3, u4, u5, u6, u7, u8⟩ := tx9 HX.out.tx
     clear hr)
  | (go_at_call 52
     refine (int_ok' (w.heap.size + 1 + 1) s4 s5 nc k5 _ E5.out R5.out HX.out.rd).mono ?_
     rintro e w2 ⟨rfl, hr⟩
     have HX := Lib.hid (HX.out.read hr)
     obtain ⟨t0, t1, t2, t3, t4, t5, t6, t7, t8, u0, u1, u2, u3, u4, u5, u6, u7, u8⟩ := tx9 HX.out.tx
     clear hr)
  | (go_at_call 53
     refine (text_ok' (w.heap.size + 1 + 1) s5 s6 ky' k6 _ Z5.out E6.out R6.out ((HX.out.set3 (.int .u64 am)).set4 (.int .u64 nc)).rd).mono ?_
     rintro e w2 ⟨rfl, hr⟩
     have HX := Lib.hid (((HX.out.set3 (.int .u64 am)).set4 (.int .u64 nc)).read hr)
     obtain ⟨t0, t1, t2, t3, t4, t5, t6, t7, t8, u0, u1, u2, u3, u4, u5, u6, u7, u8⟩ := tx9 HX.out.tx
     clear hr)
  | (go_at_call 53
     refine (text_no (w.heap.size + 1 + 1) s6 _ Z6.out HX.out.rd HN.out).mono ?_
     rintro e w2 ⟨rfl, hB⟩
     have HX := Lib.hid (HX.out.step hB)
     clear hB))
  refine leaves_cons (f := 51) (args := #[.pointer (some ⟨w.heap.size + 1, 0, none⟩)]) (by simp) (by simp [go_sem]) ?_
  refine (caught_panicking ⟨w.heap.size + 1, 0, none⟩ 0 (gt s6).2.2 [] _ (blk_cell HX.out.er 0) (blk_frozen HX.out.er 0)).mono ?_
  rintro e u' w'' ⟨rfl, rfl, rfl⟩
  refine leaves_cons (f := 50) (args := #[.pointer (some ⟨w.heap.size + 1, 0, none⟩), .pointer (some ⟨w.heap.size, 0, none⟩)]) (by simp [settle]) (by simp [go_sem]) ?_
  have hdied := HX.out.died (gt s6).2.2
  refine (undo_yes (w.heap.size + 1) w.heap.size (gt s6).2.2 HN.out _ _ _ _ _ _ _ _ _ _ hdied.1 hdied.2.1).mono ?_
  rintro e u' w'' ⟨rfl, rfl, rfl⟩
  have hz := zset_box _ w.heap.size _ _ _ _ _ _ _ _ _ hdied.2.1
  have hze := (zset_blk _ w.heap.size (w.heap.size + 1) (by omega)).trans hdied.1
  have hzb := zset_below hdied.2.2 (Nat.le_refl _)
  generalize zset _ w.heap.size = Z at hz hze hzb ⊢
  have d0 : Z.cell? ⟨w.heap.size, 0, none⟩ = some (.int .i64 0) := blk_cell hz 0
  have d1 : Z.cell? ⟨w.heap.size, 1, none⟩ = some (.string ⟨#[]⟩) := blk_cell hz 1
  have d2 : Z.cell? ⟨w.heap.size, 2, none⟩ = some (.string ⟨#[]⟩) := blk_cell hz 2
  have d3 : Z.cell? ⟨w.heap.size, 3, none⟩ = some (.int .u64 0) := blk_cell hz 3
  have d4 : Z.cell? ⟨w.heap.size, 4, none⟩ = some (.int .u64 0) := blk_cell hz 4
  have d5 : Z.cell? ⟨w.heap.size, 5, none⟩ = some (.string ⟨#[]⟩) := blk_cell hz 5
  have d6 : Z.cell? ⟨w.heap.size, 6, none⟩ = some (.string ⟨#[]⟩) := blk_cell hz 6
  have d7 : Z.cell? ⟨w.heap.size, 7, none⟩ = some (.slice none 0 0) := blk_cell hz 7
  have d8 : Z.cell? ⟨w.heap.size, 8, none⟩ = some (.slice none 0 0) := blk_cell hz 8
  have de : Z.cell? ⟨w.heap.size + 1, 0, none⟩ = some (.int .i64 ((gt s6).2.2)) := blk_cell hze 0
  clear hz hze hdied
  have HZ := Lib.hid hzb
  clear hzb
  simp [Leaves, settle, results, Tryd.results25, go_sem, d0, d1, d2, d3, d4, d5, d6, d7, d8, de]
  exact ⟨rfl, HZ.out⟩
set_option maxHeartbeats 8000000 in
set_option maxRecDepth 100000 in
theorem dec_no8 (s s1 s2 s3 s4 s5 s6 s7 : ByteArray) (kd : Int) (k1 : Int) (f : ByteArray) (k2 : Int) (t : ByteArray) (k3 : Int) (am : Int) (k4 : Int) (nc : Int) (k5 : Int) (ky' : ByteArray) (k6 : Int) (vl : ByteArray) (k7 : Int) (w : World) (E1 : Hid (gi s 9 0 0 = (kd, k1, 0))) (R1 : Hid (rest s k1 = s1)) (Z1 : Hid (s1.size < 4611686018427387904)) (E2 : Hid (gt s1 = (f, k2, 0))) (R2 : Hid (rest s1 k2 = s2)) (Z2 : Hid (s2.size < 4611686018427387904)) (E3 : Hid (gt s2 = (t, k3, 0))) (R3 : Hid (rest s2 k3 = s3)) (Z3 : Hid (s3.size < 4611686018427387904)) (E4 : Hid (gi s3 9 0 0 = (am, k4, 0))) (R4 : Hid (rest s3 k4 = s4)) (Z4 : Hid (s4.size < 4611686018427387904)) (E5 : Hid (gi s4 9 0 0 = (nc, k5, 0))) (R5 : Hid (rest s4 k5 = s5)) (Z5 : Hid (s5.size < 4611686018427387904)) (E6 : Hid (gt s5 = (ky', k6, 0))) (R6 : Hid (rest s5 k6 = s6)) (Z6 : Hid (s6.size < 4611686018427387904)) (E7 : Hid (gt s6 = (vl, k7, 0))) (R7 : Hid (rest s6 k7 = s7)) (Z7 : Hid (s7.size < 4611686018427387904)) (HN : Hid ((gl s7 8).2.2 ≠ 0)) :
    Calls Tryd.prog 25 #[.string s] w fun e w' => e = .returned (.tuple #[zagg, .int .i64 (gl s7 8).2.2]) ∧ Below w.heap.size w w' := by
  have hmf : ∀ (fn : Fn) (first cap : Array Value) (w : World), (Instr.makeFunc fn first cap).run Tryd.prog w = .ok (.func fn first cap) w := fun _ _ _ _ => rfl
  go_enter_defers Tryd.func25, Tryd.ntmps25
  have HX := Lib.hid (Dx.first w s)
  go_wp2_with (first
  | (go_at_call 52
     refine (int_ok' (w.heap.size + 1 + 1) s s1 kd k1 _ E1.out R1.out HX.out.rd).mono ?_
     rintro e w2 ⟨rfl, hr⟩
     have HX := Lib.hid (HX.out.read hr)
     obtain ⟨t0, t1, t2, t3, t4, t5, t6, t7, t8, u0, u1, u2, u3, u4, u5, u6, u7, u8⟩ := tx9 HX.out.tx
     clear hr)
  | (go_at_call 53
     refine (text_ok' (w.heap.size + 1 + 1) s1 s2 f k2 _ Z1.out E2.out R2.out HX.out.rd).mono ?_
     rintro e w2 ⟨rfl, hr⟩
     have HX := Lib.hid (HX.out.read hr)
     obtain ⟨t0, t1, t2, t3, t4, t5, t6, t7, t8, u0, u1, u2, u3, u4, u5, u6, u7, u8⟩ := tx9 HX.out.tx
     clear hr)
  | (go_at_call 53
     refine (text_ok' (w.heap.size + 1 + 1) s2 s3 t k3 _ Z2.out E3.out R3.out HX.out.rd).mono ?_
     rintro e w2 ⟨rfl, hr⟩
     have HX := Lib.hid (HX.out.read hr)
     obtain ⟨t0, t1, t2, t3, t4, t5, t6, t7, t8, u0, u1, u2, u3, u4, u5, u6, u7, u8⟩ := tx9 HX.out.tx
     clear hr)
  | (go_at_call 52
     refine (int_ok' (w.heap.size + 1 + 1) s3 s4 am k4 _ E4.out R4.out ((HX.out.set1 (.string f)).set2 (.string t)).rd).mono ?_
     rintro e w2 ⟨rfl, hr⟩
     have HX := Lib.hid (((HX.out.set1 (.string f)).set2 (.string t)).read hr)
     obtain ⟨t0, t1, t2, t3, t4, t5, t6, t7, t8, u0, u1, u2, u3, u4, u5, u6, u7, u8⟩ := tx9 HX.out.tx
     clear hr)
  | (go_at_call 52
     refine (int_ok' (w.heap.size + 1 + 1) s4 s5 nc k5 _ E5.out R5.out HX.out.rd).mono ?_
     rintro e w2 ⟨rfl, hr⟩
     have HX := Lib.hid (HX.out.read hr)
     obtain ⟨t0, t1, t2, t3, t4, t5, t6, t7, t8, u0, u1, u2, u3, u4, u5, u6, u7, u8⟩ := tx9 HX.out.tx
     clear hr)
  | (go_at_call 53
     refine (text_ok' (w.heap.size + 1 + 1) s5 s6 ky' k6 _ Z5.out E6.out R6.out ((HX.out.set3 (.int .u64 am)).set4 (.int .u64 nc)).rd).mono ?_
     rintro e w2 ⟨rfl, hr⟩
     have HX := Lib.hid (((HX.out.set3 (.int .u64 am)).set4 (.int .u64 nc)).read hr)
     obtain ⟨t0, t1, t2, t3, t4, t5, t6, t7, t8, u0, u1, u2, u3, u4, u5, u6, u7, u8⟩ := tx9 HX.out.tx
     clear hr)
  | (go_at_call 53
     refine (text_ok' (w.heap.size + 1 + 1) s6 s7 vl k7 _ Z6.out E7.out R7.out HX.out.rd).mono ?_
     rintro e w2 ⟨rfl, hr⟩
     have HX := Lib.hid (HX.out.read hr)
     obtain ⟨t0, t1, t2, t3, t4, t5, t6, t7, t8, u0, u1, u2, u3, u4, u5, u6, u7, u8⟩ := tx9 HX.out.tx
     clear hr)
  | (go_at_call 54
     refine (list_no (w.heap.size + 1 + 1) s7 _ Z7.out ((HX.out.set5 (.string ky')).set6 (.string vl)).rd HN.out).mono ?_
     rintro e w2 ⟨rfl, hB⟩
     have HX := Lib.hid (((HX.out.set5 (.string ky')).set6 (.string vl)).step hB)
     clear hB))
  refine leaves_cons (f := 51) (args := #[.pointer (some ⟨w.heap.size + 1, 0, none⟩)]) (by simp) (by simp [go_sem]) ?_
  refine (caught_panicking ⟨w.heap.size + 1, 0, none⟩ 0 (gl s7 8).2.2 [] _ (blk_cell HX.out.er 0) (blk_frozen HX.out.er 0)).mono ?_
  rintro e u' w'' ⟨rfl, rfl, rfl⟩
  refine leaves_cons (f := 50) (args := #[.pointer (some ⟨w.heap.size + 1, 0, none⟩), .pointer (some ⟨w.heap.size, 0, none⟩)]) (by simp [settle]) (by simp [go_sem]) ?_
  have hdied := HX.out.died (gl s7 8).2.2
  refine (undo_yes (w.heap.size + 1) w.heap.size (gl s7 8).2.2 HN.out _ _ _ _ _ _ _ _ _ _ hdied.1 hdied.2.1).mono ?_
  rintro e u' w'' ⟨rfl, rfl, rfl⟩
  have hz := zset_box _ w.heap.size _ _ _ _ _ _ _ _ _ hdied.2.1
  have hze := (zset_blk _ w.heap.size (w.heap.size + 1) (by omega)).trans hdied.1
  have hzb := zset_below hdied.2.2 (Nat.le_refl _)
  generalize zset _ w.heap.size = Z at hz hze hzb ⊢
  have d0 : Z.cell? ⟨w.heap.size, 0, none⟩ = some (.int .i64 0) := blk_cell hz 0
  have d1 : Z.cell? ⟨w.heap.size, 1, none⟩ = some (.string ⟨#[]⟩) := blk_cell hz 1
  have d2 : Z.cell? ⟨w.heap.size, 2, none⟩ = some (.string ⟨#[]⟩) := blk_cell hz 2
  have d3 : Z.cell? ⟨w.heap.size, 3, none⟩ = some (.int .u64 0) := blk_cell hz 3
  have d4 : Z.cell? ⟨w.heap.size, 4, none⟩ = some (.int .u64 0) := blk_cell hz 4
  have d5 : Z.cell? ⟨w.heap.size, 5, none⟩ = some (.string ⟨#[]⟩) := blk_cell hz 5
  have d6 : Z.cell? ⟨w.heap.size, 6, none⟩ = some (.string ⟨#[]⟩) := blk_cell hz 6
  have d7 : Z.cell? ⟨w.heap.size, 7, none⟩ = some (.slice none 0 0) := blk_cell hz 7
  have d8 : Z.cell? ⟨w.heap.size, 8, none⟩ = some (.slice none 0 0) := blk_cell hz 8
  have de : Z.cell? ⟨w.heap.size + 1, 0, none⟩ = some (.int .i64 ((gl s7 8).2.2)) := blk_cell hze 0
  clear hz hze hdied
  have HZ := Lib.hid hzb
  clear hzb
  simp [Leaves, settle, results, Tryd.results25, go_sem, d0, d1, d2, d3, d4, d5, d6, d7, d8, de]
  exact ⟨rfl, HZ.out⟩
set_option maxHeartbeats 8000000 in
set_option maxRecDepth 100000 in
theorem dec_no9 (s s1 s2 s3 s4 s5 s6 s7 s8 : ByteArray) (kd : Int) (k1 : Int) (f : ByteArray) (k2 : Int) (t : ByteArray) (k3 : Int) (am : Int) (k4 : Int) (nc : Int) (k5 : Int) (ky' : ByteArray) (k6 : Int) (vl : ByteArray) (k7 : Int) (rs : List ByteArray) (k8 : Int) (w : World) (E1 : Hid (gi s 9 0 0 = (kd, k1, 0))) (R1 : Hid (rest s k1 = s1)) (Z1 : Hid (s1.size < 4611686018427387904)) (E2 : Hid (gt s1 = (f, k2, 0))) (R2 : Hid (rest s1 k2 = s2)) (Z2 : Hid (s2.size < 4611686018427387904)) (E3 : Hid (gt s2 = (t, k3, 0))) (R3 : Hid (rest s2 k3 = s3)) (Z3 : Hid (s3.size < 4611686018427387904)) (E4 : Hid (gi s3 9 0 0 = (am, k4, 0))) (R4 : Hid (rest s3 k4 = s4)) (Z4 : Hid (s4.size < 4611686018427387904)) (E5 : Hid (gi s4 9 0 0 = (nc, k5, 0))) (R5 : Hid (rest s4 k5 = s5)) (Z5 : Hid (s5.size < 4611686018427387904)) (E6 : Hid (gt s5 = (ky', k6, 0))) (R6 : Hid (rest s5 k6 = s6)) (Z6 : Hid (s6.size < 4611686018427387904)) (E7 : Hid (gt s6 = (vl, k7, 0))) (R7 : Hid (rest s6 k7 = s7)) (Z7 : Hid (s7.size < 4611686018427387904)) (E8 : Hid (gl s7 8 = (rs, k8, 0))) (R8 : Hid (rest s7 k8 = s8)) (Z8 : Hid (s8.size < 4611686018427387904)) (HN : Hid ((gl s8 8).2.2 ≠ 0)) :
    Calls Tryd.prog 25 #[.string s] w fun e w' => e = .returned (.tuple #[zagg, .int .i64 (gl s8 8).2.2]) ∧ Below w.heap.size w w' := by
  have hmf : ∀ (fn : Fn) (first cap : Array Value) (w : World), (Instr.makeFunc fn first cap).run Tryd.prog w = .ok (.func fn first cap) w := fun _ _ _ _ => rfl
  go_enter_defers Tryd.func25, Tryd.ntmps25
  have HX := Lib.hid (Dx.first w s)
  go_wp2_with (first
  | (go_at_call 52
     refine (int_ok' (w.heap.size + 1 + 1) s s1 kd k1 _ E1.out R1.out HX.out.rd).mono ?_
     rintro e w2 ⟨rfl, hr⟩
     have HX := Lib.hid (HX.out.read hr)
     obtain ⟨t0, t1, t2, t3, t4, t5, t6, t7, t8, u0, u1, u2, u3, u4, u5, u6, u7, u8⟩ := tx9 HX.out.tx
     clear hr)
  | (go_at_call 53
     refine (text_ok' (w.heap.size + 1 + 1) s1 s2 f k2 _ Z1.out E2.out R2.out HX.out.rd).mono ?_
     rintro e w2 ⟨rfl, hr⟩
     have HX := Lib.hid (HX.out.read hr)
     obtain ⟨t0, t1, t2, t3, t4, t5, t6, t7, t8, u0, u1, u2, u3, u4, u5, u6, u7, u8⟩ := tx9 HX.out.tx
     clear hr)
  | (go_at_call 53
     refine (text_ok' (w.heap.size + 1 + 1) s2 s3 t k3 _ Z2.out E3.out R3.out HX.out.rd).mono ?_
     rintro e w2 ⟨rfl, hr⟩
     have HX := Lib.hid (HX.out.read hr)
     obtain ⟨t0, t1, t2, t3, t4, t5, t6, t7, t8, u0, u1, u2, u3, u4, u5, u6, u7, u8⟩ := tx9 HX.out.tx
     clear hr)
  | (go_at_call 52
     refine (int_ok' (w.heap.size + 1 + 1) s3 s4 am k4 _ E4.out R4.out ((HX.out.set1 (.string f)).set2 (.string t)).rd).mono ?_
     rintro e w2 ⟨rfl, hr⟩
     have HX := Lib.hid (((HX.out.set1 (.string f)).set2 (.string t)).read hr)
     obtain ⟨t0, t1, t2, t3, t4, t5, t6, t7, t8, u0, u1, u2, u3, u4, u5, u6, u7, u8⟩ := tx9 HX.out.tx
     clear hr)
  | (go_at_call 52
     refine (int_ok' (w.heap.size + 1 + 1) s4 s5 nc k5 _ E5.out R5.out HX.out.rd).mono ?_
     rintro e w2 ⟨rfl, hr⟩
     have HX := Lib.hid (HX.out.read hr)
     obtain ⟨t0, t1, t2, t3, t4, t5, t6, t7, t8, u0, u1, u2, u3, u4, u5, u6, u7, u8⟩ := tx9 HX.out.tx
     clear hr)
  | (go_at_call 53
     refine (text_ok' (w.heap.size + 1 + 1) s5 s6 ky' k6 _ Z5.out E6.out R6.out ((HX.out.set3 (.int .u64 am)).set4 (.int .u64 nc)).rd).mono ?_
     rintro e w2 ⟨rfl, hr⟩
     have HX := Lib.hid (((HX.out.set3 (.int .u64 am)).set4 (.int .u64 nc)).read hr)
     obtain ⟨t0, t1, t2, t3, t4, t5, t6, t7, t8, u0, u1, u2, u3, u4, u5, u6, u7, u8⟩ := tx9 HX.out.tx
     clear hr)
  | (go_at_call 53
     refine (text_ok' (w.heap.size + 1 + 1) s6 s7 vl k7 _ Z6.out E7.out R7.out HX.out.rd).mono ?_
     rintro e w2 ⟨rfl, hr⟩
     have HX := Lib.hid (HX.out.read hr)
     obtain ⟨t0, t1, t2, t3, t4, t5, t6, t7, t8, u0, u1, u2, u3, u4, u5, u6, u7, u8⟩ := tx9 HX.out.tx
     clear hr)
  | (go_at_call 54
     refine (list_ok' (w.heap.size + 1 + 1) s7 s8 rs k8 _ Z7.out E8.out R8.out ((HX.out.set5 (.string ky')).set6 (.string vl)).rd).mono ?_
     rintro e w2 ⟨v7, rfl, hR7, hr⟩
     obtain ⟨A7, c7, rfl, hc7, hC7⟩ := Kd.R_reads hR7
     have HC7 := Lib.hid hc7
     clear hc7 hC7
     have HR7 := Lib.hid hR7
     have HB7 := Lib.hid (((HX.out.set5 (.string ky')).set6 (.string vl)).low.size)
     have HX := Lib.hid (((HX.out.set5 (.string ky')).set6 (.string vl)).read hr)
     obtain ⟨t0, t1, t2, t3, t4, t5, t6, t7, t8, u0, u1, u2, u3, u4, u5, u6, u7, u8⟩ := tx9 HX.out.tx
     clear hr hR7)
  | (go_at_call 54
     refine (list_no (w.heap.size + 1 + 1) s8 _ Z8.out HX.out.rd HN.out).mono ?_
     rintro e w2 ⟨rfl, hB⟩
     have HX := Lib.hid (HX.out.step hB)
     clear hB))
  refine leaves_cons (f := 51) (args := #[.pointer (some ⟨w.heap.size + 1, 0, none⟩)]) (by simp) (by simp [go_sem]) ?_
  refine (caught_panicking ⟨w.heap.size + 1, 0, none⟩ 0 (gl s8 8).2.2 [] _ (blk_cell HX.out.er 0) (blk_frozen HX.out.er 0)).mono ?_
  rintro e u' w'' ⟨rfl, rfl, rfl⟩
  refine leaves_cons (f := 50) (args := #[.pointer (some ⟨w.heap.size + 1, 0, none⟩), .pointer (some ⟨w.heap.size, 0, none⟩)]) (by simp [settle]) (by simp [go_sem]) ?_
  have hdied := HX.out.died (gl s8 8).2.2
  refine (undo_yes (w.heap.size + 1) w.heap.size (gl s8 8).2.2 HN.out _ _ _ _ _ _ _ _ _ _ hdied.1 hdied.2.1).mono ?_
  rintro e u' w'' ⟨rfl, rfl, rfl⟩
  have hz := zset_box _ w.heap.size _ _ _ _ _ _ _ _ _ hdied.2.1
  have hze := (zset_blk _ w.heap.size (w.heap.size + 1) (by omega)).trans hdied.1
  have hzb := zset_below hdied.2.2 (Nat.le_refl _)
  generalize zset _ w.heap.size = Z at hz hze hzb ⊢
  have d0 : Z.cell? ⟨w.heap.size, 0, none⟩ = some (.int .i64 0) := blk_cell hz 0
  have d1 : Z.cell? ⟨w.heap.size, 1, none⟩ = some (.string ⟨#[]⟩) := blk_cell hz 1
  have d2 : Z.cell? ⟨w.heap.size, 2, none⟩ = some (.string ⟨#[]⟩) := blk_cell hz 2
  have d3 : Z.cell? ⟨w.heap.size, 3, none⟩ = some (.int .u64 0) := blk_cell hz 3
  have d4 : Z.cell? ⟨w.heap.size, 4, none⟩ = some (.int .u64 0) := blk_cell hz 4
  have d5 : Z.cell? ⟨w.heap.size, 5, none⟩ = some (.string ⟨#[]⟩) := blk_cell hz 5
  have d6 : Z.cell? ⟨w.heap.size, 6, none⟩ = some (.string ⟨#[]⟩) := blk_cell hz 6
  have d7 : Z.cell? ⟨w.heap.size, 7, none⟩ = some (.slice none 0 0) := blk_cell hz 7
  have d8 : Z.cell? ⟨w.heap.size, 8, none⟩ = some (.slice none 0 0) := blk_cell hz 8
  have de : Z.cell? ⟨w.heap.size + 1, 0, none⟩ = some (.int .i64 ((gl s8 8).2.2)) := blk_cell hze 0
  clear hz hze hdied
  have HZ := Lib.hid hzb
  clear hzb
  simp [Leaves, settle, results, Tryd.results25, go_sem, d0, d1, d2, d3, d4, d5, d6, d7, d8, de]
  exact ⟨rfl, HZ.out⟩
set_option maxHeartbeats 8000000 in
set_option maxRecDepth 100000 in
theorem dec_kind (s s1 s2 s3 s4 s5 s6 s7 s8 s9 : ByteArray) (kd : Int) (k1 : Int) (f : ByteArray) (k2 : Int) (t : ByteArray) (k3 : Int) (am : Int) (k4 : Int) (nc : Int) (k5 : Int) (ky' : ByteArray) (k6 : Int) (vl : ByteArray) (k7 : Int) (rs : List ByteArray) (k8 : Int) (ws : List ByteArray) (k9 : Int) (w : World) (E1 : Hid (gi s 9 0 0 = (kd, k1, 0))) (R1 : Hid (rest s k1 = s1)) (Z1 : Hid (s1.size < 4611686018427387904)) (E2 : Hid (gt s1 = (f, k2, 0))) (R2 : Hid (rest s1 k2 = s2)) (Z2 : Hid (s2.size < 4611686018427387904)) (E3 : Hid (gt s2 = (t, k3, 0))) (R3 : Hid (rest s2 k3 = s3)) (Z3 : Hid (s3.size < 4611686018427387904)) (E4 : Hid (gi s3 9 0 0 = (am, k4, 0))) (R4 : Hid (rest s3 k4 = s4)) (Z4 : Hid (s4.size < 4611686018427387904)) (E5 : Hid (gi s4 9 0 0 = (nc, k5, 0))) (R5 : Hid (rest s4 k5 = s5)) (Z5 : Hid (s5.size < 4611686018427387904)) (E6 : Hid (gt s5 = (ky', k6, 0))) (R6 : Hid (rest s5 k6 = s6)) (Z6 : Hid (s6.size < 4611686018427387904)) (E7 : Hid (gt s6 = (vl, k7, 0))) (R7 : Hid (rest s6 k7 = s7)) (Z7 : Hid (s7.size < 4611686018427387904)) (E8 : Hid (gl s7 8 = (rs, k8, 0))) (R8 : Hid (rest s7 k8 = s8)) (Z8 : Hid (s8.size < 4611686018427387904)) (E9 : Hid (gl s8 8 = (ws, k9, 0))) (R9 : Hid (rest s8 k9 = s9)) (Z9 : Hid (s9.size < 4611686018427387904)) (hk : ¬ kd ≤ 2) :
    Calls Tryd.prog 25 #[.string s] w fun e w' => e = .returned (.tuple #[zagg, .int .i64 2]) ∧ Below w.heap.size w w' := by
  have d1 : decide (kd ≤ 2) = false := decide_eq_false hk
  clear hk
  have hmf : ∀ (fn : Fn) (first cap : Array Value) (w : World), (Instr.makeFunc fn first cap).run Tryd.prog w = .ok (.func fn first cap) w := fun _ _ _ _ => rfl
  go_enter_defers Tryd.func25, Tryd.ntmps25
  have HX := Lib.hid (Dx.first w s)
  go_upto_region 9 with (first
  | (go_at_call 52
     refine (int_ok' (w.heap.size + 1 + 1) s s1 kd k1 _ E1.out R1.out HX.out.rd).mono ?_
     rintro e w2 ⟨rfl, hr⟩
     have HX := Lib.hid (HX.out.read hr)
     obtain ⟨t0, t1, t2, t3, t4, t5, t6, t7, t8, u0, u1, u2, u3, u4, u5, u6, u7, u8⟩ := tx9 HX.out.tx
     clear hr)
  | (go_at_call 53
     refine (text_ok' (w.heap.size + 1 + 1) s1 s2 f k2 _ Z1.out E2.out R2.out HX.out.rd).mono ?_
     rintro e w2 ⟨rfl, hr⟩
     have HX := Lib.hid (HX.out.read hr)
     obtain ⟨t0, t1, t2, t3, t4, t5, t6, t7, t8, u0, u1, u2, u3, u4, u5, u6, u7, u8⟩ := tx9 HX.out.tx
     clear hr)
  | (go_at_call 53
     refine (text_ok' (w.heap.size + 1 + 1) s2 s3 t k3 _ Z2.out E3.out R3.out HX.out.rd).mono ?_
     rintro e w2 ⟨rfl, hr⟩
     have HX := Lib.hid (HX.out.read hr)
     obtain ⟨t0, t1, t2, t3, t4, t5, t6, t7, t8, u0, u1, u2, u3, u4, u5, u6, u7, u8⟩ := tx9 HX.out.tx
     clear hr)
  | (go_at_call 52
     refine (int_ok' (w.heap.size + 1 + 1) s3 s4 am k4 _ E4.out R4.out ((HX.out.set1 (.string f)).set2 (.string t)).rd).mono ?_
     rintro e w2 ⟨rfl, hr⟩
     have HX := Lib.hid (((HX.out.set1 (.string f)).set2 (.string t)).read hr)
     obtain ⟨t0, t1, t2, t3, t4, t5, t6, t7, t8, u0, u1, u2, u3, u4, u5, u6, u7, u8⟩ := tx9 HX.out.tx
     clear hr)
  | (go_at_call 52
     refine (int_ok' (w.heap.size + 1 + 1) s4 s5 nc k5 _ E5.out R5.out HX.out.rd).mono ?_
     rintro e w2 ⟨rfl, hr⟩
     have HX := Lib.hid (HX.out.read hr)
     obtain ⟨t0, t1, t2, t3, t4, t5, t6, t7, t8, u0, u1, u2, u3, u4, u5, u6, u7, u8⟩ := tx9 HX.out.tx
     clear hr)
  | (go_at_call 53
     refine (text_ok' (w.heap.size + 1 + 1) s5 s6 ky' k6 _ Z5.out E6.out R6.out ((HX.out.set3 (.int .u64 am)).set4 (.int .u64 nc)).rd).mono ?_
     rintro e w2 ⟨rfl, hr⟩
     have HX := Lib.hid (((HX.out.set3 (.int .u64 am)).set4 (.int .u64 nc)).read hr)
     obtain ⟨t0, t1, t2, t3, t4, t5, t6, t7, t8, u0, u1, u2, u3, u4, u5, u6, u7, u8⟩ := tx9 HX.out.tx
     clear hr)
  | (go_at_call 53
     refine (text_ok' (w.heap.size + 1 + 1) s6 s7 vl k7 _ Z6.out E7.out R7.out HX.out.rd).mono ?_
     rintro e w2 ⟨rfl, hr⟩
     have HX := Lib.hid (HX.out.read hr)
     obtain ⟨t0, t1, t2, t3, t4, t5, t6, t7, t8, u0, u1, u2, u3, u4, u5, u6, u7, u8⟩ := tx9 HX.out.tx
     clear hr)
  | (go_at_call 54
     refine (list_ok' (w.heap.size + 1 + 1) s7 s8 rs k8 _ Z7.out E8.out R8.out ((HX.out.set5 (.string ky')).set6 (.string vl)).rd).mono ?_
     rintro e w2 ⟨v7, rfl, hR7, hr⟩
     obtain ⟨A7, c7, rfl, hc7, hC7⟩ := Kd.R_reads hR7
     have HC7 := Lib.hid hc7
     clear hc7 hC7
     have HR7 := Lib.hid hR7
     have HB7 := Lib.hid (((HX.out.set5 (.string ky')).set6 (.string vl)).low.size)
     have HX := Lib.hid (((HX.out.set5 (.string ky')).set6 (.string vl)).read hr)
     obtain ⟨t0, t1, t2, t3, t4, t5, t6, t7, t8, u0, u1, u2, u3, u4, u5, u6, u7, u8⟩ := tx9 HX.out.tx
     clear hr hR7)
  | (go_at_call 54
     refine (list_ok' (w.heap.size + 1 + 1) s8 s9 ws k9 _ Z8.out E9.out R9.out HX.out.rd).mono ?_
     rintro e w2 ⟨v8, rfl, hR8, hr⟩
     have HR7 := Lib.hid (hr.row HR7.out)
     obtain ⟨A8, c8, rfl, hc8, hC8⟩ := Kd.R_reads hR8
     have HC8 := Lib.hid hc8
     clear hc8 hC8
     have HR8 := Lib.hid hR8
     have HB8 := Lib.hid (HX.out.low.size)
     have HX := Lib.hid (HX.out.read hr)
     obtain ⟨t0, t1, t2, t3, t4, t5, t6, t7, t8, u0, u1, u2, u3, u4, u5, u6, u7, u8⟩ := tx9 HX.out.tx
     clear hr hR8))
  have HX := Lib.hid ((HX.out.set7 (.slice A7 rs.length c7)).set8 (.slice A8 ws.length c8))
  go_wp2_with (first | (go_at_call 55; first | (with_reducible refine (check_ok _ _).mono ?_; rintro e w'' ⟨rfl, hw⟩; have hw := hw.symm; subst hw) | (with_reducible refine (check_no _ _).mono ?_; rintro e w'' ⟨rfl, hw⟩; have hw := hw.symm; subst hw)))
  refine leaves_cons (f := 51) (args := #[.pointer (some ⟨w.heap.size + 1, 0, none⟩)]) (by simp) (by simp [go_sem]) ?_
  refine (caught_panicking ⟨w.heap.size + 1, 0, none⟩ 0 2 [] _ (blk_cell HX.out.er 0) (blk_frozen HX.out.er 0)).mono ?_
  rintro e u' w'' ⟨rfl, rfl, rfl⟩
  refine leaves_cons (f := 50) (args := #[.pointer (some ⟨w.heap.size + 1, 0, none⟩), .pointer (some ⟨w.heap.size, 0, none⟩)]) (by simp [settle]) (by simp [go_sem]) ?_
  have hdied := HX.out.died 2
  refine (undo_yes (w.heap.size + 1) w.heap.size 2 (by decide) _ _ _ _ _ _ _ _ _ _ hdied.1 hdied.2.1).mono ?_
  rintro e u' w'' ⟨rfl, rfl, rfl⟩
  have hz := zset_box _ w.heap.size _ _ _ _ _ _ _ _ _ hdied.2.1
  have hze := (zset_blk _ w.heap.size (w.heap.size + 1) (by omega)).trans hdied.1
  have hzb := zset_below hdied.2.2 (Nat.le_refl _)
  generalize zset _ w.heap.size = Z at hz hze hzb ⊢
  have d0 : Z.cell? ⟨w.heap.size, 0, none⟩ = some (.int .i64 0) := blk_cell hz 0
  have d1 : Z.cell? ⟨w.heap.size, 1, none⟩ = some (.string ⟨#[]⟩) := blk_cell hz 1
  have d2 : Z.cell? ⟨w.heap.size, 2, none⟩ = some (.string ⟨#[]⟩) := blk_cell hz 2
  have d3 : Z.cell? ⟨w.heap.size, 3, none⟩ = some (.int .u64 0) := blk_cell hz 3
  have d4 : Z.cell? ⟨w.heap.size, 4, none⟩ = some (.int .u64 0) := blk_cell hz 4
  have d5 : Z.cell? ⟨w.heap.size, 5, none⟩ = some (.string ⟨#[]⟩) := blk_cell hz 5
  have d6 : Z.cell? ⟨w.heap.size, 6, none⟩ = some (.string ⟨#[]⟩) := blk_cell hz 6
  have d7 : Z.cell? ⟨w.heap.size, 7, none⟩ = some (.slice none 0 0) := blk_cell hz 7
  have d8 : Z.cell? ⟨w.heap.size, 8, none⟩ = some (.slice none 0 0) := blk_cell hz 8
  have de : Z.cell? ⟨w.heap.size + 1, 0, none⟩ = some (.int .i64 (2)) := blk_cell hze 0
  clear hz hze hdied
  have HZ := Lib.hid hzb
  clear hzb
  simp [Leaves, settle, results, Tryd.results25, go_sem, d0, d1, d2, d3, d4, d5, d6, d7, d8, de]
  exact ⟨rfl, HZ.out⟩
set_option maxHeartbeats 8000000 in
set_option maxRecDepth 100000 in
theorem dec_more (s s1 s2 s3 s4 s5 s6 s7 s8 s9 : ByteArray) (kd : Int) (k1 : Int) (f : ByteArray) (k2 : Int) (t : ByteArray) (k3 : Int) (am : Int) (k4 : Int) (nc : Int) (k5 : Int) (ky' : ByteArray) (k6 : Int) (vl : ByteArray) (k7 : Int) (rs : List ByteArray) (k8 : Int) (ws : List ByteArray) (k9 : Int) (w : World) (E1 : Hid (gi s 9 0 0 = (kd, k1, 0))) (R1 : Hid (rest s k1 = s1)) (Z1 : Hid (s1.size < 4611686018427387904)) (E2 : Hid (gt s1 = (f, k2, 0))) (R2 : Hid (rest s1 k2 = s2)) (Z2 : Hid (s2.size < 4611686018427387904)) (E3 : Hid (gt s2 = (t, k3, 0))) (R3 : Hid (rest s2 k3 = s3)) (Z3 : Hid (s3.size < 4611686018427387904)) (E4 : Hid (gi s3 9 0 0 = (am, k4, 0))) (R4 : Hid (rest s3 k4 = s4)) (Z4 : Hid (s4.size < 4611686018427387904)) (E5 : Hid (gi s4 9 0 0 = (nc, k5, 0))) (R5 : Hid (rest s4 k5 = s5)) (Z5 : Hid (s5.size < 4611686018427387904)) (E6 : Hid (gt s5 = (ky', k6, 0))) (R6 : Hid (rest s5 k6 = s6)) (Z6 : Hid (s6.size < 4611686018427387904)) (E7 : Hid (gt s6 = (vl, k7, 0))) (R7 : Hid (rest s6 k7 = s7)) (Z7 : Hid (s7.size < 4611686018427387904)) (E8 : Hid (gl s7 8 = (rs, k8, 0))) (R8 : Hid (rest s7 k8 = s8)) (Z8 : Hid (s8.size < 4611686018427387904)) (E9 : Hid (gl s8 8 = (ws, k9, 0))) (R9 : Hid (rest s8 k9 = s9)) (Z9 : Hid (s9.size < 4611686018427387904)) (hk : kd ≤ 2) (h9 : s9.toList.isEmpty = false) :
    Calls Tryd.prog 25 #[.string s] w fun e w' => e = .returned (.tuple #[zagg, .int .i64 6]) ∧ Below w.heap.size w w' := by
  have d1 : decide (kd ≤ 2) = true := decide_eq_true hk
  clear hk
  have hmf : ∀ (fn : Fn) (first cap : Array Value) (w : World), (Instr.makeFunc fn first cap).run Tryd.prog w = .ok (.func fn first cap) w := fun _ _ _ _ => rfl
  go_enter_defers Tryd.func25, Tryd.ntmps25
  have HX := Lib.hid (Dx.first w s)
  go_upto_region 9 with (first
  | (go_at_call 52
     refine (int_ok' (w.heap.size + 1 + 1) s s1 kd k1 _ E1.out R1.out HX.out.rd).mono ?_
     rintro e w2 ⟨rfl, hr⟩
     have HX := Lib.hid (HX.out.read hr)
     obtain ⟨t0, t1, t2, t3, t4, t5, t6, t7, t8, u0, u1, u2, u3, u4, u5, u6, u7, u8⟩ := tx9 HX.out.tx
     clear hr)
  | (go_at_call 53
     refine (text_ok' (w.heap.size + 1 + 1) s1 s2 f k2 _ Z1.out E2.out R2.out HX.out.rd).mono ?_
     rintro e w2 ⟨rfl, hr⟩
     have HX := Lib.hid (HX.out.read hr)
     obtain ⟨t0, t1, t2, t3, t4, t5, t6, t7, t8, u0, u1, u2, u3, u4, u5, u6, u7, u8⟩ := tx9 HX.out.tx
     clear hr)
  | (go_at_call 53
     refine (text_ok' (w.heap.size + 1 + 1) s2 s3 t k3 _ Z2.out E3.out R3.out HX.out.rd).mono ?_
     rintro e w2 ⟨rfl, hr⟩
     have HX := Lib.hid (HX.out.read hr)
     obtain ⟨t0, t1, t2, t3, t4, t5, t6, t7, t8, u0, u1, u2, u3, u4, u5, u6, u7, u8⟩ := tx9 HX.out.tx
     clear hr)
  | (go_at_call 52
     refine (int_ok' (w.heap.size + 1 + 1) s3 s4 am k4 _ E4.out R4.out ((HX.out.set1 (.string f)).set2 (.string t)).rd).mono ?_
     rintro e w2 ⟨rfl, hr⟩
     have HX := Lib.hid (((HX.out.set1 (.string f)).set2 (.string t)).read hr)
     obtain ⟨t0, t1, t2, t3, t4, t5, t6, t7, t8, u0, u1, u2, u3, u4, u5, u6, u7, u8⟩ := tx9 HX.out.tx
     clear hr)
  | (go_at_call 52
     refine (int_ok' (w.heap.size + 1 + 1) s4 s5 nc k5 _ E5.out R5.out HX.out.rd).mono ?_
     rintro e w2 ⟨rfl, hr⟩
     have HX := Lib.hid (HX.out.read hr)
     obtain ⟨t0, t1, t2, t3, t4, t5, t6, t7, t8, u0, u1, u2, u3, u4, u5, u6, u7, u8⟩ := tx9 HX.out.tx
     clear hr)
  | (go_at_call 53
     refine (text_ok' (w.heap.size + 1 + 1) s5 s6 ky' k6 _ Z5.out E6.out R6.out ((HX.out.set3 (.int .u64 am)).set4 (.int .u64 nc)).rd).mono ?_
     rintro e w2 ⟨rfl, hr⟩
     have HX := Lib.hid (((HX.out.set3 (.int .u64 am)).set4 (.int .u64 nc)).read hr)
     obtain ⟨t0, t1, t2, t3, t4, t5, t6, t7, t8, u0, u1, u2, u3, u4, u5, u6, u7, u8⟩ := tx9 HX.out.tx
     clear hr)
  | (go_at_call 53
     refine (text_ok' (w.heap.size + 1 + 1) s6 s7 vl k7 _ Z6.out E7.out R7.out HX.out.rd).mono ?_
     rintro e w2 ⟨rfl, hr⟩
     have HX := Lib.hid (HX.out.read hr)
     obtain ⟨t0, t1, t2, t3, t4, t5, t6, t7, t8, u0, u1, u2, u3, u4, u5, u6, u7, u8⟩ := tx9 HX.out.tx
     clear hr)
  | (go_at_call 54
     refine (list_ok' (w.heap.size + 1 + 1) s7 s8 rs k8 _ Z7.out E8.out R8.out ((HX.out.set5 (.string ky')).set6 (.string vl)).rd).mono ?_
     rintro e w2 ⟨v7, rfl, hR7, hr⟩
     obtain ⟨A7, c7, rfl, hc7, hC7⟩ := Kd.R_reads hR7
     have HC7 := Lib.hid hc7
     clear hc7 hC7
     have HR7 := Lib.hid hR7
     have HB7 := Lib.hid (((HX.out.set5 (.string ky')).set6 (.string vl)).low.size)
     have HX := Lib.hid (((HX.out.set5 (.string ky')).set6 (.string vl)).read hr)
     obtain ⟨t0, t1, t2, t3, t4, t5, t6, t7, t8, u0, u1, u2, u3, u4, u5, u6, u7, u8⟩ := tx9 HX.out.tx
     clear hr hR7)
  | (go_at_call 54
     refine (list_ok' (w.heap.size + 1 + 1) s8 s9 ws k9 _ Z8.out E9.out R9.out HX.out.rd).mono ?_
     rintro e w2 ⟨v8, rfl, hR8, hr⟩
     have HR7 := Lib.hid (hr.row HR7.out)
     obtain ⟨A8, c8, rfl, hc8, hC8⟩ := Kd.R_reads hR8
     have HC8 := Lib.hid hc8
     clear hc8 hC8
     have HR8 := Lib.hid hR8
     have HB8 := Lib.hid (HX.out.low.size)
     have HX := Lib.hid (HX.out.read hr)
     obtain ⟨t0, t1, t2, t3, t4, t5, t6, t7, t8, u0, u1, u2, u3, u4, u5, u6, u7, u8⟩ := tx9 HX.out.tx
     clear hr hR8))
  have HX := Lib.hid ((HX.out.set7 (.slice A7 rs.length c7)).set8 (.slice A8 ws.length c8))
  have q9 : _ = some (Value.string s9) := blk_cell HX.out.rd 0
  go_wp2_with (first | (go_at_call 55; first | (with_reducible refine (check_ok _ _).mono ?_; rintro e w'' ⟨rfl, hw⟩; have hw := hw.symm; subst hw) | (with_reducible refine (check_no _ _).mono ?_; rintro e w'' ⟨rfl, hw⟩; have hw := hw.symm; subst hw)))
  refine leaves_cons (f := 51) (args := #[.pointer (some ⟨w.heap.size + 1, 0, none⟩)]) (by simp) (by simp [go_sem]) ?_
  refine (caught_panicking ⟨w.heap.size + 1, 0, none⟩ 0 6 [] _ (blk_cell HX.out.er 0) (blk_frozen HX.out.er 0)).mono ?_
  rintro e u' w'' ⟨rfl, rfl, rfl⟩
  refine leaves_cons (f := 50) (args := #[.pointer (some ⟨w.heap.size + 1, 0, none⟩), .pointer (some ⟨w.heap.size, 0, none⟩)]) (by simp [settle]) (by simp [go_sem]) ?_
  have hdied := HX.out.died 6
  refine (undo_yes (w.heap.size + 1) w.heap.size 6 (by decide) _ _ _ _ _ _ _ _ _ _ hdied.1 hdied.2.1).mono ?_
  rintro e u' w'' ⟨rfl, rfl, rfl⟩
  have hz := zset_box _ w.heap.size _ _ _ _ _ _ _ _ _ hdied.2.1
  have hze := (zset_blk _ w.heap.size (w.heap.size + 1) (by omega)).trans hdied.1
  have hzb := zset_below hdied.2.2 (Nat.le_refl _)
  generalize zset _ w.heap.size = Z at hz hze hzb ⊢
  have d0 : Z.cell? ⟨w.heap.size, 0, none⟩ = some (.int .i64 0) := blk_cell hz 0
  have d1 : Z.cell? ⟨w.heap.size, 1, none⟩ = some (.string ⟨#[]⟩) := blk_cell hz 1
  have d2 : Z.cell? ⟨w.heap.size, 2, none⟩ = some (.string ⟨#[]⟩) := blk_cell hz 2
  have d3 : Z.cell? ⟨w.heap.size, 3, none⟩ = some (.int .u64 0) := blk_cell hz 3
  have d4 : Z.cell? ⟨w.heap.size, 4, none⟩ = some (.int .u64 0) := blk_cell hz 4
  have d5 : Z.cell? ⟨w.heap.size, 5, none⟩ = some (.string ⟨#[]⟩) := blk_cell hz 5
  have d6 : Z.cell? ⟨w.heap.size, 6, none⟩ = some (.string ⟨#[]⟩) := blk_cell hz 6
  have d7 : Z.cell? ⟨w.heap.size, 7, none⟩ = some (.slice none 0 0) := blk_cell hz 7
  have d8 : Z.cell? ⟨w.heap.size, 8, none⟩ = some (.slice none 0 0) := blk_cell hz 8
  have de : Z.cell? ⟨w.heap.size + 1, 0, none⟩ = some (.int .i64 (6)) := blk_cell hze 0
  clear hz hze hdied
  have HZ := Lib.hid hzb
  clear hzb
  simp [Leaves, settle, results, Tryd.results25, go_sem, d0, d1, d2, d3, d4, d5, d6, d7, d8, de]
  exact ⟨rfl, HZ.out⟩
end Go.Proofs.YtndicjikjcifaaaDoor
/- tx.Decode: its last way out, and all ways joined. -/
namespace Go.Proofs.YtndicjikjcifaaaDoor
open Go.RowKit Go.Shelf Go.Lib Go.Proofs.YtndicjikjcifaaaDoorW.PrintWords Go.Proofs.YtndicjikjcifaaaDoorW.PrintLast
set_option linter.unusedVariables false
set_option linter.unusedSimpArgs false
abbrev Dec := Int × ByteArray × ByteArray × Int × Int × ByteArray × ByteArray × List ByteArray × List ByteArray × Int
def derr (e : Int) : Dec := (0, ⟨#[]⟩, ⟨#[]⟩, 0, 0, ⟨#[]⟩, ⟨#[]⟩, [], [], e)
def fin9 (kd : Int) (f t : ByteArray) (am nc : Int) (ky' vl : ByteArray) (rs ws : List ByteArray) : Dec :=
  if ch kd f t am nc ky' vl rs ws = 0 then (kd, f, t, am, nc, ky', vl, rs, ws, 0) else derr (ch kd f t am nc ky' vl rs ws)
def DP (r : Dec) (w : World) (e : Ending) (w' : World) : Prop :=
  ∃ v8 v9, e = .returned (.tuple #[.agg #[.int .i64 r.1, .string r.2.1, .string r.2.2.1, .int .u64 r.2.2.2.1, .int .u64 r.2.2.2.2.1, .string r.2.2.2.2.2.1, .string r.2.2.2.2.2.2.1, v8, v9], .int .i64 r.2.2.2.2.2.2.2.2.2])
    ∧ Kd.R Kd.string 9 w' w.heap.size (fun k => some k ≠ v9.ownBlock) v8 r.2.2.2.2.2.2.2.1
    ∧ Kd.R Kd.string 9 w' w.heap.size (fun k => some k ≠ v8.ownBlock) v9 r.2.2.2.2.2.2.2.2.1
    ∧ Below w.heap.size w w'
theorem apart_of {u v : Value} {n : Nat} (h1 : ∀ k, u.ownBlock = some k → k < n) (h2 : ∀ k, v.ownBlock = some k → n ≤ k) : (∀ k, u.ownBlock = some k → some k ≠ v.ownBlock) ∧ (∀ k, v.ownBlock = some k → some k ≠ u.ownBlock) :=
  ⟨fun k hk e => by have := h1 k hk; have := h2 k e.symm; omega, fun k hk e => by have := h2 k hk; have := h1 k e.symm; omega⟩
structure Fx (w : World) (c : Array Value) (x : Int) (v7 v8 : Value) (rs ws : List ByteArray) (Z : World) : Prop where
  low : Below w.heap.size w Z
  tx : Z.heap[w.heap.size]? = some (.cells c 33 (0, 0))
  er : Z.heap[w.heap.size + 1]? = some (.cells #[.int .i64 x] 24 (0, 0))
  r7 : Kd.R Kd.string 9 Z w.heap.size (fun k => some k = v7.ownBlock) v7 rs
  r8 : Kd.R Kd.string 9 Z w.heap.size (fun k => some k = v8.ownBlock) v8 ws
theorem DP_err {w w' : World} {e : Ending} (x : Int) (he : e = .returned (.tuple #[zagg, .int .i64 x])) (hb : Below w.heap.size w w') : DP (derr x) w e w' :=
  ⟨_, _, he, Kd.R_nil _ _ _ _ _, Kd.R_nil _ _ _ _ _, hb⟩
theorem Fx.made {w W : World} {b0 b1 b2 b3 b4 b5 b6 b7 b8 : Value} {s : ByteArray} (h : Dx w b0 b1 b2 b3 b4 b5 b6 b7 b8 s W) {v7 v8 : Value} {rs ws : List ByteArray}
    (r7 : Kd.R Kd.string 9 W w.heap.size (fun k => some k = v7.ownBlock) v7 rs) (r8 : Kd.R Kd.string 9 W w.heap.size (fun k => some k = v8.ownBlock) v8 ws) (c0 c1 c2 c3 c4 c5 c6 c7 c8 : Value) (x : Int) :
    Fx w #[c0, c1, c2, c3, c4, c5, c6, c7, c8] x v7 v8 rs ws
      ((((((((((W.setCell ⟨w.heap.size, 0, none⟩ c0).setCell ⟨w.heap.size, 1, none⟩ c1).setCell ⟨w.heap.size, 2, none⟩ c2).setCell ⟨w.heap.size, 3, none⟩ c3).setCell ⟨w.heap.size, 4, none⟩ c4).setCell ⟨w.heap.size, 5, none⟩ c5).setCell ⟨w.heap.size, 6, none⟩ c6).setCell ⟨w.heap.size, 7, none⟩ c7).setCell ⟨w.heap.size, 8, none⟩ c8).setCell ⟨w.heap.size + 1, 0, none⟩ (.int .i64 x)) := by
  have hd := ((((((((h.set0 c0).set1 c1).set2 c2).set3 c3).set4 c4).set5 c5).set6 c6).set7 c7).set8 c8
  have ht33 : ∀ q, q ∈ 9 :: Kd.string.E → q ≠ 24 := by intro q hq; simp [Kd.string, Kd.scalar] at hq; subst hq; decide
  have D7 := Kd.R_ne r7 h.tx (by decide)
  have D8 := Kd.R_ne r8 h.tx (by decide)
  have E7 := Kd.R_ne r7 h.er (by decide)
  have E8 := Kd.R_ne r8 h.er (by decide)
  refine ⟨hd.low.setCell (by simp) _, (Below.heap_setCell _ _ _ _ (by simp)).trans hd.tx, by simpa using blk_set hd.er 0 (.int .i64 x), ?_, ?_⟩
  · refine Kd.R_step r7 (fun k hk hlt => ?_)
    have n1 : k ≠ w.heap.size := fun e => D7 (by rw [← e]; exact hk)
    have n2 : k ≠ w.heap.size + 1 := fun e => E7 (by rw [← e]; exact hk)
    rw [Below.heap_setCell _ _ _ _ n2]
    iterate 9 rw [Below.heap_setCell _ _ _ _ n1]
  · refine Kd.R_step r8 (fun k hk hlt => ?_)
    have n1 : k ≠ w.heap.size := fun e => D8 (by rw [← e]; exact hk)
    have n2 : k ≠ w.heap.size + 1 := fun e => E8 (by rw [← e]; exact hk)
    rw [Below.heap_setCell _ _ _ _ n2]
    iterate 9 rw [Below.heap_setCell _ _ _ _ n1]
set_option maxHeartbeats 8000000 in
set_option maxRecDepth 100000 in
theorem dec_chk (s s1 s2 s3 s4 s5 s6 s7 s8 s9 : ByteArray) (kd : Int) (k1 : Int) (f : ByteArray) (k2 : Int) (t : ByteArray) (k3 : Int) (am : Int) (k4 : Int) (nc : Int) (k5 : Int) (ky' : ByteArray) (k6 : Int) (vl : ByteArray) (k7 : Int) (rs : List ByteArray) (k8 : Int) (ws : List ByteArray) (k9 : Int) (w : World) (E1 : Hid (gi s 9 0 0 = (kd, k1, 0))) (R1 : Hid (rest s k1 = s1)) (Z1 : Hid (s1.size < 4611686018427387904)) (E2 : Hid (gt s1 = (f, k2, 0))) (R2 : Hid (rest s1 k2 = s2)) (Z2 : Hid (s2.size < 4611686018427387904)) (E3 : Hid (gt s2 = (t, k3, 0))) (R3 : Hid (rest s2 k3 = s3)) (Z3 : Hid (s3.size < 4611686018427387904)) (E4 : Hid (gi s3 9 0 0 = (am, k4, 0))) (R4 : Hid (rest s3 k4 = s4)) (Z4 : Hid (s4.size < 4611686018427387904)) (E5 : Hid (gi s4 9 0 0 = (nc, k5, 0))) (R5 : Hid (rest s4 k5 = s5)) (Z5 : Hid (s5.size < 4611686018427387904)) (E6 : Hid (gt s5 = (ky', k6, 0))) (R6 : Hid (rest s5 k6 = s6)) (Z6 : Hid (s6.size < 4611686018427387904)) (E7 : Hid (gt s6 = (vl, k7, 0))) (R7 : Hid (rest s6 k7 = s7)) (Z7 : Hid (s7.size < 4611686018427387904)) (E8 : Hid (gl s7 8 = (rs, k8, 0))) (R8 : Hid (rest s7 k8 = s8)) (Z8 : Hid (s8.size < 4611686018427387904)) (E9 : Hid (gl s8 8 = (ws, k9, 0))) (R9 : Hid (rest s8 k9 = s9)) (Z9 : Hid (s9.size < 4611686018427387904)) (hk : kd ≤ 2) (hk0 : 0 ≤ kd) (h9 : s9.toList.isEmpty = true) :
    Calls Tryd.prog 25 #[.string s] w fun e w' => DP (fin9 kd f t am nc ky' vl rs ws) w e w' := by
  have d1 : decide (kd ≤ 2) = true := decide_eq_true hk
  have d2 : IntKind.i64.wrap kd = kd := by rw [IntKind.wrap_i64]; omega
  clear hk hk0
  have hmf : ∀ (fn : Fn) (first cap : Array Value) (w : World), (Instr.makeFunc fn first cap).run Tryd.prog w = .ok (.func fn first cap) w := fun _ _ _ _ => rfl
  go_enter_defers Tryd.func25, Tryd.ntmps25
  have HX := Lib.hid (Dx.first w s)
  go_upto_region 9 with (first
  | (go_at_call 52
     refine (int_ok' (w.heap.size + 1 + 1) s s1 kd k1 _ E1.out R1.out HX.out.rd).mono ?_
     rintro e w2 ⟨rfl, hr⟩
     have HX := Lib.hid (HX.out.read hr)
     obtain ⟨t0, t1, t2, t3, t4, t5, t6, t7, t8, u0, u1, u2, u3, u4, u5, u6, u7, u8⟩ := tx9 HX.out.tx
     clear hr)
  | (go_at_call 53
     refine (text_ok' (w.heap.size + 1 + 1) s1 s2 f k2 _ Z1.out E2.out R2.out HX.out.rd).mono ?_
     rintro e w2 ⟨rfl, hr⟩
     have HX := Lib.hid (HX.out.read hr)
     obtain ⟨t0, t1, t2, t3, t4, t5, t6, t7, t8, u0, u1, u2, u3, u4, u5, u6, u7, u8⟩ := tx9 HX.out.tx
     clear hr)
  | (go_at_call 53
     refine (text_ok' (w.heap.size + 1 + 1) s2 s3 t k3 _ Z2.out E3.out R3.out HX.out.rd).mono ?_
     rintro e w2 ⟨rfl, hr⟩
     have HX := Lib.hid (HX.out.read hr)
     obtain ⟨t0, t1, t2, t3, t4, t5, t6, t7, t8, u0, u1, u2, u3, u4, u5, u6, u7, u8⟩ := tx9 HX.out.tx
     clear hr)
  | (go_at_call 52
     refine (int_ok' (w.heap.size + 1 + 1) s3 s4 am k4 _ E4.out R4.out ((HX.out.set1 (.string f)).set2 (.string t)).rd).mono ?_
     rintro e w2 ⟨rfl, hr⟩
     have HX := Lib.hid (((HX.out.set1 (.string f)).set2 (.string t)).read hr)
     obtain ⟨t0, t1, t2, t3, t4, t5, t6, t7, t8, u0, u1, u2, u3, u4, u5, u6, u7, u8⟩ := tx9 HX.out.tx
     clear hr)
  | (go_at_call 52
     refine (int_ok' (w.heap.size + 1 + 1) s4 s5 nc k5 _ E5.out R5.out HX.out.rd).mono ?_
     rintro e w2 ⟨rfl, hr⟩
     have HX := Lib.hid (HX.out.read hr)
     obtain ⟨t0, t1, t2, t3, t4, t5, t6, t7, t8, u0, u1, u2, u3, u4, u5, u6, u7, u8⟩ := tx9 HX.out.tx
     clear hr)
  | (go_at_call 53
     refine (text_ok' (w.heap.size + 1 + 1) s5 s6 ky' k6 _ Z5.out E6.out R6.out ((HX.out.set3 (.int .u64 am)).set4 (.int .u64 nc)).rd).mono ?_
     rintro e w2 ⟨rfl, hr⟩
     have HX := Lib.hid (((HX.out.set3 (.int .u64 am)).set4 (.int .u64 nc)).read hr)
     obtain ⟨t0, t1, t2, t3, t4, t5, t6, t7, t8, u0, u1, u2, u3, u4, u5, u6, u7, u8⟩ := tx9 HX.out.tx
     clear hr)
  | (go_at_call 53
     refine (text_ok' (w.heap.size + 1 + 1) s6 s7 vl k7 _ Z6.out E7.out R7.out HX.out.rd).mono ?_
     rintro e w2 ⟨rfl, hr⟩
     have HX := Lib.hid (HX.out.read hr)
     obtain ⟨t0, t1, t2, t3, t4, t5, t6, t7, t8, u0, u1, u2, u3, u4, u5, u6, u7, u8⟩ := tx9 HX.out.tx
     clear hr)
  | (go_at_call 54
     refine (list_ok' (w.heap.size + 1 + 1) s7 s8 rs k8 _ Z7.out E8.out R8.out ((HX.out.set5 (.string ky')).set6 (.string vl)).rd).mono ?_
     rintro e w2 ⟨v7, rfl, hR7, hr⟩
     obtain ⟨A7, c7, rfl, hc7, hC7⟩ := Kd.R_reads hR7
     have HC7 := Lib.hid hc7
     clear hc7 hC7
     have HR7 := Lib.hid hR7
     have HB7 := Lib.hid (((HX.out.set5 (.string ky')).set6 (.string vl)).low.size)
     have HX := Lib.hid (((HX.out.set5 (.string ky')).set6 (.string vl)).read hr)
     obtain ⟨t0, t1, t2, t3, t4, t5, t6, t7, t8, u0, u1, u2, u3, u4, u5, u6, u7, u8⟩ := tx9 HX.out.tx
     clear hr hR7)
  | (go_at_call 54
     refine (list_ok' (w.heap.size + 1 + 1) s8 s9 ws k9 _ Z8.out E9.out R9.out HX.out.rd).mono ?_
     rintro e w2 ⟨v8, rfl, hR8, hr⟩
     have HN7 := Lib.hid (Kd.R_lt HR7.out)
     have HR7 := Lib.hid (hr.row (Kd.R_mono (Kd.R_bound HR7.out) (ok' := fun k => k < _) (fun k hk => hk.2.2.1)))
     obtain ⟨A8, c8, rfl, hc8, hC8⟩ := Kd.R_reads hR8
     have HC8 := Lib.hid hc8
     clear hc8 hC8
     have HR8 := Lib.hid hR8
     have HB8 := Lib.hid (HX.out.low.size)
     have HX := Lib.hid (HX.out.read hr)
     obtain ⟨t0, t1, t2, t3, t4, t5, t6, t7, t8, u0, u1, u2, u3, u4, u5, u6, u7, u8⟩ := tx9 HX.out.tx
     clear hr hR8))
  have H0 := HX
  have HX := Lib.hid ((HX.out.set7 (.slice A7 rs.length c7)).set8 (.slice A8 ws.length c8))
  have q9 : _ = some (Value.string s9) := blk_cell HX.out.rd 0
  go_upto_region 12 with (first | (go_at_call 55; first | (with_reducible refine (check_ok _ _).mono ?_; rintro e w'' ⟨rfl, hw⟩; have hw := hw.symm; subst hw) | (with_reducible refine (check_no _ _).mono ?_; rintro e w'' ⟨rfl, hw⟩; have hw := hw.symm; subst hw)))
  have HX1 := HX.out.set0 (.int .i64 kd)
  have HX := Lib.hid HX1
  have y0 := blk_cell HX1.tx 0; have z0 := blk_frozen HX1.tx 0; simp only [List.getElem?_toArray, List.getElem?_cons_zero, List.getElem?_cons_succ] at y0
  have y1 := blk_cell HX1.tx 1; have z1 := blk_frozen HX1.tx 1; simp only [List.getElem?_toArray, List.getElem?_cons_zero, List.getElem?_cons_succ] at y1
  have y2 := blk_cell HX1.tx 2; have z2 := blk_frozen HX1.tx 2; simp only [List.getElem?_toArray, List.getElem?_cons_zero, List.getElem?_cons_succ] at y2
  have y3 := blk_cell HX1.tx 3; have z3 := blk_frozen HX1.tx 3; simp only [List.getElem?_toArray, List.getElem?_cons_zero, List.getElem?_cons_succ] at y3
  have y4 := blk_cell HX1.tx 4; have z4 := blk_frozen HX1.tx 4; simp only [List.getElem?_toArray, List.getElem?_cons_zero, List.getElem?_cons_succ] at y4
  have y5 := blk_cell HX1.tx 5; have z5 := blk_frozen HX1.tx 5; simp only [List.getElem?_toArray, List.getElem?_cons_zero, List.getElem?_cons_succ] at y5
  have y6 := blk_cell HX1.tx 6; have z6 := blk_frozen HX1.tx 6; simp only [List.getElem?_toArray, List.getElem?_cons_zero, List.getElem?_cons_succ] at y6
  have y7 := blk_cell HX1.tx 7; have z7 := blk_frozen HX1.tx 7; simp only [List.getElem?_toArray, List.getElem?_cons_zero, List.getElem?_cons_succ] at y7
  have y8 := blk_cell HX1.tx 8; have z8 := blk_frozen HX1.tx 8; simp only [List.getElem?_toArray, List.getElem?_cons_zero, List.getElem?_cons_succ] at y8
  clear HX1
  have ht9 : ∀ q, q ∈ 9 :: Kd.string.E → q ≠ 33 := by intro q hq; simp [Kd.string, Kd.scalar] at hq; subst hq; decide
  have C7 := Lib.hid (C_of_R (Kd.R_drew (Kd.R_set (Kd.R_set (Kd.R_set HR7.out H0.out.tx ht9 7 (.slice A7 rs.length c7)) (H0.out.set7 _).tx ht9 8 (.slice A8 ws.length c8)) ((H0.out.set7 _).set8 _).tx ht9 0 (.int .i64 kd))))
  have C8 := Lib.hid (C_of_R (Kd.R_drew (Kd.R_set (Kd.R_set (Kd.R_set HR8.out H0.out.tx ht9 7 (.slice A7 rs.length c7)) (H0.out.set7 _).tx ht9 8 (.slice A8 ws.length c8)) ((H0.out.set7 _).set8 _).tx ht9 0 (.int .i64 kd))))
  have ht9 := Lib.hid ht9
  go_region_with (first
    | (go_at_call 41
       go_must (refine (chk_calls kd f t am nc ky' vl A7 A8 c7 c8 rs ws _ C7.out HC7.out C8.out HC8.out).mono ?_)
       rintro e w3 ⟨rfl, hB⟩
       have T7 := Lib.hid (Kd.R_tight rfl (Kd.R_lower (Kd.R_below (Kd.R_drew (Kd.R_set (Kd.R_set (Kd.R_set HR7.out H0.out.tx ht9.out 7 (.slice A7 rs.length c7)) (H0.out.set7 _).tx ht9.out 8 (.slice A8 ws.length c8)) ((H0.out.set7 _).set8 _).tx ht9.out 0 (.int .i64 kd))) hB) HB7.out))
       have T8 := Lib.hid (Kd.R_tight rfl (Kd.R_lower (Kd.R_below (Kd.R_drew (Kd.R_set (Kd.R_set (Kd.R_set HR8.out H0.out.tx ht9.out 7 (.slice A7 rs.length c7)) (H0.out.set7 _).tx ht9.out 8 (.slice A8 ws.length c8)) ((H0.out.set7 _).set8 _).tx ht9.out 0 (.int .i64 kd))) hB) HB8.out))
       have P7 := Lib.hid (apart_of HN7.out (Kd.R_base HR8.out))
       have HX := Lib.hid ((HX.out.step ((Below.refl _ _).drew)).step hB)
       clear C7 C8
       clear hB
       have y0 := blk_cell HX.out.tx 0; have z0 := blk_frozen HX.out.tx 0; simp only [List.getElem?_toArray, List.getElem?_cons_zero, List.getElem?_cons_succ] at y0
       have y1 := blk_cell HX.out.tx 1; have z1 := blk_frozen HX.out.tx 1; simp only [List.getElem?_toArray, List.getElem?_cons_zero, List.getElem?_cons_succ] at y1
       have y2 := blk_cell HX.out.tx 2; have z2 := blk_frozen HX.out.tx 2; simp only [List.getElem?_toArray, List.getElem?_cons_zero, List.getElem?_cons_succ] at y2
       have y3 := blk_cell HX.out.tx 3; have z3 := blk_frozen HX.out.tx 3; simp only [List.getElem?_toArray, List.getElem?_cons_zero, List.getElem?_cons_succ] at y3
       have y4 := blk_cell HX.out.tx 4; have z4 := blk_frozen HX.out.tx 4; simp only [List.getElem?_toArray, List.getElem?_cons_zero, List.getElem?_cons_succ] at y4
       have y5 := blk_cell HX.out.tx 5; have z5 := blk_frozen HX.out.tx 5; simp only [List.getElem?_toArray, List.getElem?_cons_zero, List.getElem?_cons_succ] at y5
       have y6 := blk_cell HX.out.tx 6; have z6 := blk_frozen HX.out.tx 6; simp only [List.getElem?_toArray, List.getElem?_cons_zero, List.getElem?_cons_succ] at y6
       have y7 := blk_cell HX.out.tx 7; have z7 := blk_frozen HX.out.tx 7; simp only [List.getElem?_toArray, List.getElem?_cons_zero, List.getElem?_cons_succ] at y7
       have y8 := blk_cell HX.out.tx 8; have z8 := blk_frozen HX.out.tx 8; simp only [List.getElem?_toArray, List.getElem?_cons_zero, List.getElem?_cons_succ] at y8
       have ye : w3.cell? ⟨w.heap.size + 1, 0, none⟩ = some (.int .i64 0) := blk_cell HX.out.er 0
       have ze := blk_frozen HX.out.er 0
       clear HR7 HR8 HN7 HB7 HB8 HC7 HC8 H0))
  all_goals go_wp2
  all_goals
    refine at_world (Fx.made HX.out T7.out T8.out (.int .i64 kd) (.string f) (.string t) (.int .u64 am) (.int .u64 nc) (.string ky') (.string vl) (.slice A7 rs.length c7) (.slice A8 ws.length c8) (ch kd f t am nc ky' vl rs ws)) ?_
    clear y0 y1 y2 y3 y4 y5 y6 y7 y8 ye z0 z1 z2 z3 z4 z5 z6 z7 z8 ze u0 u1 u2 u3 u4 u5 u6 u7 u8 t0 t1 t2 t3 t4 t5 t6 t7 t8 q9 HX T7 T8 ht9 d1 d2 h9
    intro Z HZ
    have HZ := Lib.hid HZ
    refine leaves_cons (f := 51) (args := #[.pointer (some ⟨w.heap.size + 1, 0, none⟩)]) (by simp) (by simp [go_sem]) ?_
    refine (caught_idle ⟨w.heap.size + 1, 0, none⟩ _).mono ?_
    rintro e u' w'' ⟨rfl, rfl, rfl⟩
    refine leaves_cons (f := 50) (args := #[.pointer (some ⟨w.heap.size + 1, 0, none⟩), .pointer (some ⟨w.heap.size, 0, none⟩)]) (by simp [settle]) (by simp [go_sem]) ?_
    by_cases hc : ch kd f t am nc ky' vl rs ws = 0
    · have hze := HZ.out.er
      rw [hc] at hze
      refine (undo_no (w.heap.size + 1) w.heap.size _ hze).mono ?_
      rintro e u' w'' ⟨rfl, rfl, rfl⟩
      have hz := HZ.out.tx
      have e0 := blk_cell hz 0
      have e1 := blk_cell hz 1
      have e2 := blk_cell hz 2
      have e3 := blk_cell hz 3
      have e4 := blk_cell hz 4
      have e5 := blk_cell hz 5
      have e6 := blk_cell hz 6
      have e7 := blk_cell hz 7
      have e8 := blk_cell hz 8
      have e9 := blk_cell hze 0
      simp only [List.getElem?_toArray, List.getElem?_cons_zero, List.getElem?_cons_succ] at e0 e1 e2 e3 e4 e5 e6 e7 e8 e9
      clear hz hze
      rw [fin9, if_pos hc]
      clear hc
      simp [Leaves, settle, results, Tryd.results25, go_sem, e0, e1, e2, e3, e4, e5, e6, e7, e8, e9]
      exact ⟨_, _, rfl, Kd.R_reok rfl HZ.out.r7 P7.out.1, Kd.R_reok rfl HZ.out.r8 P7.out.2, HZ.out.low⟩
    · rw [fin9, if_neg hc]
      refine (undo_yes (w.heap.size + 1) w.heap.size _ hc _ _ _ _ _ _ _ _ _ _ HZ.out.er HZ.out.tx).mono ?_
      rintro e u' w'' ⟨rfl, rfl, rfl⟩
      have hz := zset_box _ w.heap.size _ _ _ _ _ _ _ _ _ HZ.out.tx
      have hze := (zset_blk _ w.heap.size (w.heap.size + 1) (by omega)).trans HZ.out.er
      have hzb := zset_below HZ.out.low (Nat.le_refl _)
      generalize ch kd f t am nc ky' vl rs ws = x at hze hc ⊢
      clear HZ
      generalize zset _ w.heap.size = Y at hz hze hzb ⊢
      have d0 : Y.cell? ⟨w.heap.size, 0, none⟩ = some (.int .i64 0) := blk_cell hz 0
      have d1 : Y.cell? ⟨w.heap.size, 1, none⟩ = some (.string ⟨#[]⟩) := blk_cell hz 1
      have d2 : Y.cell? ⟨w.heap.size, 2, none⟩ = some (.string ⟨#[]⟩) := blk_cell hz 2
      have d3 : Y.cell? ⟨w.heap.size, 3, none⟩ = some (.int .u64 0) := blk_cell hz 3
      have d4 : Y.cell? ⟨w.heap.size, 4, none⟩ = some (.int .u64 0) := blk_cell hz 4
      have d5 : Y.cell? ⟨w.heap.size, 5, none⟩ = some (.string ⟨#[]⟩) := blk_cell hz 5
      have d6 : Y.cell? ⟨w.heap.size, 6, none⟩ = some (.string ⟨#[]⟩) := blk_cell hz 6
      have d7 : Y.cell? ⟨w.heap.size, 7, none⟩ = some (.slice none 0 0) := blk_cell hz 7
      have d8 : Y.cell? ⟨w.heap.size, 8, none⟩ = some (.slice none 0 0) := blk_cell hz 8
      have de : Y.cell? ⟨w.heap.size + 1, 0, none⟩ = some (.int .i64 x) := blk_cell hze 0
      clear hz hze
      have HZ := Lib.hid hzb
      clear hzb hc
      simp [Leaves, settle, results, Tryd.results25, go_sem, d0, d1, d2, d3, d4, d5, d6, d7, d8, de]
      exact DP_err _ rfl HZ.out
end Go.Proofs.YtndicjikjcifaaaDoor
/- tx.Decode: all ways joined. -/
namespace Go.Proofs.YtndicjikjcifaaaDoor
open Go.RowKit Go.Shelf Go.Lib Go.Proofs.YtndicjikjcifaaaDoorW.PrintWords Go.Proofs.YtndicjikjcifaaaDoorW.PrintLast
set_option linter.unusedVariables false
set_option linter.unusedSimpArgs false
def bindE {α : Type} (x : α × Int × Int) (s : ByteArray) (k : α → ByteArray → Dec) : Dec := if x.2.2 = 0 then k x.1 (rest s x.2.1) else derr x.2.2
theorem bindE_no {α : Type} {x : α × Int × Int} {s : ByteArray} {k : α → ByteArray → Dec} (h : x.2.2 ≠ 0) : bindE x s k = derr x.2.2 := if_neg h
theorem bindE_ok {α : Type} {x : α × Int × Int} {s s' : ByteArray} {k : α → ByteArray → Dec} {a : α} {n : Int} (h : x = (a, n, 0)) (hr : rest s n = s') : bindE x s k = k a s' := by
  subst h
  subst hr
  exact if_pos rfl
theorem ok_of {α : Type} {x : α × Int × Int} (h : x.2.2 = 0) : ∃ a n, x = (a, n, 0) := ⟨x.1, x.2.1, by rw [← h]⟩
def dec (s : ByteArray) : Dec :=
  bindE (gi s 9 0 0) s fun kd s1 => bindE (gt s1) s1 fun f s2 => bindE (gt s2) s2 fun t s3 => bindE (gi s3 9 0 0) s3 fun am s4 => bindE (gi s4 9 0 0) s4 fun nc s5 =>
  bindE (gt s5) s5 fun ky' s6 => bindE (gt s6) s6 fun vl s7 => bindE (gl s7 8) s7 fun rs s8 => bindE (gl s8 8) s8 fun ws s9 =>
  if kd ≤ 2 then (if s9.toList.isEmpty = true then fin9 kd f t am nc ky' vl rs ws else derr 6) else derr 2
theorem dec_calls (s : ByteArray) (w : World) (hs : s.size < 4611686018427387904) :
    Calls Tryd.prog 25 #[.string s] w fun e w' => DP (dec s) w e w' := by
  have D : dec s = dec s := rfl
  conv at D => rhs; unfold dec
  by_cases h1 : (gi s 9 0 0).2.2 = 0
  case neg =>
    rw [D.trans (bindE_no h1)]
    exact (dec_no1 s w (Lib.hid h1)).mono fun e w' h => DP_err _ h.1 h.2
  obtain ⟨kd, k1, E1⟩ := ok_of h1
  have hkd := (gi_ok s 9 0 0 (by omega) h1).1
  rw [E1] at hkd
  obtain ⟨s1, R1⟩ : ∃ s1, rest s k1 = s1 := ⟨_, rfl⟩
  have Z1 : s1.size < 4611686018427387904 := by have := rest_size s k1; rw [R1] at this; omega
  have D := D.trans (bindE_ok E1 R1)
  clear h1
  by_cases h2 : (gt s1).2.2 = 0
  case neg =>
    rw [D.trans (bindE_no h2)]
    exact (dec_no2 s s1 kd k1 w (Lib.hid E1) (Lib.hid R1) (Lib.hid Z1) (Lib.hid h2)).mono fun e w' h => DP_err _ h.1 h.2
  obtain ⟨f, k2, E2⟩ := ok_of h2
  obtain ⟨s2, R2⟩ : ∃ s2, rest s1 k2 = s2 := ⟨_, rfl⟩
  have Z2 : s2.size < 4611686018427387904 := by have := rest_size s1 k2; rw [R2] at this; omega
  have D := D.trans (bindE_ok E2 R2)
  clear h2
  by_cases h3 : (gt s2).2.2 = 0
  case neg =>
    rw [D.trans (bindE_no h3)]
    exact (dec_no3 s s1 s2 kd k1 f k2 w (Lib.hid E1) (Lib.hid R1) (Lib.hid Z1) (Lib.hid E2) (Lib.hid R2) (Lib.hid Z2) (Lib.hid h3)).mono fun e w' h => DP_err _ h.1 h.2
  obtain ⟨t, k3, E3⟩ := ok_of h3
  obtain ⟨s3, R3⟩ : ∃ s3, rest s2 k3 = s3 := ⟨_, rfl⟩
  have Z3 : s3.size < 4611686018427387904 := by have := rest_size s2 k3; rw [R3] at this; omega
  have D := D.trans (bindE_ok E3 R3)
  clear h3
  by_cases h4 : (gi s3 9 0 0).2.2 = 0
  case neg =>
    rw [D.trans (bindE_no h4)]
    exact (dec_no4 s s1 s2 s3 kd k1 f k2 t k3 w (Lib.hid E1) (Lib.hid R1) (Lib.hid Z1) (Lib.hid E2) (Lib.hid R2) (Lib.hid Z2) (Lib.hid E3) (Lib.hid R3) (Lib.hid Z3) (Lib.hid h4)).mono fun e w' h => DP_err _ h.1 h.2
  obtain ⟨am, k4, E4⟩ := ok_of h4
  obtain ⟨s4, R4⟩ : ∃ s4, rest s3 k4 = s4 := ⟨_, rfl⟩
  have Z4 : s4.size < 4611686018427387904 := by have := rest_size s3 k4; rw [R4] at this; omega
  have D := D.trans (bindE_ok E4 R4)
  clear h4
  by_cases h5 : (gi s4 9 0 0).2.2 = 0
  case neg =>
    rw [D.trans (bindE_no h5)]
    exact (dec_no5 s s1 s2 s3 s4 kd k1 f k2 t k3 am k4 w (Lib.hid E1) (Lib.hid R1) (Lib.hid Z1) (Lib.hid E2) (Lib.hid R2) (Lib.hid Z2) (Lib.hid E3) (Lib.hid R3) (Lib.hid Z3) (Lib.hid E4) (Lib.hid R4) (Lib.hid Z4) (Lib.hid h5)).mono fun e w' h => DP_err _ h.1 h.2
  obtain ⟨nc, k5, E5⟩ := ok_of h5
  obtain ⟨s5, R5⟩ : ∃ s5, rest s4 k5 = s5 := ⟨_, rfl⟩
  have Z5 : s5.size < 4611686018427387904 := by have := rest_size s4 k5; rw [R5] at this; omega
  have D := D.trans (bindE_ok E5 R5)
  clear h5
  by_cases h6 : (gt s5).2.2 = 0
  case neg =>
    rw [D.trans (bindE_no h6)]
    exact (dec_no6 s s1 s2 s3 s4 s5 kd k1 f k2 t k3 am k4 nc k5 w (Lib.hid E1) (Lib.hid R1) (Lib.hid Z1) (Lib.hid E2) (Lib.hid R2) (Lib.hid Z2) (Lib.hid E3) (Lib.hid R3) (Lib.hid Z3) (Lib.hid E4) (Lib.hid R4) (Lib.hid Z4) (Lib.hid E5) (Lib.hid R5) (Lib.hid Z5) (Lib.hid h6)).mono fun e w' h => DP_err _ h.1 h.2
  obtain ⟨ky', k6, E6⟩ := ok_of h6
  obtain ⟨s6, R6⟩ : ∃ s6, rest s5 k6 = s6 := ⟨_, rfl⟩
  have Z6 : s6.size < 4611686018427387904 := by have := rest_size s5 k6; rw [R6] at this; omega
  have D := D.trans (bindE_ok E6 R6)
  clear h6
  by_cases h7 : (gt s6).2.2 = 0
  case neg =>
    rw [D.trans (bindE_no h7)]
    exact (dec_no7 s s1 s2 s3 s4 s5 s6 kd k1 f k2 t k3 am k4 nc k5 ky' k6 w (Lib.hid E1) (Lib.hid R1) (Lib.hid Z1) (Lib.hid E2) (Lib.hid R2) (Lib.hid Z2) (Lib.hid E3) (Lib.hid R3) (Lib.hid Z3) (Lib.hid E4) (Lib.hid R4) (Lib.hid Z4) (Lib.hid E5) (Lib.hid R5) (Lib.hid Z5) (Lib.hid E6) (Lib.hid R6) (Lib.hid Z6) (Lib.hid h7)).mono fun e w' h => DP_err _ h.1 h.2
  obtain ⟨vl, k7, E7⟩ := ok_of h7
  obtain ⟨s7, R7⟩ : ∃ s7, rest s6 k7 = s7 := ⟨_, rfl⟩
  have Z7 : s7.size < 4611686018427387904 := by have := rest_size s6 k7; rw [R7] at this; omega
  have D := D.trans (bindE_ok E7 R7)
  clear h7
  by_cases h8 : (gl s7 8).2.2 = 0
  case neg =>
    rw [D.trans (bindE_no h8)]
    exact (dec_no8 s s1 s2 s3 s4 s5 s6 s7 kd k1 f k2 t k3 am k4 nc k5 ky' k6 vl k7 w (Lib.hid E1) (Lib.hid R1) (Lib.hid Z1) (Lib.hid E2) (Lib.hid R2) (Lib.hid Z2) (Lib.hid E3) (Lib.hid R3) (Lib.hid Z3) (Lib.hid E4) (Lib.hid R4) (Lib.hid Z4) (Lib.hid E5) (Lib.hid R5) (Lib.hid Z5) (Lib.hid E6) (Lib.hid R6) (Lib.hid Z6) (Lib.hid E7) (Lib.hid R7) (Lib.hid Z7) (Lib.hid h8)).mono fun e w' h => DP_err _ h.1 h.2
  obtain ⟨rs, k8, E8⟩ := ok_of h8
  obtain ⟨s8, R8⟩ : ∃ s8, rest s7 k8 = s8 := ⟨_, rfl⟩
  have Z8 : s8.size < 4611686018427387904 := by have := rest_size s7 k8; rw [R8] at this; omega
  have D := D.trans (bindE_ok E8 R8)
  clear h8
  by_cases h9 : (gl s8 8).2.2 = 0
  case neg =>
    rw [D.trans (bindE_no h9)]
    exact (dec_no9 s s1 s2 s3 s4 s5 s6 s7 s8 kd k1 f k2 t k3 am k4 nc k5 ky' k6 vl k7 rs k8 w (Lib.hid E1) (Lib.hid R1) (Lib.hid Z1) (Lib.hid E2) (Lib.hid R2) (Lib.hid Z2) (Lib.hid E3) (Lib.hid R3) (Lib.hid Z3) (Lib.hid E4) (Lib.hid R4) (Lib.hid Z4) (Lib.hid E5) (Lib.hid R5) (Lib.hid Z5) (Lib.hid E6) (Lib.hid R6) (Lib.hid Z6) (Lib.hid E7) (Lib.hid R7) (Lib.hid Z7) (Lib.hid E8) (Lib.hid R8) (Lib.hid Z8) (Lib.hid h9)).mono fun e w' h => DP_err _ h.1 h.2
  obtain ⟨ws, k9, E9⟩ := ok_of h9
  obtain ⟨s9, R9⟩ : ∃ s9, rest s8 k9 = s9 := ⟨_, rfl⟩
  have Z9 : s9.size < 4611686018427387904 := by have := rest_size s8 k9; rw [R9] at this; omega
  have D := D.trans (bindE_ok E9 R9)
  clear h9
  rw [D]
  clear D
  by_cases hk : kd ≤ 2
  case neg =>
    rw [if_neg hk]
    exact (dec_kind s s1 s2 s3 s4 s5 s6 s7 s8 s9 kd k1 f k2 t k3 am k4 nc k5 ky' k6 vl k7 rs k8 ws k9 w (Lib.hid E1) (Lib.hid R1) (Lib.hid Z1) (Lib.hid E2) (Lib.hid R2) (Lib.hid Z2) (Lib.hid E3) (Lib.hid R3) (Lib.hid Z3) (Lib.hid E4) (Lib.hid R4) (Lib.hid Z4) (Lib.hid E5) (Lib.hid R5) (Lib.hid Z5) (Lib.hid E6) (Lib.hid R6) (Lib.hid Z6) (Lib.hid E7) (Lib.hid R7) (Lib.hid Z7) (Lib.hid E8) (Lib.hid R8) (Lib.hid Z8) (Lib.hid E9) (Lib.hid R9) (Lib.hid Z9) hk).mono fun e w' h => DP_err _ h.1 h.2
  rw [if_pos hk]
  cases hm : s9.toList.isEmpty with
  | false =>
    rw [if_neg (by simp)]
    exact (dec_more s s1 s2 s3 s4 s5 s6 s7 s8 s9 kd k1 f k2 t k3 am k4 nc k5 ky' k6 vl k7 rs k8 ws k9 w (Lib.hid E1) (Lib.hid R1) (Lib.hid Z1) (Lib.hid E2) (Lib.hid R2) (Lib.hid Z2) (Lib.hid E3) (Lib.hid R3) (Lib.hid Z3) (Lib.hid E4) (Lib.hid R4) (Lib.hid Z4) (Lib.hid E5) (Lib.hid R5) (Lib.hid Z5) (Lib.hid E6) (Lib.hid R6) (Lib.hid Z6) (Lib.hid E7) (Lib.hid R7) (Lib.hid Z7) (Lib.hid E8) (Lib.hid R8) (Lib.hid Z8) (Lib.hid E9) (Lib.hid R9) (Lib.hid Z9) hk hm).mono fun e w' h => DP_err _ h.1 h.2
  | true =>
    rw [if_pos rfl]
    exact dec_chk s s1 s2 s3 s4 s5 s6 s7 s8 s9 kd k1 f k2 t k3 am k4 nc k5 ky' k6 vl k7 rs k8 ws k9 w (Lib.hid E1) (Lib.hid R1) (Lib.hid Z1) (Lib.hid E2) (Lib.hid R2) (Lib.hid Z2) (Lib.hid E3) (Lib.hid R3) (Lib.hid Z3) (Lib.hid E4) (Lib.hid R4) (Lib.hid Z4) (Lib.hid E5) (Lib.hid R5) (Lib.hid Z5) (Lib.hid E6) (Lib.hid R6) (Lib.hid Z6) (Lib.hid E7) (Lib.hid R7) (Lib.hid Z7) (Lib.hid E8) (Lib.hid R8) (Lib.hid Z8) (Lib.hid E9) (Lib.hid R9) (Lib.hid Z9) hk hkd hm
end Go.Proofs.YtndicjikjcifaaaDoor

/- tuskref04.In: its four methods, in total form. -/
namespace Go.Proofs.YtndicjikjcifaaaDoor
open Go.RowKit Go.Shelf Go.Lib Go.Proofs.YtndicjikjcifaaaDoorW.PrintWords Go.Proofs.YtndicjikjcifaaaDoorW.PrintLast
set_option linter.unusedVariables false
set_option linter.unusedSimpArgs false
def inG {α : Type} (z : α) (g : ByteArray → α × Int × Int) (S : ByteArray) (E : Int) : α × ByteArray × Int := if E = 0 then ((g S).1, rest S (g S).2.1, (g S).2.2) else (z, S, E)
structure Ri (p : Nat) (S : ByteArray) (E : Int) (w w' : World) : Prop where
  box : w'.heap[p]? = some (.cells #[.string S, .int .i64 E] 84 (0, 0))
  only : Only (fun k => k = p) w w'
theorem Ri.of_below {p : Nat} {S S' : ByteArray} {E E' : Int} {w w1 : World} (h : w1.heap[p]? = some (.cells #[.string S, .int .i64 E] 84 (0, 0))) (hd : Below w.heap.size w w1) :
    Ri p S' E' w ((w1.setCell ⟨p, 1, none⟩ (.int .i64 E')).setCell ⟨p, 0, none⟩ (.string S')) :=
  ⟨by simpa using blk_set (blk_set h 1 (.int .i64 E')) 0 (.string S'), ((Only.of_below (S := fun k => k = p) hd).set (p := ⟨p, 1, none⟩) (.inl rfl) _).set (p := ⟨p, 0, none⟩) (.inl rfl) _⟩
theorem Ri.same {p : Nat} {S : ByteArray} {E : Int} {w : World} (h : w.heap[p]? = some (.cells #[.string S, .int .i64 E] 84 (0, 0))) : Ri p S E w w := ⟨h, Only.refl _ _⟩
end Go.Proofs.YtndicjikjcifaaaDoor

/- tuskref04.Decode: the walk. (Laid by wip/tools/refdecgen.py.) -/
namespace Go.Proofs.YtndicjikjcifaaaDoor
open Go.RowKit Go.Shelf Go.Lib Go.Proofs.YtndicjikjcifaaaDoorW.PrintWords Go.Proofs.YtndicjikjcifaaaDoorW.PrintLast
set_option linter.unusedVariables false
set_option linter.unusedSimpArgs false
structure Dy (w : World) (b0 b1 b2 b3 b4 b5 b6 b7 b8 : Value) (s : ByteArray) (E : Int) (W : World) : Prop where
  low : Below w.heap.size w W
  res : W.heap[w.heap.size]? = some (.cells #[.int .i64 0, .string ⟨#[]⟩, .string ⟨#[]⟩, .int .u64 0, .int .u64 0, .string ⟨#[]⟩, .string ⟨#[]⟩, .slice none 0 0, .slice none 0 0] 33 (0, 0))
  inn : W.heap[w.heap.size + 1]? = some (.cells #[.string s, .int .i64 E] 84 (0, 0))
  tx : W.heap[w.heap.size + 1 + 1]? = some (.cells #[b0, b1, b2, b3, b4, b5, b6, b7, b8] 33 (0, 0))
theorem below_low {w W W' : World} {B : Nat} (h : Below B w W) (hb : Below B W W') : Below B w W' :=
  h.trans hb
theorem Dy.size {w W : World} {b0 b1 b2 b3 b4 b5 b6 b7 b8 : Value} {s : ByteArray} {E : Int} (h : Dy w b0 b1 b2 b3 b4 b5 b6 b7 b8 s E W) : w.heap.size + 1 + 1 < W.heap.size := blk_lt h.tx
theorem Dy.read {w W W' : World} {b0 b1 b2 b3 b4 b5 b6 b7 b8 : Value} {s s' : ByteArray} {E E' : Int} (h : Dy w b0 b1 b2 b3 b4 b5 b6 b7 b8 s E W) (hr : Ri (w.heap.size + 1) s' E' W W') : Dy w b0 b1 b2 b3 b4 b5 b6 b7 b8 s' E' W' :=
  ⟨below_low h.low (hr.only.below (B := w.heap.size) h.low.size (fun i hi => by omega)), (hr.only.block _ (blk_lt h.res) (by omega)).trans h.res, hr.box, (hr.only.block _ (blk_lt h.tx) (by omega)).trans h.tx⟩
theorem Dy.step {w W W' : World} {b0 b1 b2 b3 b4 b5 b6 b7 b8 : Value} {s : ByteArray} {E : Int} (h : Dy w b0 b1 b2 b3 b4 b5 b6 b7 b8 s E W) (hb : Below W.heap.size W W') : Dy w b0 b1 b2 b3 b4 b5 b6 b7 b8 s E W' :=
  ⟨below_then h.low h.low.size hb, (hb.block _ (blk_lt h.res)).trans h.res, (hb.block _ (blk_lt h.inn)).trans h.inn, (hb.block _ (blk_lt h.tx)).trans h.tx⟩
theorem Dy.set0 {w W : World} {b0 b1 b2 b3 b4 b5 b6 b7 b8 : Value} {s : ByteArray} {E : Int} (h : Dy w b0 b1 b2 b3 b4 b5 b6 b7 b8 s E W) (v : Value) : Dy w v b1 b2 b3 b4 b5 b6 b7 b8 s E (W.setCell ⟨w.heap.size + 1 + 1, 0, none⟩ v) :=
  ⟨h.low.setCell (by simp; omega) v, (Below.heap_setCell _ _ _ _ (by simp; omega)).trans h.res, (Below.heap_setCell _ _ _ _ (by simp)).trans h.inn, by simpa using blk_set h.tx 0 v⟩
theorem Dy.set1 {w W : World} {b0 b1 b2 b3 b4 b5 b6 b7 b8 : Value} {s : ByteArray} {E : Int} (h : Dy w b0 b1 b2 b3 b4 b5 b6 b7 b8 s E W) (v : Value) : Dy w b0 v b2 b3 b4 b5 b6 b7 b8 s E (W.setCell ⟨w.heap.size + 1 + 1, 1, none⟩ v) :=
  ⟨h.low.setCell (by simp; omega) v, (Below.heap_setCell _ _ _ _ (by simp; omega)).trans h.res, (Below.heap_setCell _ _ _ _ (by simp)).trans h.inn, by simpa using blk_set h.tx 1 v⟩
theorem Dy.set2 {w W : World} {b0 b1 b2 b3 b4 b5 b6 b7 b8 : Value} {s : ByteArray} {E : Int} (h : Dy w b0 b1 b2 b3 b4 b5 b6 b7 b8 s E W) (v : Value) : Dy w b0 b1 v b3 b4 b5 b6 b7 b8 s E (W.setCell ⟨w.heap.size + 1 + 1, 2, none⟩ v) :=
  ⟨h.low.setCell (by simp; omega) v, (Below.heap_setCell _ _ _ _ (by simp; omega)).trans h.res, (Below.heap_setCell _ _ _ _ (by simp)).trans h.inn, by simpa using blk_set h.tx 2 v⟩
theorem Dy.set3 {w W : World} {b0 b1 b2 b3 b4 b5 b6 b7 b8 : Value} {s : ByteArray} {E : Int} (h : Dy w b0 b1 b2 b3 b4 b5 b6 b7 b8 s E W) (v : Value) : Dy w b0 b1 b2 v b4 b5 b6 b7 b8 s E (W.setCell ⟨w.heap.size + 1 + 1, 3, none⟩ v) :=
  ⟨h.low.setCell (by simp; omega) v, (Below.heap_setCell _ _ _ _ (by simp; omega)).trans h.res, (Below.heap_setCell _ _ _ _ (by simp)).trans h.inn, by simpa using blk_set h.tx 3 v⟩
theorem Dy.set4 {w W : World} {b0 b1 b2 b3 b4 b5 b6 b7 b8 : Value} {s : ByteArray} {E : Int} (h : Dy w b0 b1 b2 b3 b4 b5 b6 b7 b8 s E W) (v : Value) : Dy w b0 b1 b2 b3 v b5 b6 b7 b8 s E (W.setCell ⟨w.heap.size + 1 + 1, 4, none⟩ v) :=
  ⟨h.low.setCell (by simp; omega) v, (Below.heap_setCell _ _ _ _ (by simp; omega)).trans h.res, (Below.heap_setCell _ _ _ _ (by simp)).trans h.inn, by simpa using blk_set h.tx 4 v⟩
theorem Dy.set5 {w W : World} {b0 b1 b2 b3 b4 b5 b6 b7 b8 : Value} {s : ByteArray} {E : Int} (h : Dy w b0 b1 b2 b3 b4 b5 b6 b7 b8 s E W) (v : Value) : Dy w b0 b1 b2 b3 b4 v b6 b7 b8 s E (W.setCell ⟨w.heap.size + 1 + 1, 5, none⟩ v) :=
  ⟨h.low.setCell (by simp; omega) v, (Below.heap_setCell _ _ _ _ (by simp; omega)).trans h.res, (Below.heap_setCell _ _ _ _ (by simp)).trans h.inn, by simpa using blk_set h.tx 5 v⟩
theorem Dy.set6 {w W : World} {b0 b1 b2 b3 b4 b5 b6 b7 b8 : Value} {s : ByteArray} {E : Int} (h : Dy w b0 b1 b2 b3 b4 b5 b6 b7 b8 s E W) (v : Value) : Dy w b0 b1 b2 b3 b4 b5 v b7 b8 s E (W.setCell ⟨w.heap.size + 1 + 1, 6, none⟩ v) :=
  ⟨h.low.setCell (by simp; omega) v, (Below.heap_setCell _ _ _ _ (by simp; omega)).trans h.res, (Below.heap_setCell _ _ _ _ (by simp)).trans h.inn, by simpa using blk_set h.tx 6 v⟩
theorem Dy.set7 {w W : World} {b0 b1 b2 b3 b4 b5 b6 b7 b8 : Value} {s : ByteArray} {E : Int} (h : Dy w b0 b1 b2 b3 b4 b5 b6 b7 b8 s E W) (v : Value) : Dy w b0 b1 b2 b3 b4 b5 b6 v b8 s E (W.setCell ⟨w.heap.size + 1 + 1, 7, none⟩ v) :=
  ⟨h.low.setCell (by simp; omega) v, (Below.heap_setCell _ _ _ _ (by simp; omega)).trans h.res, (Below.heap_setCell _ _ _ _ (by simp)).trans h.inn, by simpa using blk_set h.tx 7 v⟩
theorem Dy.set8 {w W : World} {b0 b1 b2 b3 b4 b5 b6 b7 b8 : Value} {s : ByteArray} {E : Int} (h : Dy w b0 b1 b2 b3 b4 b5 b6 b7 b8 s E W) (v : Value) : Dy w b0 b1 b2 b3 b4 b5 b6 b7 v s E (W.setCell ⟨w.heap.size + 1 + 1, 8, none⟩ v) :=
  ⟨h.low.setCell (by simp; omega) v, (Below.heap_setCell _ _ _ _ (by simp; omega)).trans h.res, (Below.heap_setCell _ _ _ _ (by simp)).trans h.inn, by simpa using blk_set h.tx 8 v⟩
theorem Ri.row {p : Nat} {S S' : ByteArray} {E E' : Int} {w w' : World} (h : Ri p S' E' w w') (hb : w.heap[p]? = some (.cells #[.string S, .int .i64 E] 84 (0, 0))) {base : Nat} {v : Value} {xs : List ByteArray}
    (hR : Kd.R Kd.string 9 w base (fun k => some k = v.ownBlock) v xs) : Kd.R Kd.string 9 w' base (fun k => some k = v.ownBlock) v xs :=
  Kd.R_only hR h.only (fun k hk e => Kd.R_ne hR hb (by decide) (by rw [← hk, e]))
theorem Dy.first (w : World) (s : ByteArray) : Dy w (.int .i64 0) (.string ⟨#[]⟩) (.string ⟨#[]⟩) (.int .u64 0) (.int .u64 0) (.string ⟨#[]⟩) (.string ⟨#[]⟩) (.slice none 0 0) (.slice none 0 0) s 0
    (((w.alloc (.cells #[.int .i64 0, .string ⟨#[]⟩, .string ⟨#[]⟩, .int .u64 0, .int .u64 0, .string ⟨#[]⟩, .string ⟨#[]⟩, .slice none 0 0, .slice none 0 0] 33)).alloc (.cells #[.string s, .int .i64 0] 84)).alloc (.cells #[.int .i64 0, .string ⟨#[]⟩, .string ⟨#[]⟩, .int .u64 0, .int .u64 0, .string ⟨#[]⟩, .string ⟨#[]⟩, .slice none 0 0, .slice none 0 0] 33)) :=
  ⟨(((Below.refl _ w).alloc (Nat.le_refl _) _).alloc (by simp) _).alloc (by simp; omega) _, blk_alloc (blk_alloc (blk_new _ _) _) _, blk_alloc (blk_newAt _ _ (by simp)) _, blk_newAt _ _ (by simp)⟩
def fin2 (e9 kd : Int) (f t : ByteArray) (am nc : Int) (ky' vl : ByteArray) (rs ws : List ByteArray) (s9 : ByteArray) : Dec :=
  if e9 ≠ 0 then derr e9 else if kd ≤ 2 then (if s9.toList.isEmpty = true then fin9 kd f t am nc ky' vl rs ws else derr 6) else derr 2
structure Dz (w : World) (b0 b1 b2 b3 b4 b5 b6 b7 b8 : Value) (s : ByteArray) (E : Int) (rs ws : List ByteArray) (W : World) : Prop where
  y : Dy w b0 b1 b2 b3 b4 b5 b6 b7 b8 s E W
  r7 : Kd.R Kd.string 9 W w.heap.size (fun k => some k = b7.ownBlock) b7 rs
  r8 : Kd.R Kd.string 9 W w.heap.size (fun k => some k = b8.ownBlock) b8 ws
theorem Dz.read {w W W' : World} {b0 b1 b2 b3 b4 b5 b6 b7 b8 : Value} {s s' : ByteArray} {E E' : Int} {rs ws : List ByteArray} (h : Dz w b0 b1 b2 b3 b4 b5 b6 b7 b8 s E rs ws W) (hr : Ri (w.heap.size + 1) s' E' W W') : Dz w b0 b1 b2 b3 b4 b5 b6 b7 b8 s' E' rs ws W' :=
  ⟨h.y.read hr, hr.row h.y.inn h.r7, hr.row h.y.inn h.r8⟩
theorem Dz.step {w W W' : World} {b0 b1 b2 b3 b4 b5 b6 b7 b8 : Value} {s : ByteArray} {E : Int} {rs ws : List ByteArray} (h : Dz w b0 b1 b2 b3 b4 b5 b6 b7 b8 s E rs ws W) (hb : Below W.heap.size W W') : Dz w b0 b1 b2 b3 b4 b5 b6 b7 b8 s E rs ws W' :=
  ⟨h.y.step hb, Kd.R_below h.r7 hb, Kd.R_below h.r8 hb⟩
theorem Dz.set0 {w W : World} {b0 b1 b2 b3 b4 b5 b6 b7 b8 : Value} {s : ByteArray} {E : Int} {rs ws : List ByteArray} (h : Dz w b0 b1 b2 b3 b4 b5 b6 b7 b8 s E rs ws W) (v : Value) : Dz w v b1 b2 b3 b4 b5 b6 b7 b8 s E rs ws (W.setCell ⟨w.heap.size + 1 + 1, 0, none⟩ v) :=
  have ht : ∀ q, q ∈ 9 :: Kd.string.E → q ≠ 33 := by intro q hq; simp [Kd.string, Kd.scalar] at hq; subst hq; decide
  ⟨h.y.set0 v, Kd.R_set h.r7 h.y.tx ht _ _, Kd.R_set h.r8 h.y.tx ht _ _⟩
structure RdFr (w : World) (c : Array Value) (b7 b8 : Value) (rs ws : List ByteArray) (W : World) : Prop where
  low : Below w.heap.size w W
  res : W.heap[w.heap.size]? = some (.cells c 33 (0, 0))
  r7 : Kd.R Kd.string 9 W w.heap.size (fun k => some k = b7.ownBlock) b7 rs
  r8 : Kd.R Kd.string 9 W w.heap.size (fun k => some k = b8.ownBlock) b8 ws
theorem RdFr.set {w W : World} {c : Array Value} {b7 b8 : Value} {rs ws : List ByteArray} (h : RdFr w c b7 b8 rs ws W) (i : Nat) (v : Value) : RdFr w (c.setIfInBounds i v) b7 b8 rs ws (W.setCell ⟨w.heap.size, i, none⟩ v) :=
  have ht : ∀ q, q ∈ 9 :: Kd.string.E → q ≠ 33 := by intro q hq; simp [Kd.string, Kd.scalar] at hq; subst hq; decide
  ⟨h.low.setCell (by simp) v, blk_set h.res i v, Kd.R_set h.r7 h.res ht _ _, Kd.R_set h.r8 h.res ht _ _⟩
theorem RdFr.made {w W : World} {b0 b1 b2 b3 b4 b5 b6 b7 b8 : Value} {s : ByteArray} {E : Int} {rs ws : List ByteArray} (h : Dz w b0 b1 b2 b3 b4 b5 b6 b7 b8 s E rs ws W) (c0 c1 c2 c3 c4 c5 c6 c7 c8 : Value) :
    RdFr w #[c0, c1, c2, c3, c4, c5, c6, c7, c8] b7 b8 rs ws (((((((((W.setCell ⟨w.heap.size, 0, none⟩ c0).setCell ⟨w.heap.size, 1, none⟩ c1).setCell ⟨w.heap.size, 2, none⟩ c2).setCell ⟨w.heap.size, 3, none⟩ c3).setCell ⟨w.heap.size, 4, none⟩ c4).setCell ⟨w.heap.size, 5, none⟩ c5).setCell ⟨w.heap.size, 6, none⟩ c6).setCell ⟨w.heap.size, 7, none⟩ c7).setCell ⟨w.heap.size, 8, none⟩ c8) := by
  have h0 : RdFr w _ b7 b8 rs ws W := ⟨h.y.low, h.y.res, h.r7, h.r8⟩
  have := ((((((((h0.set 0 c0).set 1 c1).set 2 c2).set 3 c3).set 4 c4).set 5 c5).set 6 c6).set 7 c7).set 8 c8
  simpa using this
theorem RdFr.drew {w W : World} {c : Array Value} {b7 b8 : Value} {rs ws : List ByteArray} (h : RdFr w c b7 b8 rs ws W) : RdFr w c b7 b8 rs ws W.drew :=
  ⟨h.low.drew, h.res, Kd.R_drew h.r7, Kd.R_drew h.r8⟩
end Go.Proofs.YtndicjikjcifaaaDoor

/- tuskref04.Decode: it answers as tx.Decode. -/
namespace Go.Proofs.YtndicjikjcifaaaDoor
open Go.RowKit Go.Shelf Go.Lib Go.Proofs.YtndicjikjcifaaaDoorW.PrintWords Go.Proofs.YtndicjikjcifaaaDoorW.PrintLast
set_option linter.unusedVariables false
set_option linter.unusedSimpArgs false
def D9 (kd : Int) (f : ByteArray) (t : ByteArray) (am : Int) (nc : Int) (ky' : ByteArray) (vl : ByteArray) (rs : List ByteArray) (ws : List ByteArray) (S : ByteArray) (E : Int) : Dec := fin2 E kd f t am nc ky' vl rs ws S
def D8 (kd : Int) (f : ByteArray) (t : ByteArray) (am : Int) (nc : Int) (ky' : ByteArray) (vl : ByteArray) (rs : List ByteArray) (S : ByteArray) (E : Int) : Dec := D9 kd f t am nc ky' vl rs (inG ([] : List ByteArray) (fun s => gl s 8) S E).1 (inG ([] : List ByteArray) (fun s => gl s 8) S E).2.1 (inG ([] : List ByteArray) (fun s => gl s 8) S E).2.2
def D7 (kd : Int) (f : ByteArray) (t : ByteArray) (am : Int) (nc : Int) (ky' : ByteArray) (vl : ByteArray) (S : ByteArray) (E : Int) : Dec := D8 kd f t am nc ky' vl (inG ([] : List ByteArray) (fun s => gl s 8) S E).1 (inG ([] : List ByteArray) (fun s => gl s 8) S E).2.1 (inG ([] : List ByteArray) (fun s => gl s 8) S E).2.2
end Go.Proofs.YtndicjikjcifaaaDoor

/- batch.Decode: what it answers, in plain words. -/
namespace Go.Proofs.YtndicjikjcifaaaDoor
open Go.RowKit Go.Shelf Go.Lib Go.Proofs.YtndicjikjcifaaaDoorW.PrintWords Go.Proofs.YtndicjikjcifaaaDoorW.PrintLast
open PB (S33 k33)
set_option linter.unusedVariables false
set_option linter.unusedSimpArgs false
theorem bgt_size (a : ByteArray) : (gt a).1.size ≤ a.size := by
  have e : (⟨#[]⟩ : ByteArray).size = 0 := rfl
  unfold gt
  repeat' split
  all_goals first | (simp only [ByteArray.size_extract]; omega) | (simp only [e]; omega)
theorem bglL_size (a : ByteArray) : ∀ c p acc M, a.size ≤ M → (∀ x ∈ acc, x.size ≤ M) → ∀ x ∈ (glL a c p acc).1, x.size ≤ M
  | 0, p, acc, M, hM, h, x, hx => h x hx
  | c + 1, p, acc, M, hM, h, x, hx => by
    rw [glL] at hx
    split at hx
    · refine bglL_size a c _ _ M hM (fun y hy => ?_) x hx
      rcases List.mem_append.1 hy with hy | hy
      · exact h y hy
      · rw [List.mem_singleton.1 hy]
        have := bgt_size (a.extract p a.size)
        rw [ByteArray.size_extract] at this
        omega
    · simp at hx
theorem bgl_size (a : ByteArray) (m : Int) : ∀ x ∈ (gl a m).1, x.size ≤ a.size := by
  intro x hx
  unfold gl at hx
  repeat' split at hx
  · simp at hx
  · exact bglL_size a _ _ _ _ (Nat.le_refl _) (by simp) x hx
  · simp at hx
abbrev BDec := Int × Int × List S33 × Int
def bnil (e : Int) : BDec := (0, 0, [], e)
def toS (r : Dec) : S33 := ⟨r.1, r.2.1, r.2.2.1, r.2.2.2.1, r.2.2.2.2.1, r.2.2.2.2.2.1, r.2.2.2.2.2.2.1, r.2.2.2.2.2.2.2.1, r.2.2.2.2.2.2.2.2.1⟩
def errD (r : Dec) : Int := r.2.2.2.2.2.2.2.2.2
def dall : List ByteArray → List S33 × Int
  | [] => ([], 0)
  | x :: r => if errD (dec x) = 0 then (toS (dec x) :: (dall r).1, (dall r).2) else ([], errD (dec x))
def bfin (a n : Int) (s : ByteArray) (k : Int) (D : List S33 × Int) : BDec :=
  if D.2 = 0 then (if k < (s.size : Int) then bnil 6 else if 6 < a then bnil 2 else if bchk a n D.1 = 0 then (a, n, D.1, 0) else bnil (bchk a n D.1)) else bnil D.2
def bdec2 (a n : Int) (s : ByteArray) : BDec := if (gl s 16).2.2 = 0 then bfin a n s (gl s 16).2.1 (dall (gl s 16).1) else bnil (gl s 16).2.2
def bdec1 (a : Int) (s : ByteArray) : BDec := if (gi s 9 0 0).2.2 = 0 then bdec2 a (gi s 9 0 0).1 (rest s (gi s 9 0 0).2.1) else bnil (gi s 9 0 0).2.2
def bdec (s : ByteArray) : BDec := if (gi s 9 0 0).2.2 = 0 then bdec1 (gi s 9 0 0).1 (rest s (gi s 9 0 0).2.1) else bnil (gi s 9 0 0).2.2
def BP (r : BDec) (w : World) (e : Ending) (w' : World) : Prop :=
  ∃ A c, e = .returned (.tuple #[.agg #[.int .i64 r.1, .int .i64 r.2.1, .slice A r.2.2.1.length c], .int .i64 r.2.2.2]) ∧ r.2.2.1.length ≤ c ∧ Foot (fun W => k33.C W A r.2.2.1.length r.2.2.1) w' (fun k => w.heap.size ≤ k ∧ k < w'.heap.size) ∧ Below w.heap.size w w'
theorem dall_at (l : List ByteArray) (j : Nat) (hj : j < l.length) : l.drop j = rdOf ByteArray.empty l (j : Int) :: l.drop (j + 1) := by
  rw [List.drop_eq_getElem_cons hj]
  congr 1
  simp [rdOf, hj]
theorem bdec_tx (s : ByteArray) (w : World) (hs : s.size < 4611686018427387904) {k0 : Int} {f0 t0 : ByteArray} {am0 nc0 : Int} {ky0 vl0 : ByteArray} {rs0 ws0 : List ByteArray} {er : Int} (hr : dec s = (k0, f0, t0, am0, nc0, ky0, vl0, rs0, ws0, er)) :
    Calls Tryd.prog 25 #[.string s] w fun e w' => ∃ A7 c7 A8 c8, e = .returned (.tuple #[.agg #[.int .i64 k0, .string f0, .string t0, .int .u64 am0, .int .u64 nc0, .string ky0, .string vl0, .slice A7 rs0.length c7, .slice A8 ws0.length c8], .int .i64 er])
      ∧ Kd.F Kd.string w' (fun k => w.heap.size ≤ k ∧ k < w'.heap.size) A7 rs0.length rs0 ∧ rs0.length ≤ c7 ∧ Kd.F Kd.string w' (fun k => w.heap.size ≤ k ∧ k < w'.heap.size) A8 ws0.length ws0 ∧ ws0.length ≤ c8 ∧ Below w.heap.size w w' := by
  refine (dec_calls s w hs).mono fun e w' h => ?_
  rw [hr] at h
  obtain ⟨v8, v9, he, h8, h9, hb⟩ := h
  dsimp only at he h8 h9
  obtain ⟨A7, c7, rfl⟩ := Kd.R_slice h8
  obtain ⟨A8, c8, rfl⟩ := Kd.R_slice h9
  exact ⟨A7, c7, A8, c8, he, Kd.F_mono (Kd.R_F (Kd.R_bound h8)) (fun k hk => ⟨hk.2.1, hk.2.2.1⟩), (Kd.R_reads' h8).2.1, Kd.F_mono (Kd.R_F (Kd.R_bound h9)) (fun k hk => ⟨hk.2.1, hk.2.2.1⟩), (Kd.R_reads' h9).2.1, hb⟩
end Go.Proofs.YtndicjikjcifaaaDoor
/- tuskref04.In: its List, for lists of up to 16; what its methods do, in the small logic. -/
namespace Go.Proofs.YtndicjikjcifaaaDoor
open Go.RowKit Go.Shelf Go.Lib Go.Proofs.YtndicjikjcifaaaDoorW.PrintWords Go.Proofs.YtndicjikjcifaaaDoorW.PrintLast
set_option linter.unusedVariables false
set_option linter.unusedSimpArgs false
end Go.Proofs.YtndicjikjcifaaaDoor
/- The document's reader of batches: the plain law. -/
namespace Go.Proofs.YtndicjikjcifaaaDoor
open Go.RowKit Go.Shelf Go.Lib Go.Proofs.YtndicjikjcifaaaDoorW.PrintWords Go.Proofs.YtndicjikjcifaaaDoorW.PrintLast
open PB (S33 k33)
set_option linter.unusedVariables false
set_option linter.unusedSimpArgs false
end Go.Proofs.YtndicjikjcifaaaDoor

/- tuskref05.Same of the same batch; what batch.Decode's lists are like. -/
namespace Go.Proofs.YtndicjikjcifaaaDoor
open Go.RowKit Go.Proofs.YtndicjikjcifaaaDoorW.PrintWords Go.Proofs.YtndicjikjcifaaaDoorW.PrintLast
open PB (S33 k33)
set_option linter.unusedVariables false
set_option linter.unusedSimpArgs false
end Go.Proofs.YtndicjikjcifaaaDoor

/- tx.Needs, tx.Fits. -/
namespace Go.Proofs
open Go.Shelf
end Go.Proofs
namespace Go.Proofs.YtndicjikjcifaaaDoor
open Go.RowKit Go.Shelf Go.Lib Go.Sort Go.Proofs.YtndicjikjcifaaaDoorW.PrintWords Go.Proofs.YtndicjikjcifaaaDoorW.PrintLast
set_option linter.unusedVariables false
set_option linter.unusedSimpArgs false
def mn (x y : ByteArray) : ByteArray := if lts y x = true then y else x
def mx (x y : ByteArray) : ByteArray := if lts y x = true then x else y
def one2 (x y : ByteArray) : List ByteArray := if x.toList = y.toList then [x] else [x, y]
def nA (f : ByteArray) : ByteArray := ⟨#[97, 58]⟩ ++ f
def nK (f : ByteArray) : ByteArray := ⟨#[107, 58]⟩ ++ f
def nB (k : Int) (t ky' : ByteArray) : ByteArray := if k = 2 then nK ky' else nA t
def need (k : Int) (f t : ByteArray) (am nc : Int) (ky' vl : ByteArray) (rs ws : List ByteArray) : List ByteArray :=
  if ch k f t am nc ky' vl rs ws = 0 then one2 (mn (nA f) (nB k t ky')) (mx (nA f) (nB k t ky')) else []
def tx_Needs.f (k : Int) (f t : ByteArray) (am nc : Int) (ky' vl : ByteArray) (rs ws : List ByteArray) : Option (List ByteArray) := some (need k f t am nc ky' vl rs ws)
end Go.Proofs.YtndicjikjcifaaaDoor

namespace Go.Proofs.YtndicjikjcifaaaDoor.POw
open Go.RowKit Go.Proofs.YtndicjikjcifaaaDoorW.PrintWords Go.Proofs.YtndicjikjcifaaaDoorW.PrintLast Go.Proofs.YtndicjikjcifaaaDoorW.PrintMore
attribute [local go_sem] max2_int min2_int max_two min_two max_three min_three max_four min_four   -- for this text's walks alone
set_option linter.unusedVariables false
set_option linter.unusedSimpArgs false
def errW : Option Int → Value
  | none => .nilIface
  | some c => .iface 0 (.int .i64 c)
theorem errW_none : errW none = .nilIface := rfl
theorem errW_some (c : Int) : errW (some c) = .iface 0 (.int .i64 c) := rfl
theorem info9 : (Tryd.prog.info? 9).map (fun i => (i.zero, i.size, i.bytes)) = some (some (.string ⟨#[]⟩), 1, 16) := by kernel_rfl
-- the values' own types
end Go.Proofs.YtndicjikjcifaaaDoor.POw

namespace Go.Proofs.YtndicjikjcifaaaDoor.POw
open Go.RowKit Go.Proofs.YtndicjikjcifaaaDoorW.PrintWords Go.Proofs.YtndicjikjcifaaaDoorW.PrintLast Go.Proofs.YtndicjikjcifaaaDoorW.PrintMore
attribute [local go_sem] max2_int min2_int max_two min_two max_three min_three max_four min_four   -- for this text's walks alone
set_option linter.unusedVariables false
set_option linter.unusedSimpArgs false
/-! ### tusklaw04_Own: function 19 -/
def tusklaw04_Own.f (a0_0 : Int) (a0_1 : ByteArray) (a0_2 : ByteArray) (a0_3 : Int) (a0_4 : Int) (a0_5 : ByteArray) (a0_6 : ByteArray) (l0_7 : List ByteArray) (l0_8 : List ByteArray) : Option (Int × ByteArray × ByteArray × Int × Int × ByteArray × ByteArray × List ByteArray × List ByteArray) := (some (([] : List ByteArray) : List ByteArray)).bind fun y103 => (if y103.length + l0_7.length < 8796093022208 then ((some (([] : List ByteArray) : List ByteArray)).bind fun y109 => (if y109.length + l0_8.length < 8796093022208 then (some (a0_0, a0_1, a0_2, a0_3, a0_4, a0_5, a0_6, (y103 ++ l0_7), (y109 ++ l0_8))) else (none))) else (none))
set_option maxHeartbeats 8000000 in
set_option maxRecDepth 100000 in
theorem tusklaw04_Own.calls (a0_0 : Int) (a0_1 : ByteArray) (a0_2 : ByteArray) (a0_3 : Int) (a0_4 : Int) (a0_5 : ByteArray) (a0_6 : ByteArray) (A0_7 : Option Addr) (c0_7 : Nat) (l0_7 : List ByteArray) (A0_8 : Option Addr) (c0_8 : Nat) (l0_8 : List ByteArray) (r1 : Int) (r2 : ByteArray) (r3 : ByteArray) (r4 : Int) (r5 : Int) (r6 : ByteArray) (r7 : ByteArray) (r8 : List ByteArray) (r9 : List ByteArray) (w : World) (hr0_7 : Kd.C Kd.string w A0_7 l0_7.length l0_7) (hc0_7 : l0_7.length ≤ c0_7) (hr0_8 : Kd.C Kd.string w A0_8 l0_8.length l0_8) (hc0_8 : l0_8.length ≤ c0_8) (h : tusklaw04_Own.f a0_0 a0_1 a0_2 a0_3 a0_4 a0_5 a0_6 l0_7 l0_8 = some (r1, r2, r3, r4, r5, r6, r7, r8, r9)) :
    Calls Tryd.prog 19 #[.agg #[.int .i64 a0_0, .string a0_1, .string a0_2, .int .u64 a0_3, .int .u64 a0_4, .string a0_5, .string a0_6, .slice A0_7 l0_7.length c0_7, .slice A0_8 l0_8.length c0_8]] w fun e w' => ∃ v7_ v8_ : Value, e = .returned (.agg #[.int .i64 r1, .string r2, .string r3, .int .u64 r4, .int .u64 r5, .string r6, .string r7, v7_, v8_]) ∧ Kd.R Kd.string 9 w' w.heap.size (fun k_ => some k_ ≠ (v8_ : Value).ownBlock) v7_ r8 ∧ Kd.R Kd.string 9 w' w.heap.size (fun k_ => some k_ ≠ (v7_ : Value).ownBlock) v8_ r9 ∧ Below w.heap.size w w' := by
  have hu33 := Tryd.underlying33
  have HR0_7 := Aside0.mk hr0_7
  have HC0_7 := Aside0.mk hc0_7
  clear hr0_7 hc0_7
  have HR0_8 := Aside0.mk hr0_8
  have HC0_8 := Aside0.mk hc0_8
  clear hr0_8 hc0_8
  have HB := Aside0.mk (Below.refl w.heap.size w)
  have H : ((some (([] : List ByteArray) : List ByteArray)).bind fun y103 => (if y103.length + l0_7.length < 8796093022208 then ((some (([] : List ByteArray) : List ByteArray)).bind fun y109 => (if y109.length + l0_8.length < 8796093022208 then (some (a0_0, a0_1, a0_2, a0_3, a0_4, a0_5, a0_6, (y103 ++ l0_7), (y109 ++ l0_8))) else (none))) else (none))) = some (r1, r2, r3, r4, r5, r6, r7, r8, r9) := h
  clear h
  obtain ⟨y103, hy103⟩ : ∃ y_ : List ByteArray, y_ = (([] : List ByteArray)) := ⟨_, rfl⟩
  replace H : (if y103.length + l0_7.length < 8796093022208 then ((some (([] : List ByteArray) : List ByteArray)).bind fun y109 => (if y109.length + l0_8.length < 8796093022208 then (some (a0_0, a0_1, a0_2, a0_3, a0_4, a0_5, a0_6, (y103 ++ l0_7), (y109 ++ l0_8))) else (none))) else (none)) = some (r1, r2, r3, r4, r5, r6, r7, r8, r9) := by first | (rw [hy103]; with_reducible exact H) | (have H2_ := (Option.bind_some _ _).symm.trans H; rw [hy103]; with_reducible exact H2_) | (have H2_ := (Option.bind_some _ _).symm.trans H; with_reducible exact H2_) | with_reducible exact H | (rw [hy103]; exact H) | exact H
  have Ny103 := Aside0.mk hy103
  clear hy103
  by_cases c2 : y103.length + l0_7.length < 8796093022208
  · rw [if_pos c2] at H
    have LMc2 := Aside0.mk c2
    clear c2
    obtain ⟨y106, hy106⟩ : ∃ y_ : List ByteArray, y_ = (y103 ++ l0_7) := ⟨_, rfl⟩
    replace H : ((some (([] : List ByteArray) : List ByteArray)).bind fun y109 => (if y109.length + l0_8.length < 8796093022208 then (some (a0_0, a0_1, a0_2, a0_3, a0_4, a0_5, a0_6, y106, (y109 ++ l0_8))) else (none))) = some (r1, r2, r3, r4, r5, r6, r7, r8, r9) := by first | (rw [hy106]; with_reducible exact H) | (have H2_ := (Option.bind_some _ _).symm.trans H; rw [hy106]; with_reducible exact H2_) | (have H2_ := (Option.bind_some _ _).symm.trans H; with_reducible exact H2_) | with_reducible exact H | (rw [hy106]; exact H) | exact H
    have Ny106 := Aside0.mk hy106
    clear hy106
    obtain ⟨y109, hy109⟩ : ∃ y_ : List ByteArray, y_ = (([] : List ByteArray)) := ⟨_, rfl⟩
    replace H : (if y109.length + l0_8.length < 8796093022208 then (some (a0_0, a0_1, a0_2, a0_3, a0_4, a0_5, a0_6, y106, (y109 ++ l0_8))) else (none)) = some (r1, r2, r3, r4, r5, r6, r7, r8, r9) := by first | (rw [hy109]; with_reducible exact H) | (have H2_ := (Option.bind_some _ _).symm.trans H; rw [hy109]; with_reducible exact H2_) | (have H2_ := (Option.bind_some _ _).symm.trans H; with_reducible exact H2_) | with_reducible exact H | (rw [hy109]; exact H) | exact H
    have Ny109 := Aside0.mk hy109
    clear hy109
    by_cases c3 : y109.length + l0_8.length < 8796093022208
    · rw [if_pos c3] at H
      have LMc3 := Aside0.mk c3
      clear c3
      obtain ⟨y112, hy112⟩ : ∃ y_ : List ByteArray, y_ = (y109 ++ l0_8) := ⟨_, rfl⟩
      replace H : (some (a0_0, a0_1, a0_2, a0_3, a0_4, a0_5, a0_6, y106, y112)) = some (r1, r2, r3, r4, r5, r6, r7, r8, r9) := by first | (rw [hy112]; with_reducible exact H) | (have H2_ := (Option.bind_some _ _).symm.trans H; rw [hy112]; with_reducible exact H2_) | (have H2_ := (Option.bind_some _ _).symm.trans H; with_reducible exact H2_) | with_reducible exact H | (rw [hy112]; exact H) | exact H
      have Ny112 := Aside0.mk hy112
      clear hy112
      simp only [Option.some.injEq, Prod.mk.injEq] at H
      obtain ⟨rfl, rfl, rfl, rfl, rfl, rfl, rfl, rfl, rfl⟩ := H
      go_enter Tryd.func19, Tryd.ntmps19
      go_wp2_with (first | ((with_reducible refine gate_dst (N := 1) rfl ?_); refine box_event ?hg (N := 1) ?hd (cs := #[.int .i64 a0_0, .string a0_1, .string a0_2, .int .u64 a0_3, .int .u64 a0_4, .string a0_5, .string a0_6, .slice A0_7 l0_7.length c0_7, .slice A0_8 l0_8.length c0_8]) (t := 33) ?hr ?_; (case hd => rfl); (case hg => rfl); (case hr => first | (go_simp; done) | (go_simp; rfl)); intro gb101 hg w4 hbox hb; have n0_ := Aside0.mk (below_step (by repeat (first | (with_reducible first | exact HB.out | apply below_alloc | apply pw_below_drewN | apply below_drew1) | exact HB.out)) hb); have n1_ := Aside0.mk (hbox); have n2_ := Aside0.mk ((by rw [hg]; exact (below_size (by repeat (first | (with_reducible first | exact HB.out | apply below_alloc | apply pw_below_drewN | apply below_drew1) | exact HB.out))) : w.heap.size ≤ gb101)); have n3_ := Aside0.mk ((by rw [hg]; exact (below_size (by repeat (first | (with_reducible first | exact HB.out | apply below_alloc | apply pw_below_drewN | apply below_drew1) | exact HB.out))) : w.heap.size ≤ gb101)); clear HB; have HB := n0_; have BK101 := n1_; have GW101 := n2_; have GE101 := n3_; clear n0_ n1_ n2_ n3_; clear hb hbox hg) | ((with_reducible refine gate_dst (N := 2) rfl ?_); refine box_event ?hg (N := 2) ?hd (cs := #[.int .i64 0, .string (⟨#[]⟩ : ByteArray), .string (⟨#[]⟩ : ByteArray), .int .u64 0, .int .u64 0, .string (⟨#[]⟩ : ByteArray), .string (⟨#[]⟩ : ByteArray), .slice none 0 0, .slice none 0 0]) (t := 33) ?hr ?_; (case hd => rfl); (case hg => rfl); (case hr => first | (go_simp; done) | (go_simp; rfl)); intro gb102 hg w5 hbox hb; have n0_ := Aside0.mk (blk_below (g := gb101) (o := .cells #[.int .i64 a0_0, .string a0_1, .string a0_2, .int .u64 a0_3, .int .u64 a0_4, .string a0_5, .string a0_6, .slice A0_7 l0_7.length c0_7, .slice A0_8 l0_8.length c0_8] 33 (0, 0)) (by (with_reducible repeat (first | refine blk_drewN ?_ _ | refine blk_drew ?_ | refine blk_alloc ?_ _)); exact BK101.out) hb); have n1_ := Aside0.mk (below_step (by repeat (first | (with_reducible first | exact HB.out | apply below_alloc | apply pw_below_drewN | apply below_drew1 | refine below_set ?_ GE101.out) | exact HB.out)) hb); have n2_ := Aside0.mk (hbox); have n3_ := Aside0.mk ((by rw [hg]; exact (below_size (by repeat (first | (with_reducible first | exact HB.out | apply below_alloc | apply pw_below_drewN | apply below_drew1 | refine below_set ?_ GE101.out) | exact HB.out))) : w.heap.size ≤ gb102)); have n4_ := Aside0.mk ((by rw [hg]; exact (below_size (by repeat (first | (with_reducible first | exact HB.out | apply below_alloc | apply pw_below_drewN | apply below_drew1 | refine below_set ?_ GE101.out) | exact HB.out))) : w.heap.size ≤ gb102)); have n5_ := Aside0.mk ((by rw [hg]; exact Nat.ne_of_lt (blk_lt (g := gb101) (o := .cells #[.int .i64 a0_0, .string a0_1, .string a0_2, .int .u64 a0_3, .int .u64 a0_4, .string a0_5, .string a0_6, .slice A0_7 l0_7.length c0_7, .slice A0_8 l0_8.length c0_8] 33 (0, 0)) (by (with_reducible repeat (first | refine blk_drewN ?_ _ | refine blk_drew ?_ | refine blk_alloc ?_ _)); exact BK101.out)) : gb101 ≠ gb102)); have n6_ := Aside0.mk ((by rw [hg]; exact Nat.ne_of_gt (blk_lt (g := gb101) (o := .cells #[.int .i64 a0_0, .string a0_1, .string a0_2, .int .u64 a0_3, .int .u64 a0_4, .string a0_5, .string a0_6, .slice A0_7 l0_7.length c0_7, .slice A0_8 l0_8.length c0_8] 33 (0, 0)) (by (with_reducible repeat (first | refine blk_drewN ?_ _ | refine blk_drew ?_ | refine blk_alloc ?_ _)); exact BK101.out)) : gb102 ≠ gb101)); clear BK101; clear HB; have BK101 := n0_; have HB := n1_; have BK102 := n2_; have GW102 := n3_; have GE102 := n4_; have NB101_102 := n5_; have NB102_101 := n6_; clear n0_ n1_ n2_ n3_ n4_ n5_ n6_; clear hb hbox hg) | ((with_reducible refine gate_dst (N := 3) rfl ?_); refine Kd.R_lit Kd.string _ 9 ?hg (N := 3) ?hd (xs := ([] : List ByteArray)) (inner := []) (ok := fun _ => True) (okp := fun _ => True) ?hr ?hp (fun _ hk => hk) trivial (Below.refl _ _) (Nat.le_refl _) (by simp) ?_; (case hd => rfl); (case hg => rfl); (case hr => first | (go_simp; done) | (go_simp; rfl)); (case hp => exact (Reps.none _ _)); intro v104 w6 ho7 hb hg_ hnew_; clear hg_ hnew_; (first | rw [← Ny103.out] at ho7 | (simp only [Int.reduceToNat] at ho7; rw [← Ny103.out] at ho7)); have n0_ := Aside0.mk (Kd.R_lower ho7 (below_size (by repeat (first | (with_reducible first | exact HB.out | apply below_alloc | apply pw_below_drewN | apply below_drew1 | refine below_set ?_ GE101.out | refine below_set ?_ GE102.out) | exact HB.out)))); have n1_ := Aside0.mk (blk_below (g := gb101) (o := .cells #[.int .i64 a0_0, .string a0_1, .string a0_2, .int .u64 a0_3, .int .u64 a0_4, .string a0_5, .string a0_6, .slice A0_7 l0_7.length c0_7, .slice A0_8 l0_8.length c0_8] 33 (0, 0)) (by (with_reducible repeat (first | refine blk_drewN ?_ _ | refine blk_drew ?_ | refine blk_alloc ?_ _)); exact BK101.out) hb); have n2_ := Aside0.mk (blk_below (g := gb102) (o := .cells #[.int .i64 0, .string (⟨#[]⟩ : ByteArray), .string (⟨#[]⟩ : ByteArray), .int .u64 0, .int .u64 0, .string (⟨#[]⟩ : ByteArray), .string (⟨#[]⟩ : ByteArray), .slice none 0 0, .slice none 0 0] 33 (0, 0)) (by (with_reducible repeat (first | refine blk_drewN ?_ _ | refine blk_drew ?_ | refine blk_alloc ?_ _)); exact BK102.out) hb); have n3_ := Aside0.mk (below_step (by repeat (first | (with_reducible first | exact HB.out | apply below_alloc | apply pw_below_drewN | apply below_drew1 | refine below_set ?_ GE101.out | refine below_set ?_ GE102.out) | exact HB.out)) hb); clear BK101; clear BK102; clear HB; have HO105 := n0_; have BK101 := n1_; have BK102 := n2_; have HB := n3_; clear n0_ n1_ n2_ n3_; clear hb ho7; have hnb8 := NB101_102.out; have hnc8 := NB102_101.out; have hcz9_0 : w6.cell? ⟨gb101, 0, none⟩ = some (.int .i64 a0_0) := (blk_cell BK101.out 0).trans rfl; have hcz9_1 : w6.cell? ⟨gb101, 1, none⟩ = some (.string a0_1) := (blk_cell BK101.out 1).trans rfl; have hcz9_2 : w6.cell? ⟨gb101, 2, none⟩ = some (.string a0_2) := (blk_cell BK101.out 2).trans rfl; have hcz9_3 : w6.cell? ⟨gb101, 3, none⟩ = some (.int .u64 a0_3) := (blk_cell BK101.out 3).trans rfl; have hcz9_4 : w6.cell? ⟨gb101, 4, none⟩ = some (.int .u64 a0_4) := (blk_cell BK101.out 4).trans rfl; have hcz9_5 : w6.cell? ⟨gb101, 5, none⟩ = some (.string a0_5) := (blk_cell BK101.out 5).trans rfl; have hcz9_6 : w6.cell? ⟨gb101, 6, none⟩ = some (.string a0_6) := (blk_cell BK101.out 6).trans rfl; have hcz9_7 : w6.cell? ⟨gb101, 7, none⟩ = some (.slice A0_7 l0_7.length c0_7) := (blk_cell BK101.out 7).trans rfl; have hcz9_8 : w6.cell? ⟨gb101, 8, none⟩ = some (.slice A0_8 l0_8.length c0_8) := (blk_cell BK101.out 8).trans rfl; have hfz9_0 := blk_frozen BK101.out 0; have hfz9_1 := blk_frozen BK101.out 1; have hfz9_2 := blk_frozen BK101.out 2; have hfz9_3 := blk_frozen BK101.out 3; have hfz9_4 := blk_frozen BK101.out 4; have hfz9_5 := blk_frozen BK101.out 5; have hfz9_6 := blk_frozen BK101.out 6; have hfz9_7 := blk_frozen BK101.out 7; have hfz9_8 := blk_frozen BK101.out 8) | ((with_reducible refine gate_builtin (b := .append) (xs := #[.tmp 3, .tmp 5]) rfl ?_); at_builtin; refine Kd.R_append_rows Kd.string (w0 := w) w.heap.size rfl (.tmp 3) (.tmp 5) 31 9 (.string ⟨#[]⟩) 16 rfl Tryd.underlying31 info9 rfl (by decide) (by omega) v104 y103 l0_7 _ _ _ (fun _ => True) (fun _ => False) rfl rfl ?aO ?aR (fun _ _ h => h) (fun _ h => h.elim) ?aF ?aB ?aS ?aL ?_; (case aR => repeat (first | exact (Kd.C_below HR0_7.out HB.out) | (with_reducible refine Kd.C_alloc ?_ _) | (with_reducible refine Kd.C_drewN ?_ _) | (with_reducible refine Kd.C_drew ?_))); (case aB => exact (by repeat (first | (with_reducible first | exact HB.out | apply below_alloc | apply pw_below_drewN | apply below_drew1 | refine below_set ?_ GE101.out | refine below_set ?_ GE102.out) | exact HB.out))); (case aF => exact (fun _ _ => trivial)); (case aO => exact (by (with_reducible repeat (first | apply Kd.R_alloc | apply Kd.R_drewN | apply Kd.R_drew)); exact HO105.out)); (case aS => exact (below_size (by repeat (first | (with_reducible first | exact HB.out | apply below_alloc | apply pw_below_drewN | apply below_drew1 | refine below_set ?_ GE101.out | refine below_set ?_ GE102.out) | exact HB.out)))); (case aL => have := LMc2.out; omega); intro v107 w10 ho hb hg hat; rw [← Ny106.out] at ho; have n0_ := Aside0.mk (blk_grown (g := gb101) (o := .cells #[.int .i64 a0_0, .string a0_1, .string a0_2, .int .u64 a0_3, .int .u64 a0_4, .string a0_5, .string a0_6, .slice A0_7 l0_7.length c0_7, .slice A0_8 l0_8.length c0_8] 33 (0, 0)) (by (with_reducible repeat (first | refine blk_drewN ?_ _ | refine blk_drew ?_ | refine blk_alloc ?_ _)); exact BK101.out) hg (Kd.R_ne HO105.out BK101.out (by decide))); have n1_ := Aside0.mk (blk_grown (g := gb102) (o := .cells #[.int .i64 0, .string (⟨#[]⟩ : ByteArray), .string (⟨#[]⟩ : ByteArray), .int .u64 0, .int .u64 0, .string (⟨#[]⟩ : ByteArray), .string (⟨#[]⟩ : ByteArray), .slice none 0 0, .slice none 0 0] 33 (0, 0)) (by (with_reducible repeat (first | refine blk_drewN ?_ _ | refine blk_drew ?_ | refine blk_alloc ?_ _)); exact BK102.out) hg (Kd.R_ne HO105.out BK102.out (by decide))); have n2_ := Aside0.mk (hb); have n3_ := Aside0.mk (ho); clear BK101; clear BK102; clear HB; clear HO105; have BK101 := n0_; have BK102 := n1_; have HB := n2_; have HO108 := n3_; clear n0_ n1_ n2_ n3_; clear ho hb hg hat; obtain ⟨Ao11, co11, eo11⟩ := Kd.R_slice HO108.out; subst eo11; have hcz12_0 : w10.cell? ⟨gb101, 0, none⟩ = some (.int .i64 a0_0) := (blk_cell BK101.out 0).trans rfl; have hcz12_1 : w10.cell? ⟨gb101, 1, none⟩ = some (.string a0_1) := (blk_cell BK101.out 1).trans rfl; have hcz12_2 : w10.cell? ⟨gb101, 2, none⟩ = some (.string a0_2) := (blk_cell BK101.out 2).trans rfl; have hcz12_3 : w10.cell? ⟨gb101, 3, none⟩ = some (.int .u64 a0_3) := (blk_cell BK101.out 3).trans rfl; have hcz12_4 : w10.cell? ⟨gb101, 4, none⟩ = some (.int .u64 a0_4) := (blk_cell BK101.out 4).trans rfl; have hcz12_5 : w10.cell? ⟨gb101, 5, none⟩ = some (.string a0_5) := (blk_cell BK101.out 5).trans rfl; have hcz12_6 : w10.cell? ⟨gb101, 6, none⟩ = some (.string a0_6) := (blk_cell BK101.out 6).trans rfl; have hcz12_7 : w10.cell? ⟨gb101, 7, none⟩ = some (.slice A0_7 l0_7.length c0_7) := (blk_cell BK101.out 7).trans rfl; have hcz12_8 : w10.cell? ⟨gb101, 8, none⟩ = some (.slice A0_8 l0_8.length c0_8) := (blk_cell BK101.out 8).trans rfl; have hfz12_0 := blk_frozen BK101.out 0; have hfz12_1 := blk_frozen BK101.out 1; have hfz12_2 := blk_frozen BK101.out 2; have hfz12_3 := blk_frozen BK101.out 3; have hfz12_4 := blk_frozen BK101.out 4; have hfz12_5 := blk_frozen BK101.out 5; have hfz12_6 := blk_frozen BK101.out 6; have hfz12_7 := blk_frozen BK101.out 7; have hfz12_8 := blk_frozen BK101.out 8) | ((with_reducible refine gate_dst (N := 8) rfl ?_); refine Kd.R_lit Kd.string _ 9 ?hg (N := 8) ?hd (xs := ([] : List ByteArray)) (inner := []) (ok := fun _ => True) (okp := fun _ => True) ?hr ?hp (fun _ hk => hk) trivial (Below.refl _ _) (Nat.le_refl _) (by simp) ?_; (case hd => rfl); (case hg => rfl); (case hr => first | (go_simp; done) | (go_simp; rfl)); (case hp => exact (Reps.none _ _)); intro v110 w13 ho14 hb hg_ hnew_; clear hg_ hnew_; (first | rw [← Ny109.out] at ho14 | (simp only [Int.reduceToNat] at ho14; rw [← Ny109.out] at ho14)); have n0_ := Aside0.mk (Kd.R_elder' (by (with_reducible repeat (first | apply Kd.R_alloc | apply Kd.R_drewN | apply Kd.R_drew)); exact (Kd.R_mono (Kd.R_far (p := ⟨gb101, 7, none⟩) (Kd.R_types HO108.out BK101.out (by decide)) (fun _ hk => hk.2) (.slice Ao11 y106.length co11)) (fun _ h_ => h_.1))) (Kd.R_base ho14) hb); have n1_ := Aside0.mk (Kd.R_lower (Kd.R_new' ho14 (Kd.R_lt (by (with_reducible repeat (first | apply Kd.R_alloc | apply Kd.R_drewN | apply Kd.R_drew)); exact (Kd.R_mono (Kd.R_far (p := ⟨gb101, 7, none⟩) (Kd.R_types HO108.out BK101.out (by decide)) (fun _ hk => hk.2) (.slice Ao11 y106.length co11)) (fun _ h_ => h_.1))))) (below_size (by repeat (first | (with_reducible first | exact HB.out | apply below_alloc | apply pw_below_drewN | apply below_drew1 | refine below_set ?_ GE101.out | refine below_set ?_ GE102.out) | exact HB.out)))); have n2_ := Aside0.mk (blk_below (g := gb101) (o := .cells #[.int .i64 a0_0, .string a0_1, .string a0_2, .int .u64 a0_3, .int .u64 a0_4, .string a0_5, .string a0_6, .slice Ao11 y106.length co11, .slice A0_8 l0_8.length c0_8] 33 (0, 0)) (by (with_reducible repeat (first | refine blk_drewN ?_ _ | refine blk_drew ?_ | refine blk_alloc ?_ _)); refine blk_put (cs := #[.int .i64 a0_0, .string a0_1, .string a0_2, .int .u64 a0_3, .int .u64 a0_4, .string a0_5, .string a0_6, .slice A0_7 l0_7.length c0_7, .slice A0_8 l0_8.length c0_8]) ?_ 7 _ rfl; (with_reducible repeat (first | refine blk_drewN ?_ _ | refine blk_drew ?_ | refine blk_alloc ?_ _)); exact BK101.out) hb); have n3_ := Aside0.mk (blk_below (g := gb102) (o := .cells #[.int .i64 0, .string (⟨#[]⟩ : ByteArray), .string (⟨#[]⟩ : ByteArray), .int .u64 0, .int .u64 0, .string (⟨#[]⟩ : ByteArray), .string (⟨#[]⟩ : ByteArray), .slice none 0 0, .slice none 0 0] 33 (0, 0)) (by (with_reducible repeat (first | refine blk_drewN ?_ _ | refine blk_drew ?_ | refine blk_alloc ?_ _)); refine blk_far ?_ NB102_101.out _; (with_reducible repeat (first | refine blk_drewN ?_ _ | refine blk_drew ?_ | refine blk_alloc ?_ _)); exact BK102.out) hb); have n4_ := Aside0.mk (below_step (by repeat (first | (with_reducible first | exact HB.out | apply below_alloc | apply pw_below_drewN | apply below_drew1 | refine below_set ?_ GE101.out | refine below_set ?_ GE102.out) | exact HB.out)) hb); clear HO108; clear BK101; clear BK102; clear HB; have HO108 := n0_; have HO111 := n1_; have BK101 := n2_; have BK102 := n3_; have HB := n4_; clear n0_ n1_ n2_ n3_ n4_; clear hb ho14; have hcz15_0 : w13.cell? ⟨gb101, 0, none⟩ = some (.int .i64 a0_0) := (blk_cell BK101.out 0).trans rfl; have hcz15_1 : w13.cell? ⟨gb101, 1, none⟩ = some (.string a0_1) := (blk_cell BK101.out 1).trans rfl; have hcz15_2 : w13.cell? ⟨gb101, 2, none⟩ = some (.string a0_2) := (blk_cell BK101.out 2).trans rfl; have hcz15_3 : w13.cell? ⟨gb101, 3, none⟩ = some (.int .u64 a0_3) := (blk_cell BK101.out 3).trans rfl; have hcz15_4 : w13.cell? ⟨gb101, 4, none⟩ = some (.int .u64 a0_4) := (blk_cell BK101.out 4).trans rfl; have hcz15_5 : w13.cell? ⟨gb101, 5, none⟩ = some (.string a0_5) := (blk_cell BK101.out 5).trans rfl; have hcz15_6 : w13.cell? ⟨gb101, 6, none⟩ = some (.string a0_6) := (blk_cell BK101.out 6).trans rfl; have hcz15_7 : w13.cell? ⟨gb101, 7, none⟩ = some (.slice Ao11 y106.length co11) := (blk_cell BK101.out 7).trans rfl; have hcz15_8 : w13.cell? ⟨gb101, 8, none⟩ = some (.slice A0_8 l0_8.length c0_8) := (blk_cell BK101.out 8).trans rfl; have hfz15_0 := blk_frozen BK101.out 0; have hfz15_1 := blk_frozen BK101.out 1; have hfz15_2 := blk_frozen BK101.out 2; have hfz15_3 := blk_frozen BK101.out 3; have hfz15_4 := blk_frozen BK101.out 4; have hfz15_5 := blk_frozen BK101.out 5; have hfz15_6 := blk_frozen BK101.out 6; have hfz15_7 := blk_frozen BK101.out 7; have hfz15_8 := blk_frozen BK101.out 8) | ((with_reducible refine gate_builtin (b := .append) (xs := #[.tmp 8, .tmp 10]) rfl ?_); at_builtin; refine Kd.R_append_rows Kd.string (w0 := w) w.heap.size rfl (.tmp 8) (.tmp 10) 31 9 (.string ⟨#[]⟩) 16 rfl Tryd.underlying31 info9 rfl (by decide) (by omega) v110 y109 l0_8 _ _ _ (fun k_ => some k_ ≠ (.slice Ao11 y106.length co11 : Value).ownBlock) (fun _ => False) rfl rfl ?aO ?aR (fun _ _ h => h) (fun _ h => h.elim) ?aF ?aB ?aS ?aL ?_; (case aR => repeat (first | exact (Kd.C_below HR0_8.out HB.out) | (with_reducible refine Kd.C_alloc ?_ _) | (with_reducible refine Kd.C_drewN ?_ _) | (with_reducible refine Kd.C_drew ?_))); (case aB => exact (by repeat (first | (with_reducible first | exact HB.out | apply below_alloc | apply pw_below_drewN | apply below_drew1 | refine below_set ?_ GE101.out | refine below_set ?_ GE102.out) | exact HB.out))); (case aF => exact (fun k_ hk => Kd.fresh' (Kd.R_lt (by (with_reducible repeat (first | apply Kd.R_alloc | apply Kd.R_drewN | apply Kd.R_drew)); exact HO108.out)) k_ hk)); (case aO => exact (by (with_reducible repeat (first | apply Kd.R_alloc | apply Kd.R_drewN | apply Kd.R_drew)); exact Kd.R_mono HO111.out (fun _ hk => hk.2))); (case aS => exact (below_size (by repeat (first | (with_reducible first | exact HB.out | apply below_alloc | apply pw_below_drewN | apply below_drew1 | refine below_set ?_ GE101.out | refine below_set ?_ GE102.out) | exact HB.out)))); (case aL => have := LMc3.out; omega); intro v113 w16 ho hb hg hat; rw [← Ny112.out] at ho; have n0_ := Aside0.mk (blk_grown (g := gb101) (o := .cells #[.int .i64 a0_0, .string a0_1, .string a0_2, .int .u64 a0_3, .int .u64 a0_4, .string a0_5, .string a0_6, .slice Ao11 y106.length co11, .slice A0_8 l0_8.length c0_8] 33 (0, 0)) (by (with_reducible repeat (first | refine blk_drewN ?_ _ | refine blk_drew ?_ | refine blk_alloc ?_ _)); exact BK101.out) hg (Kd.R_ne HO111.out BK101.out (by decide))); have n1_ := Aside0.mk (blk_grown (g := gb102) (o := .cells #[.int .i64 0, .string (⟨#[]⟩ : ByteArray), .string (⟨#[]⟩ : ByteArray), .int .u64 0, .int .u64 0, .string (⟨#[]⟩ : ByteArray), .string (⟨#[]⟩ : ByteArray), .slice none 0 0, .slice none 0 0] 33 (0, 0)) (by (with_reducible repeat (first | refine blk_drewN ?_ _ | refine blk_drew ?_ | refine blk_alloc ?_ _)); exact BK102.out) hg (Kd.R_ne HO111.out BK102.out (by decide))); have n2_ := Aside0.mk (Kd.R_after (ok := (fun _ => True)) (by (with_reducible repeat (first | apply Kd.R_alloc | apply Kd.R_drewN | apply Kd.R_drew)); exact HO108.out) hg hat); have n3_ := Aside0.mk (hb); have n4_ := Aside0.mk (ho); clear BK101; clear BK102; clear HO108; clear HB; clear HO111; have BK101 := n0_; have BK102 := n1_; have HO108 := n2_; have HB := n3_; have HO114 := n4_; clear n0_ n1_ n2_ n3_ n4_; clear ho hb hg hat; obtain ⟨Ao17, co17, eo17⟩ := Kd.R_slice HO114.out; subst eo17; have hcz18_0 : w16.cell? ⟨gb101, 0, none⟩ = some (.int .i64 a0_0) := (blk_cell BK101.out 0).trans rfl; have hcz18_1 : w16.cell? ⟨gb101, 1, none⟩ = some (.string a0_1) := (blk_cell BK101.out 1).trans rfl; have hcz18_2 : w16.cell? ⟨gb101, 2, none⟩ = some (.string a0_2) := (blk_cell BK101.out 2).trans rfl; have hcz18_3 : w16.cell? ⟨gb101, 3, none⟩ = some (.int .u64 a0_3) := (blk_cell BK101.out 3).trans rfl; have hcz18_4 : w16.cell? ⟨gb101, 4, none⟩ = some (.int .u64 a0_4) := (blk_cell BK101.out 4).trans rfl; have hcz18_5 : w16.cell? ⟨gb101, 5, none⟩ = some (.string a0_5) := (blk_cell BK101.out 5).trans rfl; have hcz18_6 : w16.cell? ⟨gb101, 6, none⟩ = some (.string a0_6) := (blk_cell BK101.out 6).trans rfl; have hcz18_7 : w16.cell? ⟨gb101, 7, none⟩ = some (.slice Ao11 y106.length co11) := (blk_cell BK101.out 7).trans rfl; have hcz18_8 : w16.cell? ⟨gb101, 8, none⟩ = some (.slice A0_8 l0_8.length c0_8) := (blk_cell BK101.out 8).trans rfl; have hfz18_0 := blk_frozen BK101.out 0; have hfz18_1 := blk_frozen BK101.out 1; have hfz18_2 := blk_frozen BK101.out 2; have hfz18_3 := blk_frozen BK101.out 3; have hfz18_4 := blk_frozen BK101.out 4; have hfz18_5 := blk_frozen BK101.out 5; have hfz18_6 := blk_frozen BK101.out 6; have hfz18_7 := blk_frozen BK101.out 7; have hfz18_8 := blk_frozen BK101.out 8; have hcz19_0 : w16.cell? ⟨gb102, 0, none⟩ = some (.int .i64 0) := (blk_cell BK102.out 0).trans rfl; have hcz19_1 : w16.cell? ⟨gb102, 1, none⟩ = some (.string (⟨#[]⟩ : ByteArray)) := (blk_cell BK102.out 1).trans rfl; have hcz19_2 : w16.cell? ⟨gb102, 2, none⟩ = some (.string (⟨#[]⟩ : ByteArray)) := (blk_cell BK102.out 2).trans rfl; have hcz19_3 : w16.cell? ⟨gb102, 3, none⟩ = some (.int .u64 0) := (blk_cell BK102.out 3).trans rfl; have hcz19_4 : w16.cell? ⟨gb102, 4, none⟩ = some (.int .u64 0) := (blk_cell BK102.out 4).trans rfl; have hcz19_5 : w16.cell? ⟨gb102, 5, none⟩ = some (.string (⟨#[]⟩ : ByteArray)) := (blk_cell BK102.out 5).trans rfl; have hcz19_6 : w16.cell? ⟨gb102, 6, none⟩ = some (.string (⟨#[]⟩ : ByteArray)) := (blk_cell BK102.out 6).trans rfl; have hcz19_7 : w16.cell? ⟨gb102, 7, none⟩ = some (.slice none 0 0) := (blk_cell BK102.out 7).trans rfl; have hcz19_8 : w16.cell? ⟨gb102, 8, none⟩ = some (.slice none 0 0) := (blk_cell BK102.out 8).trans rfl; have hfz19_0 := blk_frozen BK102.out 0; have hfz19_1 := blk_frozen BK102.out 1; have hfz19_2 := blk_frozen BK102.out 2; have hfz19_3 := blk_frozen BK102.out 3; have hfz19_4 := blk_frozen BK102.out 4; have hfz19_5 := blk_frozen BK102.out 5; have hfz19_6 := blk_frozen BK102.out 6; have hfz19_7 := blk_frozen BK102.out 7; have hfz19_8 := blk_frozen BK102.out 8))
      refine bodyPost_ret (results_cell_row rfl _ _ gb102 33 #[.int .i64 a0_0, .string a0_1, .string a0_2, .int .u64 a0_3, .int .u64 a0_4, .string a0_5, .string a0_6, .slice Ao11 y106.length co11, .slice Ao17 y112.length co17] (0, 0) _ rfl (by (with_reducible repeat (first | refine blk_drewN ?_ _ | refine blk_drew ?_ | refine blk_alloc ?_ _)); refine blk_put (cs := #[.int .i64 a0_0, .string a0_1, .string a0_2, .int .u64 a0_3, .int .u64 a0_4, .string a0_5, .string a0_6, .slice Ao11 y106.length co11, .slice none 0 0]) ?_ 8 _ rfl; (with_reducible repeat (first | refine blk_drewN ?_ _ | refine blk_drew ?_ | refine blk_alloc ?_ _)); refine blk_put (cs := #[.int .i64 a0_0, .string a0_1, .string a0_2, .int .u64 a0_3, .int .u64 a0_4, .string a0_5, .string a0_6, .slice none 0 0, .slice none 0 0]) ?_ 7 _ rfl; (with_reducible repeat (first | refine blk_drewN ?_ _ | refine blk_drew ?_ | refine blk_alloc ?_ _)); refine blk_put (cs := #[.int .i64 a0_0, .string a0_1, .string a0_2, .int .u64 a0_3, .int .u64 a0_4, .string a0_5, .string (⟨#[]⟩ : ByteArray), .slice none 0 0, .slice none 0 0]) ?_ 6 _ rfl; (with_reducible repeat (first | refine blk_drewN ?_ _ | refine blk_drew ?_ | refine blk_alloc ?_ _)); refine blk_put (cs := #[.int .i64 a0_0, .string a0_1, .string a0_2, .int .u64 a0_3, .int .u64 a0_4, .string (⟨#[]⟩ : ByteArray), .string (⟨#[]⟩ : ByteArray), .slice none 0 0, .slice none 0 0]) ?_ 5 _ rfl; (with_reducible repeat (first | refine blk_drewN ?_ _ | refine blk_drew ?_ | refine blk_alloc ?_ _)); refine blk_put (cs := #[.int .i64 a0_0, .string a0_1, .string a0_2, .int .u64 a0_3, .int .u64 0, .string (⟨#[]⟩ : ByteArray), .string (⟨#[]⟩ : ByteArray), .slice none 0 0, .slice none 0 0]) ?_ 4 _ rfl; (with_reducible repeat (first | refine blk_drewN ?_ _ | refine blk_drew ?_ | refine blk_alloc ?_ _)); refine blk_put (cs := #[.int .i64 a0_0, .string a0_1, .string a0_2, .int .u64 0, .int .u64 0, .string (⟨#[]⟩ : ByteArray), .string (⟨#[]⟩ : ByteArray), .slice none 0 0, .slice none 0 0]) ?_ 3 _ rfl; (with_reducible repeat (first | refine blk_drewN ?_ _ | refine blk_drew ?_ | refine blk_alloc ?_ _)); refine blk_put (cs := #[.int .i64 a0_0, .string a0_1, .string (⟨#[]⟩ : ByteArray), .int .u64 0, .int .u64 0, .string (⟨#[]⟩ : ByteArray), .string (⟨#[]⟩ : ByteArray), .slice none 0 0, .slice none 0 0]) ?_ 2 _ rfl; (with_reducible repeat (first | refine blk_drewN ?_ _ | refine blk_drew ?_ | refine blk_alloc ?_ _)); refine blk_put (cs := #[.int .i64 a0_0, .string (⟨#[]⟩ : ByteArray), .string (⟨#[]⟩ : ByteArray), .int .u64 0, .int .u64 0, .string (⟨#[]⟩ : ByteArray), .string (⟨#[]⟩ : ByteArray), .slice none 0 0, .slice none 0 0]) ?_ 1 _ rfl; (with_reducible repeat (first | refine blk_drewN ?_ _ | refine blk_drew ?_ | refine blk_alloc ?_ _)); refine blk_put (cs := #[.int .i64 0, .string (⟨#[]⟩ : ByteArray), .string (⟨#[]⟩ : ByteArray), .int .u64 0, .int .u64 0, .string (⟨#[]⟩ : ByteArray), .string (⟨#[]⟩ : ByteArray), .slice none 0 0, .slice none 0 0]) ?_ 0 _ rfl; (with_reducible repeat (first | refine blk_drewN ?_ _ | refine blk_drew ?_ | refine blk_alloc ?_ _)); refine blk_far ?_ NB102_101.out _; (with_reducible repeat (first | refine blk_drewN ?_ _ | refine blk_drew ?_ | refine blk_alloc ?_ _)); exact BK102.out) Tryd.underlying33 rfl (by kernel_rfl)) rfl ?_
      exact ⟨_, _, by first | rfl | (simp [errW_none, errW_some] <;> rfl) | (simp [*, errW_none, errW_some] <;> rfl), by (with_reducible repeat (first | apply Kd.R_alloc | apply Kd.R_drewN | apply Kd.R_drew)); exact Kd.R_mono (Kd.R_far (p := ⟨gb102, 8, none⟩) (Kd.R_far (p := ⟨gb102, 7, none⟩) (Kd.R_far (p := ⟨gb102, 6, none⟩) (Kd.R_far (p := ⟨gb102, 5, none⟩) (Kd.R_far (p := ⟨gb102, 4, none⟩) (Kd.R_far (p := ⟨gb102, 3, none⟩) (Kd.R_far (p := ⟨gb102, 2, none⟩) (Kd.R_far (p := ⟨gb102, 1, none⟩) (Kd.R_far (p := ⟨gb102, 0, none⟩) (Kd.R_far (p := ⟨gb101, 8, none⟩) (Kd.R_types (Kd.R_types HO108.out BK101.out (by decide)) BK102.out (by decide)) (fun _ hk => hk.1.2) (.slice Ao17 y112.length co17)) (fun _ hk => hk.2) (.int .i64 a0_0)) (fun _ hk => hk.2) (.string a0_1)) (fun _ hk => hk.2) (.string a0_2)) (fun _ hk => hk.2) (.int .u64 a0_3)) (fun _ hk => hk.2) (.int .u64 a0_4)) (fun _ hk => hk.2) (.string a0_5)) (fun _ hk => hk.2) (.string a0_6)) (fun _ hk => hk.2) (.slice Ao11 y106.length co11)) (fun _ hk => hk.2) (.slice Ao17 y112.length co17)) (fun _ hk => hk.1.1.2), by (with_reducible repeat (first | apply Kd.R_alloc | apply Kd.R_drewN | apply Kd.R_drew)); exact Kd.R_mono (Kd.R_far (p := ⟨gb102, 8, none⟩) (Kd.R_far (p := ⟨gb102, 7, none⟩) (Kd.R_far (p := ⟨gb102, 6, none⟩) (Kd.R_far (p := ⟨gb102, 5, none⟩) (Kd.R_far (p := ⟨gb102, 4, none⟩) (Kd.R_far (p := ⟨gb102, 3, none⟩) (Kd.R_far (p := ⟨gb102, 2, none⟩) (Kd.R_far (p := ⟨gb102, 1, none⟩) (Kd.R_far (p := ⟨gb102, 0, none⟩) (Kd.R_far (p := ⟨gb101, 8, none⟩) (Kd.R_types (Kd.R_types HO114.out BK101.out (by decide)) BK102.out (by decide)) (fun _ hk => hk.1.2) (.slice Ao17 y112.length co17)) (fun _ hk => hk.2) (.int .i64 a0_0)) (fun _ hk => hk.2) (.string a0_1)) (fun _ hk => hk.2) (.string a0_2)) (fun _ hk => hk.2) (.int .u64 a0_3)) (fun _ hk => hk.2) (.int .u64 a0_4)) (fun _ hk => hk.2) (.string a0_5)) (fun _ hk => hk.2) (.string a0_6)) (fun _ hk => hk.2) (.slice Ao11 y106.length co11)) (fun _ hk => hk.2) (.slice Ao17 y112.length co17)) (fun _ hk => hk.1.1), by repeat (first | (with_reducible first | exact HB.out | apply below_alloc | apply pw_below_drewN | apply below_drew1 | refine below_set ?_ GE101.out | refine below_set ?_ GE102.out) | exact HB.out)⟩
    · rw [if_neg c3] at H
      exact absurd H (by simp)
  · rw [if_neg c2] at H
    exact absurd H (by simp)
end Go.Proofs.YtndicjikjcifaaaDoor.POw

/- From an argument's reading as data to a plain Lean value that its cells read as: one lemma a kind of type. No program in sight. -/
namespace Go.Proofs.YtndicjikjcifaaaDoor
open Go.RowKit Go.Proofs.YtndicjikjcifaaaDoorW.PrintWords Go.Proofs.YtndicjikjcifaaaDoorW.PrintLast
structure Opens (P : Program) (T : TypeId) {α : Type} (d : Kd α) (G : α → Prop) : Prop where
  size : P.cellsOf T = d.sz
  run : ∀ {H : Type} {enc : TypeId × Value → H} {w : World} {fuel : Nat} {cs : List Value} {x : DataW H × List MemPlace},
    DataW.trod enc P w 0 (fun _ => true) true fuel T cs = some x → (x.1.weights P T).all (· ≤ reachBytes) = true → ∃ a, d.K w a cs ∧ G a
section
variable {P : Program} {T : TypeId}
theorem Opens.int (k : IntKind) (hu : P.underlying T = some (.int k)) (hc : P.cellsOf T = 1) : Opens P T (Kd.int k) (fun n => (Lit.int k n).wf = true) :=
  ⟨hc, fun h _ => by
    obtain ⟨n, rfl, _, hw⟩ := DataW.trod_int hu h
    exact ⟨n, rfl, hw⟩⟩
theorem Opens.bool (hu : P.underlying T = some .bool) (hc : P.cellsOf T = 1) : Opens P T Kd.bool (fun _ => True) :=
  ⟨hc, fun h _ => by
    obtain ⟨n, rfl, _⟩ := DataW.trod_bool hu h
    exact ⟨n, rfl, trivial⟩⟩
theorem Opens.string (hu : P.underlying T = some .string) (hc : P.cellsOf T = 1) : Opens P T Kd.string (fun s => s.size ≤ 140737488351232) :=
  ⟨hc, fun h hw => by
    obtain ⟨s, rfl, rfl, hs⟩ := DataW.trod_string hu h
    refine ⟨s, rfl, ?_⟩
    have : s.data.toList.length ≤ reachBytes := by simpa [DataW.weights] using hw
    simpa [reachBytes] using this⟩
theorem cells_get {w : World} {base n : Nat} {a : Addr} {cs : List Value} (h : w.cells? base a n = some cs) : cs.length = n ∧ ∀ i u, cs[i]? = some u → w.cell? (a.add i) = some u := by
  unfold World.cells? at h
  split at h
  · have hl : cs.length = n := by simpa using mapM_some_length h
    refine ⟨hl, fun i u hu => ?_⟩
    have hi : i < n := by rw [← hl]; exact (List.getElem?_eq_some_iff.1 hu).1
    have := mapM_some_get h i i (by simp [hi])
    rw [this, hu]
  · cases h
theorem weightsAll_mem {H : Type} {e : TypeId} : ∀ {l : List (DataW H)} {d : DataW H}, d ∈ l → ∀ n ∈ d.weights P e, n ∈ DataW.weightsAll P e l
  | x :: r, d, h, n, hn => by
    rw [DataW.weightsAll]
    rcases List.mem_cons.1 h with rfl | h
    · exact List.mem_append_left _ hn
    · exact List.mem_append_right _ (weightsAll_mem h n hn)
theorem choose_list {α : Type} {Q : Nat → α → Prop} (n : Nat) (h : ∀ i, i < n → ∃ a, Q i a) : ∃ l : List α, l.length = n ∧ ∀ i a, l[i]? = some a → Q i a := by
  induction n with
  | zero => exact ⟨[], rfl, fun i a h => by simp at h⟩
  | succ n ih =>
    obtain ⟨l, hl, hq⟩ := ih (fun i hi => h i (by omega))
    obtain ⟨a, ha⟩ := h n (by omega)
    refine ⟨l ++ [a], by simp [hl], fun i b hb => ?_⟩
    rcases Nat.lt_or_ge i n with hi | hi
    · rw [List.getElem?_append_left (by omega)] at hb
      exact hq i b hb
    · have : i = n := by
        have := (List.getElem?_eq_some_iff.1 hb).1
        simp [hl] at this
        omega
      subst this
      rw [List.getElem?_append_right (by omega), hl] at hb
      simp at hb
      exact hb ▸ ha
theorem Opens.slice {e : TypeId} {α : Type} {d : Kd α} {G : α → Prop} (hu : P.underlying T = some (.slice e)) (hc : P.cellsOf T = 1) (he : Opens P e d G) (B : Nat) (hB : P.bytesOf e = B) :
    Opens P T (Kd.slice e d) (fun l => (∀ a ∈ l, G a) ∧ l.length * B ≤ 140737488351232 ∧ l.length ≤ maxLen) := by
  refine ⟨hc, fun {H} {enc} {w} {fuel} {cs} {x} h hw => ?_⟩
  rcases Go.Deep.open_slice hu h with ⟨rfl, _⟩ | ⟨a, len, cap, m, n, D, Pl, rfl, _, hl, hm, hmm, rfl, hx⟩
  · exact ⟨[], ⟨none, 0, rfl, Nat.le_refl _, rfl, by simp, fun h => by simp at h⟩, fun a h => by simp at h, by simp, by simp⟩
  · simp only [if_true] at hmm
    subst hmm
    have hw' : ∀ i, i < len → ((D i).weights P e).all (· ≤ reachBytes) = true := by
      intro i hi
      rw [List.all_eq_true] at hw ⊢
      intro z hz
      refine hw z ?_
      simp only [DataW.weights, hu]
      refine List.mem_cons_of_mem _ (List.mem_append_left _ (weightsAll_mem (d := D i) ?_ z hz))
      exact List.mem_map.2 ⟨i, by simpa using hi, rfl⟩
    have hlen : len * B ≤ 140737488351232 := by
      rw [List.all_eq_true] at hw
      have h1 := hw (((List.range len).map D).length * P.bytesOf e + ((List.range (m - len)).map fun j => D (len + j)).length * P.bytesOf e) (by
        simp only [DataW.weights, hu, Nat.add_mul]
        exact List.mem_cons_self)
      rw [hB] at h1
      simp [reachBytes] at h1
      omega
    obtain ⟨l, hll, hq⟩ := choose_list (Q := fun i a' => ∃ c, c.length = d.sz ∧ d.K w a' c ∧ (∀ j u, c[j]? = some u → w.cell? (a.add (i * d.sz + j)) = some u) ∧ G a') len (fun i hi => by
      obtain ⟨cs', hcs, ht⟩ := hx i (by omega)
      obtain ⟨a', hK, hG⟩ := he.run ht (hw' i hi)
      have hcg := cells_get hcs
      rw [he.size] at hcg
      refine ⟨a', cs', hcg.1, hK, fun j u hu => ?_, hG⟩
      have := hcg.2 j u hu
      rwa [add_add] at this)
    refine ⟨l, ⟨some a, m, by rw [hll], by omega, rfl, by rw [hll]; unfold maxLen at hm; omega, fun _ => ⟨a, rfl, fun j p hp => ?_⟩⟩, fun p hp => ?_, by rw [hll]; exact hlen, by rw [hll]; omega⟩
    · obtain ⟨c, h1, h2, h3, _⟩ := hq j p hp
      exact ⟨c, h1, h2, h3⟩
    · obtain ⟨j, hj⟩ := List.mem_iff_getElem?.1 hp
      obtain ⟨c, _, _, _, h4⟩ := hq j p hj
      exact h4
structure Fields (P : Program) (fs : List Field) (o : Nat) {α : Type} (d : Kd α) (G : α → Prop) : Prop where
  run : ∀ {H : Type} {enc : TypeId × Value → H} {w : World} {fuel : Nat} {cs : List Value} {xs : List (DataW H × List MemPlace)}, xs.length = fs.length →
    (∀ (i : Nat) (f : Field), fs[i]? = some f → DataW.trod enc P w 0 (fun _ => true) true fuel f.type ((cs.drop f.offset).take (P.cellsOf f.type)) = xs[i]?) →
    (DataW.weightsEach P (fs.map (·.type)) (xs.map (·.1))).all (· ≤ reachBytes) = true → cs.length = o + d.sz → ∃ a, d.K w a (cs.drop o) ∧ G a
theorem Fields.one {f : Field} {o : Nat} {α : Type} {d : Kd α} {G : α → Prop} (ho : f.offset = o) (h : Opens P f.type d G) : Fields P [f] o d G :=
  ⟨fun {H} {enc} {w} {fuel} {cs} {xs} hl ht hw hc => by
    match xs, hl with
    | [x], _ =>
      have h1 := ht 0 f rfl
      rw [ho, h.size, List.take_of_length_le (by rw [List.length_drop]; omega)] at h1
      refine h.run h1 ?_
      simpa [DataW.weightsEach] using hw⟩
theorem Fields.cons {f : Field} {fs : List Field} {o : Nat} {α β : Type} {d : Kd α} {d' : Kd β} {G : α → Prop} {G' : β → Prop} (ho : f.offset = o) (h : Opens P f.type d G) (h' : Fields P fs (o + d.sz) d' G') :
    Fields P (f :: fs) o (Kd.pair d d') (fun x => G x.1 ∧ G' x.2) :=
  ⟨fun {H} {enc} {w} {fuel} {cs} {xs} hl ht hw hc => by
    match xs, hl with
    | x :: xs, hl =>
      have h1 := ht 0 f rfl
      rw [ho, h.size] at h1
      have hsz : (Kd.pair d d').sz = d.sz + d'.sz := rfl
      rw [hsz] at hc
      simp only [List.map_cons, DataW.weightsEach, List.all_append, Bool.and_eq_true] at hw
      obtain ⟨a, ha, hG⟩ := h.run h1 hw.1
      obtain ⟨b, hb, hG'⟩ := h'.run (cs := cs) (xs := xs) (by simpa using hl) (fun i f hf => by simpa using ht (i + 1) f (by simpa using hf)) hw.2 (by omega)
      refine ⟨(a, b), ⟨(cs.drop o).take d.sz, cs.drop (o + d.sz), ?_, ha, hb⟩, hG, hG'⟩
      rw [← List.drop_drop, List.take_append_drop]⟩
theorem Opens.struct {fs : Array Field} {α : Type} {d : Kd α} {G : α → Prop} (hu : P.underlying T = some (.struct fs)) (hc : P.cellsOf T = d.sz) (h : Fields P fs.toList 0 d G) : Opens P T d G :=
  ⟨hc, fun {H} {enc} {w} {fuel} {cs} {x} ht hw => by
    obtain ⟨xs, n, _, rfl, hl, hxl, hf⟩ := DataW.trod_struct hu ht
    obtain ⟨a, ha, hG⟩ := h.run (cs := cs) (xs := xs) (by simpa using hxl) (fun i f hi => hf i f (by simpa using hi)) (by simpa [DataW.weights, hu] using hw) (by omega)
    exact ⟨a, by simpa using ha, hG⟩⟩
theorem Opens.iso {α β : Type} {d : Kd α} {G : α → Prop} (h : Opens P T d G) (f : β → α) (g : α → β) (hfg : ∀ a, f (g a) = a) : Opens P T (Kd.iso d f) (fun b => G (f b)) :=
  ⟨h.size, fun ht hw => by
    obtain ⟨a, ha, hG⟩ := h.run ht hw
    exact ⟨g a, by show d.K _ (f (g a)) _; rw [hfg]; exact ha, by show G (f (g a)); rw [hfg]; exact hG⟩⟩
end
end Go.Proofs.YtndicjikjcifaaaDoor

/- tusklaw04.Own, tuskref04.Same in a form of one line each; what a transaction argument is. -/
namespace Go.Proofs.YtndicjikjcifaaaDoor
open Go.RowKit Go.Shelf Go.Lib Go.Proofs.YtndicjikjcifaaaDoorW.PrintWords Go.Proofs.YtndicjikjcifaaaDoorW.PrintLast
open Go.Proofs.YtndicjikjcifaaaDoor.POw
set_option linter.unusedVariables false
set_option linter.unusedSimpArgs false
theorem opensStr : Opens Tryd.prog 9 Kd.string (fun s => s.size ≤ 140737488351232) := Opens.string Tryd.underlying9 (by kernel_rfl)
theorem opensStrs : Opens Tryd.prog 31 (Kd.slice 9 Kd.string) (fun l => (∀ a ∈ l, a.size ≤ 140737488351232) ∧ l.length * 16 ≤ 140737488351232 ∧ l.length ≤ maxLen) :=
  Opens.slice Tryd.underlying31 (by kernel_rfl) opensStr 16 (by kernel_rfl)
theorem opensInt : Opens Tryd.prog 3 (Kd.int .i64) (fun n => (Lit.int .i64 n).wf = true) := Opens.int .i64 Tryd.underlying3 (by kernel_rfl)
theorem opensU64 : Opens Tryd.prog 30 (Kd.int .u64) (fun n => (Lit.int .u64 n).wf = true) := Opens.int .u64 Tryd.underlying30 (by kernel_rfl)
abbrev kTx := Kd.pair (Kd.int .i64) (Kd.pair Kd.string (Kd.pair Kd.string (Kd.pair (Kd.int .u64) (Kd.pair (Kd.int .u64) (Kd.pair Kd.string (Kd.pair Kd.string (Kd.pair (Kd.slice 9 Kd.string) (Kd.slice 9 Kd.string))))))))
structure TxIn (w : World) (k : Int) (f t : ByteArray) (am nc : Int) (ky' vl : ByteArray) (A B : Option Addr) (c d : Nat) (rs ws : List ByteArray) : Prop where
  r : Kd.C Kd.string w A rs.length rs
  rc : rs.length ≤ c
  s : Kd.C Kd.string w B ws.length ws
  sc : ws.length ≤ d
  am : 0 ≤ am
  nc : 0 ≤ nc
  rl : rs.length * 16 ≤ 140737488351232
  sl : ws.length * 16 ≤ 140737488351232
  f : f.size ≤ 140737488351232
  t : t.size ≤ 140737488351232
  ky : ky'.size ≤ 140737488351232
  vl : vl.size ≤ 140737488351232
  rz : ∀ a ∈ rs, a.size ≤ 140737488351232
  sz : ∀ a ∈ ws, a.size ≤ 140737488351232
theorem TxIn.below {w w' : World} {k : Int} {f t : ByteArray} {am nc : Int} {ky' vl : ByteArray} {A B : Option Addr} {c d : Nat} {rs ws : List ByteArray} (h : TxIn w k f t am nc ky' vl A B c d rs ws) (hb : Below w.heap.size w w') : TxIn w' k f t am nc ky' vl A B c d rs ws :=
  { h with r := Kd.C_below h.r hb, s := Kd.C_below h.s hb }
theorem u64_lo {n : Int} (h : (Lit.int .u64 n).wf = true) : 0 ≤ n := ((Lit.wf_int_iff .u64 n).1 h).1
end Go.Proofs.YtndicjikjcifaaaDoor

/- tusklaw05.Own: a batch's copy, and what it leads to. -/
namespace Go.Proofs.YtndicjikjcifaaaDoor
open Go.RowKit Go.Proofs.YtndicjikjcifaaaDoorW.PrintWords Go.Proofs.YtndicjikjcifaaaDoorW.PrintLast
set_option linter.unusedVariables false
set_option linter.unusedSimpArgs false
set_option maxRecDepth 100000
open PB (S33 k33)
def LenB (t : S33) : Prop := t.f7.length < 8796093022208 ∧ t.f8.length < 8796093022208
theorem ownF_calls (t : S33) (A B : Option Addr) (c d : Nat) (w : World) (hK : k33.K w t (txc t A c B d)) (h1 : t.f7.length < 8796093022208) (h2 : t.f8.length < 8796093022208) :
    Calls Tryd.prog 19 #[.agg (txc t A c B d).toArray] w
      fun e w' => ∃ A' c' B' d', e = .returned (.agg #[.int .i64 t.f0, .string t.f1, .string t.f2, .int .u64 t.f3, .int .u64 t.f4, .string t.f5, .string t.f6, .slice A' t.f7.length c', .slice B' t.f8.length d'])
        ∧ Foot (fun W => k33.K W t [.int .i64 t.f0, .string t.f1, .string t.f2, .int .u64 t.f3, .int .u64 t.f4, .string t.f5, .string t.f6, .slice A' t.f7.length c', .slice B' t.f8.length d']) w' (fun k => w.heap.size ≤ k) ∧ Below w.heap.size w w' := by
  obtain ⟨l7, g7, l8, g8⟩ := k33_parts hK
  refine (POw.tusklaw04_Own.calls t.f0 t.f1 t.f2 t.f3 t.f4 t.f5 t.f6 A c t.f7 B d t.f8 t.f0 t.f1 t.f2 t.f3 t.f4 t.f5 t.f6 t.f7 t.f8 w g7 l7 g8 l8 ?_).mono ?_
  · simp [POw.tusklaw04_Own.f, h1, h2]
  · rintro e w' ⟨v7, v8, rfl, r7, r8, hb⟩
    obtain ⟨A', c', rfl, q1, q2⟩ := Kd.R_reads r7
    obtain ⟨B', d', rfl, q3, q4⟩ := Kd.R_reads r8
    exact ⟨A', c', B', d', rfl, fk_tx t q1 (Foot.mono (Kd.R_F (Kd.R_bound r7)) (fun k hk => hk.2.1)) q3 (Foot.mono (Kd.R_F (Kd.R_bound r8)) (fun k hk => hk.2.1)), hb⟩
theorem St.quOut {α : Type} {d : Kd α} {T : TypeId} {xs : List α} {ok R : Nat → Prop} {w W : World} {M : List Asn} {A : Option Addr} {n c : Nat} (H : St w (fun _ => False) R M W) (k : Nat) (h : M[k]? = some (Asn.qu d T (.slice A n c) xs ok)) (hok : ∀ j, ok j → w.heap.size ≤ j) : Foot (fun W => d.C W A n xs) W (fun k => w.heap.size ≤ k) := by
  obtain ⟨h1, h2, h3, h4⟩ := H.has _ (List.mem_of_getElem? h)
  refine Foot.mono (Queue.foot (H.qu k h) h2) (fun j hj => ?_)
  rcases hj with hj | hj
  · exact (h3 j hj).elim (fun q => q.elim) id
  · exact hok j hj
set_option maxHeartbeats 1000000 in
theorem bown_calls (au n : Int) (A : Option Addr) (c : Nat) (l : List S33) (w : World) (hl : l.length < 1034834473200) (hL : ∀ t ∈ l, LenB t) (hr : k33.C w A l.length l) (hc : l.length ≤ c) :
    Calls Tryd.prog 30 #[.agg #[.int .i64 au, .int .i64 n, .slice A l.length c]] w fun e w' => ∃ A' c', e = .returned (.agg #[.int .i64 au, .int .i64 n, .slice A' l.length c']) ∧ l.length ≤ c' ∧ Foot (fun W => k33.C W A' l.length l) w' (fun k => w.heap.size ≤ k) ∧ Below w.heap.size w w' := by
  have H0 : St w (fun _ => False) (fun _ => True) [Asn.rd k33 (fun k => k < w.heap.size) A l.length l] w := (St.first w _ _).old _ (k33_oldC hr) (fun B hB => by cases hB)
  refine c_enter2 (args := [.agg #[.int .i64 au, .int .i64 n, .slice A l.length c]]) (S := (fun _ => False)) (R := (fun _ => True)) (M := [Asn.rd k33 (fun k => k < w.heap.size) A l.length l]) Tryd.func30 (by kernel_rfl) 24 Tryd.ntmps30 (Nat.le_of_ble_eq_true rfl) (H0) (fun a W F H => ?_)
  have F := F.less [(0, .agg #[.int .i64 au, .int .i64 n, .slice A l.length c])] (subc rfl sub0)
  refine c_seq (by kernel_rfl) ?_
  refine c_text (id := 0) (by kernel_rfl) [(0, 2), (1, 2)] (by kernel_rfl) ?_
  refine sq_new (o_s 1 (.box 40 (.tmp 0)) 0 (by kernel_rfl)) trivial F (by decide) H [.int .i64 au, .int .i64 n, .slice A l.length c] 40 (x_box (F.slot rfl) rfl) ?_
  intro g1 W a hg1 H F
  refine ⟨(fun _ => trivial), ?_⟩
  refine sq_new (o_s 2 (.alloc 40) 0 (by kernel_rfl)) trivial F (by decide) H [.int .i64 0, .int .i64 0, .slice none 0 0] 40 (x_alloc Tryd.zeroValue40 rfl) ?_
  intro g2 W a hg2 H F
  refine ⟨(fun _ => trivial), ?_⟩
  unfold wpSeq
  have H : St w (fun _ => False) (fun _ => True) [Asn.rd k33 (fun k => k < w.heap.size) A l.length l, Asn.blk g1 [.int .i64 au, .int .i64 n, .slice A l.length c] 40, Asn.blk g2 [.int .i64 0, .int .i64 0, .slice none 0 0] 40] W := H
  refine t_normal ?_
  refine c_seq (by kernel_rfl) ?_
  refine c_text (id := 1) (by kernel_rfl) [(0, 2)] (by kernel_rfl) ?_
  refine q2 (o_s 3 (.assign (.const (.slice none 0 0))) 38 (by kernel_rfl)) F (by decide) (v := .slice none 0 0) (x_assign rfl) (fun a F => ?_)
  unfold wpSeq
  refine t_normal ?_
  refine c_seq (by kernel_rfl) ?_
  refine c_seq (by kernel_rfl) ?_
  have H := H.quNil k33 33
  refine c_text (id := 2) (by kernel_rfl) [(0, 2)] (by kernel_rfl) ?_
  refine q2 (o_s 4 (.assign (.const (.int .i64 0))) 3 (by kernel_rfl)) F (by decide) (v := .int .i64 0) (x_assign rfl) (fun a F => ?_)
  unfold wpSeq
  have H : St w (fun _ => False) (fun _ => True) [Asn.rd k33 (fun k => k < w.heap.size) A l.length l, Asn.blk g1 [.int .i64 au, .int .i64 n, .slice A l.length c] 40, Asn.blk g2 [.int .i64 0, .int .i64 0, .slice none 0 0] 40, Asn.qu k33 33 (.slice none 0 0) ([] : List S33) (fun _ => False)] W := H
  refine t_normal ?_
  refine c_block (id := 0) (by kernel_rfl) ?_
  refine c_loop (by kernel_rfl) (fun k a W => ∃ (i : Nat) (A1 : Option Addr) (c1 : Nat) (ok1 : Nat → Prop), Fr 24 [(0, .agg #[.int .i64 au, .int .i64 n, .slice A l.length c]), (1, .pointer (some ⟨g1, 0, none⟩)), (2, .pointer (some ⟨g2, 0, none⟩)), (4, .int .i64 (i : Int)), (3, .slice A1 ((l.take i).length) c1)] a ∧ St w (fun _ => False) (fun _ => True) [Asn.rd k33 (fun k => k < w.heap.size) A l.length l, Asn.blk g1 [.int .i64 au, .int .i64 n, .slice A l.length c] 40, Asn.blk g2 [.int .i64 0, .int .i64 0, .slice none 0 0] 40, Asn.qu k33 33 (.slice A1 ((l.take i).length) c1) (l.take i) ok1] W ∧ (k + i = l.length) ∧ (i ≤ l.length) ∧ (∀ k, ok1 k → w.heap.size ≤ k)) l.length ⟨0, none, 0, _, F.less _ (subc rfl (subc rfl (subc rfl (subc rfl (subc rfl sub0))))), H, (by omega), (Nat.zero_le _), (fun _ h => h.elim)⟩ ?_
  rintro k a W ⟨i, A1, c1, ok1, F, H, hki, hi, hok1⟩
  refine c_seq (by kernel_rfl) ?_
  refine c_seq (by kernel_rfl) ?_
  refine c_text (id := 3) (by kernel_rfl) [(0, 2), (1, 2), (2, 2), (3, 2), (4, 2)] (by kernel_rfl) ?_
  refine q2 (o_s 5 (.move (.tmp 4)) 3 (by kernel_rfl)) F (by decide) (x_move (F.slot rfl)) (fun a F => ?_)
  refine q2 (o_s 6 (.fieldAddr 40 (.tmp 1) 2) 0 (by kernel_rfl)) F (by decide) (v := .pointer (some ⟨g1, 2, none⟩)) (x_field0 Tryd.underlying40 rfl rfl (Tryd.sizeOf38 W) (F.slot rfl)) (fun a F => ?_)
  refine q2 (o_s 7 (.load 38 (.tmp 6)) 38 (by kernel_rfl)) F (by decide) (v := .slice A l.length c) (x_load1 (Tryd.isAgg38 W) (F.slot rfl) (H.cell 1 rfl rfl)) (fun a F => ?_)
  refine q2 (o_s 8 (.call { callee := (.builtin .len), args := #[(.tmp 7)], argTypes := #[38] }) 3 (by kernel_rfl)) F (by decide) (v := .int .i64 (l.length : Int)) (x_lenL Tryd.underlying38 (F.slot rfl)) (fun a F => ?_)
  refine q2 (o_s 9 (.binOp .lss 3 (.tmp 5) (.tmp 8) 3) 4 (by kernel_rfl)) F (by decide) (v := .bool (decide ((i : Int) < (l.length : Int)))) (x_int (F.slot rfl) (F.slot rfl) rfl) (fun a F => ?_)
  unfold wpSeq
  have H : St w (fun _ => False) (fun _ => True) [Asn.rd k33 (fun k => k < w.heap.size) A l.length l, Asn.blk g1 [.int .i64 au, .int .i64 n, .slice A l.length c] 40, Asn.blk g2 [.int .i64 0, .int .i64 0, .slice none 0 0] 40, Asn.qu k33 33 (.slice A1 ((l.take i).length) c1) (l.take i) ok1] W := H
  refine t_normal ?_
  rcases bool_or (decide ((i : Int) < (l.length : Int))) with hb3 | hb3
  · have hb3d := of_decide_eq_true hb3
    have F := F.at 9 rfl (v' := .bool true) (congrArg Value.bool hb3)
    refine c_yes (c := .tmp 9) (by kernel_rfl) (F.slot rfl) ?_
    refine c_skip (by kernel_rfl) ?_
    refine t_normal ?_
    refine c_seq (by kernel_rfl) ?_
    refine c_block (id := 1) (by kernel_rfl) ?_
    have hil : i < l.length := by omega
    have hsz := H.low.size
    obtain ⟨t, htt⟩ : ∃ t_, (l)[i]? = some t_ := ⟨_, List.getElem?_eq_getElem (by omega)⟩
    obtain ⟨adt, cst, hAt, hKt, H⟩ := H.elem 0 rfl (by decide) i t htt
    obtain ⟨A7, c7, A8, c8, rfl, l7, g7, l8, g8⟩ := PB.k33_open hKt
    have H : St w (fun _ => False) (fun _ => True) [Asn.rd k33 (fun k => k < w.heap.size) A l.length l, Asn.blk g1 [.int .i64 au, .int .i64 n, .slice A l.length c] 40, Asn.blk g2 [.int .i64 0, .int .i64 0, .slice none 0 0] 40, Asn.qu k33 33 (.slice A1 ((l.take i).length) c1) (l.take i) ok1, Asn.fk k33 (fun k => k < w.heap.size) t (txc t A7 c7 A8 c8), Asn.cl (adt.add (i * 9)) (txc t A7 c7 A8 c8) (fun k => k < w.heap.size)] W := H
    have hnx : l.take (i + 1) = l.take i ++ [t] := by rw [List.take_succ_eq_append_getElem hil]; congr 1; exact congrArg (fun x => [x]) (Option.some.inj ((List.getElem?_eq_getElem hil).symm.trans htt))
    have htl : (l.take i).length ≤ l.length := by rw [List.length_take]; omega
    refine c_text (id := 5) (by kernel_rfl) [(0, 2), (1, 2), (2, 2), (3, 2), (4, 2), (5, 2), (6, 2), (7, 2), (8, 2), (9, 2)] (by kernel_rfl) ?_
    refine q2 (o_s 12 (.move (.tmp 3)) 38 (by kernel_rfl)) F (by decide) (x_move (F.slot rfl)) (fun a F => ?_)
    refine q2 (o_s 13 (.fieldAddr 40 (.tmp 1) 2) 0 (by kernel_rfl)) F (by decide) (v := .pointer (some ⟨g1, 2, none⟩)) (x_field0 Tryd.underlying40 rfl rfl (Tryd.sizeOf38 W) (F.slot rfl)) (fun a F => ?_)
    refine q2 (o_s 14 (.load 38 (.tmp 13)) 38 (by kernel_rfl)) F (by decide) (v := .slice A l.length c) (x_load1 (Tryd.isAgg38 W) (F.slot rfl) (H.cell 1 rfl rfl)) (fun a F => ?_)
    refine q2 (o_s 15 (.move (.tmp 4)) 3 (by kernel_rfl)) F (by decide) (x_move (F.slot rfl)) (fun a F => ?_)
    refine q2 (o_s 16 (.indexAddr 38 (.tmp 14) (.tmp 15)) 0 (by kernel_rfl)) F (by decide) (v := .pointer (some (adt.add (i * 9)))) (x_indexE Tryd.underlying38 (Tryd.sizeOf33 W) (F.slot rfl) hAt (F.slot rfl) (by omega)) (fun a F => ?_)
    refine q2 (o_s 17 (.load 33 (.tmp 16)) 33 (by kernel_rfl)) F (by decide) (v := .agg (txc t A7 c7 A8 c8).toArray) (x_loadN (Tryd.isAgg33 W) (txc t A7 c7 A8 c8) (Tryd.sizeOf33 W) (F.slot rfl) (clnz (H.get 5 rfl) _ rfl)) (fun a F => ?_)
    refine sqc (o_s 18 (.call { callee := (.value (.func 19)), args := #[(.tmp 17)], argTypes := #[33] }) 33 (by kernel_rfl)) trivial F (by decide) (x_call Tryd.func19 (by kernel_rfl) rfl (args_1 (F.slot rfl))) (ownF_calls t A7 A8 c7 c8 W (H.rd 4 rfl) (hL t (List.mem_of_getElem? htt)).1 (hL t (List.mem_of_getElem? htt)).2) ?_
    rintro e W ⟨B7, d7, B8, d8, rfl, hF, hB⟩
    refine ⟨_, rfl, fun a F => ?_⟩
    have H := H.freshF hB _ _ hF (fun k hk => hk)
    have H : St w (fun _ => False) (fun _ => True) [Asn.rd k33 (fun k => k < w.heap.size) A l.length l, Asn.blk g1 [.int .i64 au, .int .i64 n, .slice A l.length c] 40, Asn.blk g2 [.int .i64 0, .int .i64 0, .slice none 0 0] 40, Asn.qu k33 33 (.slice A1 ((l.take i).length) c1) (l.take i) ok1, Asn.fk k33 (fun k => k < w.heap.size) t (txc t A7 c7 A8 c8), Asn.cl (adt.add (i * 9)) (txc t A7 c7 A8 c8) (fun k => k < w.heap.size), Asn.fk k33 _ t (txc t B7 d7 B8 d8)] W := H
    refine ⟨(fun _ => trivial), ?_⟩
    refine sq_bapp k33 3 6 (by decide) (o_s 19 (.buildSlice 38 1 #[(0, (.tmp 18))]) 38 (by kernel_rfl)) trivial (o_s 20 (.call { callee := (.builtin .append), args := #[(.tmp 12), (.tmp 19)], argTypes := #[38, 38] }) 38 (by kernel_rfl)) (fun _ => trivial) F (by decide) (by decide) rfl (fun a F => F.slot rfl) (F.slot rfl) rfl Tryd.underlying38 PB.info33 rfl (by decide) (by decide) (by decide) H rfl rfl (by omega) (fun W H => (fun _ => trivial)) ?_
    intro v_ W a H F
    obtain ⟨A2, c2, rfl, hc2⟩ := (H.qu 3 rfl).form
    have H : St w (fun _ => False) (fun _ => True) [Asn.rd k33 (fun k => k < w.heap.size) A l.length l, Asn.blk g1 [.int .i64 au, .int .i64 n, .slice A l.length c] 40, Asn.blk g2 [.int .i64 0, .int .i64 0, .slice none 0 0] 40, Asn.qu k33 33 (.slice A2 ((l.take i ++ [t]).length) c2) (l.take i ++ [t]) _, Asn.fk k33 (fun k => k < w.heap.size) t (txc t A7 c7 A8 c8), Asn.cl (adt.add (i * 9)) (txc t A7 c7 A8 c8) (fun k => k < w.heap.size), Asn.fk k33 _ t (txc t B7 d7 B8 d8)] W := H
    refine ⟨(fun _ => trivial), ?_⟩
    refine q2 (o_s 3 (.assign (.tmp 20)) 38 (by kernel_rfl)) F (by decide) (v := .slice A2 ((l.take i ++ [t]).length) c2) (x_assign (F.slot rfl)) (fun a F => ?_)
    unfold wpSeq
    refine b_normal ?_
    refine t_normal ?_
    refine c_text (id := 4) (by kernel_rfl) [(0, 2), (1, 2), (2, 2)] (by kernel_rfl) ?_
    refine q2 (o_s 10 (.move (.tmp 4)) 3 (by kernel_rfl)) F (by decide) (x_move (F.slot rfl)) (fun a F => ?_)
    refine q2 (o_s 11 (.binOp .add 3 (.tmp 10) (.const (.int .i64 1)) 3) 3 (by kernel_rfl)) F (by decide) (v := .int .i64 (IntKind.i64.wrap ((i : Int) + 1))) (x_int (F.slot rfl) rfl rfl) (fun a F => ?_)
    have F := F.conv (v' := .int .i64 ((i : Int) + 1)) (congrArg (Value.int .i64) (wrap_i64 _ (by omega) (by omega)))
    refine q2 (o_s 4 (.assign (.tmp 11)) 3 (by kernel_rfl)) F (by decide) (v := .int .i64 ((i : Int) + 1)) (x_assign (F.slot rfl)) (fun a F => ?_)
    unfold wpSeq
    refine t_normal ?_
    have F_ := F
    have H := H.front 4
    rw [← hnx] at H
    have F := F.at 4 rfl (v' := .int .i64 ((i + 1 : Nat) : Int)) (congrArg (Value.int .i64) (by omega))
    have F := F.at 3 rfl (v' := .slice A2 (l.take (i + 1)).length c2) (by rw [hnx])
    exact ⟨k - 1, by omega, i + 1, A2, c2, _, F.less _ (subc rfl (subc rfl (subc rfl (subc rfl (subc rfl sub0))))), H, (by omega), (by omega), (fun k hk => hk.elim (hok1 k) (fun h => Nat.le_trans hsz h.1))⟩
  · have hb3d := of_decide_eq_false hb3
    have F := F.at 9 rfl (v' := .bool false) (congrArg Value.bool hb3)
    refine c_no (c := .tmp 9) (by kernel_rfl) (F.slot rfl) ?_
    refine c_exit (id := 0) (by kernel_rfl) ?_
    refine t_exit ?_
    refine t_exit ?_
    refine b_here ?_
    refine t_normal ?_
    refine c_seq (by kernel_rfl) ?_
    obtain rfl : i = l.length := by omega
    rw [List.take_length] at H F
    have H : St w (fun _ => False) (fun _ => True) [Asn.rd k33 (fun k => k < w.heap.size) A l.length l, Asn.blk g1 [.int .i64 au, .int .i64 n, .slice A l.length c] 40, Asn.blk g2 [.int .i64 0, .int .i64 0, .slice none 0 0] 40, Asn.qu k33 33 (.slice A1 (l.length) c1) l ok1] W := H
    refine c_text (id := 6) (by kernel_rfl) [(0, 2), (1, 2), (2, 2)] (by kernel_rfl) ?_
    refine q2 (o_s 21 (.move (.tmp 3)) 38 (by kernel_rfl)) F (by decide) (x_move (F.slot rfl)) (fun a F => ?_)
    refine q2 (o_s 22 (.fieldAddr 40 (.tmp 1) 2) 0 (by kernel_rfl)) F (by decide) (v := .pointer (some ⟨g1, 2, none⟩)) (x_field0 Tryd.underlying40 rfl rfl (Tryd.sizeOf38 W) (F.slot rfl)) (fun a F => ?_)
    refine sq_put (M := [Asn.rd k33 (fun k => k < w.heap.size) A l.length l, Asn.blk g1 [.int .i64 au, .int .i64 n, .slice A1 l.length c1] 40, Asn.blk g2 [.int .i64 0, .int .i64 0, .slice none 0 0] 40, Asn.qu k33 33 (.slice A1 (l.length) c1) l ok1]) (o_n (.store 38 (.tmp 22) (.tmp 21)) 0 (by kernel_rfl)) trivial F (x_store H (k := 1) (cs' := [.int .i64 au, .int .i64 n, .slice A1 l.length c1]) rfl (Tryd.sizeOf38 W) (F.slot rfl) (F.slot rfl) rfl (Nat.le_of_ble_eq_true rfl) rfl rfl) ?_
    intro W H
    refine ⟨(fun _ => trivial), ?_⟩
    unfold wpSeq
    refine t_normal ?_
    refine c_seq (by kernel_rfl) ?_
    refine c_text (id := 7) (by kernel_rfl) [(0, 2), (1, 2)] (by kernel_rfl) ?_
    refine q2 (o_s 23 (.load 40 (.tmp 1)) 40 (by kernel_rfl)) F (by decide) (v := .agg #[.int .i64 au, .int .i64 n, .slice A1 l.length c1]) (x_loadB (Tryd.isAgg40 W) [.int .i64 au, .int .i64 n, .slice A1 l.length c1] (Tryd.sizeOf40 W) (F.slot rfl) (H.blk 1 rfl)) (fun a F => ?_)
    refine sq_put (M := [Asn.rd k33 (fun k => k < w.heap.size) A l.length l, Asn.blk g1 [.int .i64 au, .int .i64 n, .slice A1 l.length c1] 40, Asn.blk g2 [.int .i64 au, .int .i64 n, .slice A1 l.length c1] 40, Asn.qu k33 33 (.slice A1 (l.length) c1) l ok1]) (o_n (.store 40 (.tmp 2) (.tmp 23)) 0 (by kernel_rfl)) trivial F (x_store H (k := 2) (cs' := [.int .i64 au, .int .i64 n, .slice A1 l.length c1]) rfl (Tryd.sizeOf40 W) (F.slot rfl) (F.slot rfl) rfl (Nat.le_of_ble_eq_true rfl) rfl rfl) ?_
    intro W H
    refine ⟨(fun _ => trivial), ?_⟩
    unfold wpSeq
    refine t_normal ?_
    refine c_ret (by kernel_rfl) ?_
    refine p_cell Tryd.results30 F rfl (H.blk 2 rfl) (Tryd.isAgg40 W) (Tryd.sizeOf40 W) ?_
    exact ⟨A1, c1, rfl, (H.qu 3 rfl).read.2.1, H.quOut 3 rfl hok1, H.ends⟩
end Go.Proofs.YtndicjikjcifaaaDoor

/- The sealers' answers, case by case; an operation (a tick, or a transaction to add) as it came in; Own's copies and what they lead to. -/
namespace Go.Proofs.YtndicjikjcifaaaDoor
open Go.RowKit Go.Proofs.YtndicjikjcifaaaDoorW.PrintWords Go.Proofs.YtndicjikjcifaaaDoorW.PrintLast
open PB (S33 k33)
set_option linter.unusedVariables false
set_option linter.unusedSimpArgs false
abbrev sl6 (a0 s0 t0 : Int) (A : Option Addr) (n c : Nat) (k0 n0 : Int) : List Value := [.int .i64 a0, .int .i64 s0, .int .i64 t0, .slice A n c, .int .i64 k0, .int .i64 n0]
section
variable {T : TypeId} {z a0 s0 t0 k0 n0 : Int} {g : Nat} {A : Option Addr} {c : Nat} {xs : List S33} {ok : Nat → Prop} {t : S33} {w : World} {Sf Rf : Nat → Prop} {M : List Asn} {e : Ending} {W : World}
theorem AddP.no (h : AddP T z g a0 s0 t0 k0 n0 A c xs ok t w Sf Rf M e W) (hz : z ≠ 0) : e = .returned (.int .i64 z) ∧ St w Sf Rf (Asn.blk g (sl6 a0 s0 t0 A xs.length c k0 n0) T :: Asn.qu k33 33 (.slice A xs.length c) xs ok :: M) W := by
  rcases h with ⟨_, h1, h2⟩ | ⟨h0, _⟩ | ⟨h0, _⟩
  · exact ⟨h1, h2⟩
  · exact absurd h0 hz
  · exact absurd h0 hz
theorem AddP.in_ (h : AddP T z g a0 s0 t0 k0 n0 A c xs ok t w Sf Rf M e W) (hz : z = 0) (hf : ¬ (xs.length : Int) ≥ 4 * s0) : e = .returned (.int .i64 0) ∧ ∃ A' c' ok', St w Sf Rf (Asn.blk g (sl6 a0 s0 t0 A' (xs ++ [t]).length c' k0 n0) T :: Asn.qu k33 33 (.slice A' (xs ++ [t]).length c') (xs ++ [t]) ok' :: M) W := by
  rcases h with ⟨h0, _⟩ | ⟨_, h0, _⟩ | ⟨_, _, h1, h2⟩
  · exact absurd hz h0
  · exact absurd h0 hf
  · exact ⟨h1, h2⟩
abbrev cutA (A : Option Addr) (c m : Nat) : Option Addr := if c = m then A else A.map (·.add (m * 9))
theorem Ticked.none (h : Ticked g a0 s0 t0 k0 n0 A c xs ok w Sf Rf e W) (h0 : xs.length = 0) : e = .returned (.tuple #[.agg #[.int .i64 0, .int .i64 0, .slice Option.none 0 0], .bool false]) ∧ St w Sf Rf [Asn.blk g (sl6 a0 s0 t0 A xs.length c k0 n0) 72, Asn.qu k33 33 (.slice A xs.length c) xs ok] W := by
  rcases h with ⟨_, h1, h2⟩ | ⟨h1, _⟩ | ⟨h1, _⟩
  · exact ⟨h1, h2⟩
  · exact absurd h0 h1
  · exact absurd h0 h1
theorem Ticked.seal (h : Ticked g a0 s0 t0 k0 n0 A c xs ok w Sf Rf e W) (h0 : xs.length ≠ 0) (hw : ¬ ((xs.length : Int) < s0 ∧ k0 + 1 < t0)) (m : Nat) (hm : (m : Int) = min s0 (xs.length : Int)) : e = .returned (.tuple #[.agg #[.int .i64 a0, .int .i64 (n0 + 1), .slice A (xs.take m).length m], .bool true]) ∧
    St w Sf Rf [Asn.blk g (sl6 a0 s0 t0 (cutA A c m) (xs.drop m).length (c - m) 0 (n0 + 1)) 72, Asn.qf k33 33 (.slice (cutA A c m) (xs.drop m).length (c - m)) (xs.drop m) ok A (xs.take m).length (xs.take m)] W := by
  rcases h with ⟨h1, _⟩ | ⟨_, h1, h2, _⟩ | ⟨_, _, m', hm', h1, h2⟩
  · exact absurd h1 h0
  · exact absurd ⟨h1, h2⟩ hw
  · obtain rfl : m = m' := by omega
    rw [List.length_take, List.length_drop, Nat.min_eq_left (by omega)]
    exact ⟨h1, h2⟩
theorem RTicked.none (h : RTicked g a0 s0 t0 k0 n0 A c xs ok w Sf Rf e W) (h0 : xs.length = 0) : e = .returned (.tuple #[.agg #[.int .i64 0, .int .i64 0, .slice Option.none 0 0], .bool false]) ∧ St w Sf Rf [Asn.blk g (sl6 a0 s0 t0 A xs.length c k0 n0) 46, Asn.qu k33 33 (.slice A xs.length c) xs ok] W := by
  rcases h with ⟨_, h1, h2⟩ | ⟨h1, _⟩ | ⟨h1, _⟩
  · exact ⟨h1, h2⟩
  · exact absurd h0 h1
  · exact absurd h0 h1
theorem RTicked.seal (h : RTicked g a0 s0 t0 k0 n0 A c xs ok w Sf Rf e W) (h0 : xs.length ≠ 0) (hw : ¬ ((xs.length : Int) < s0 ∧ k0 + 1 < t0)) (m : Nat) (hm : (m : Int) = min s0 (xs.length : Int)) : ∃ (A' : Option Addr) (c' : Nat) (ok' : Nat → Prop), (xs.take m).length ≤ c' ∧ e = .returned (.tuple #[.agg #[.int .i64 a0, .int .i64 (n0 + 1), .slice A' (xs.take m).length c'], .bool true]) ∧
    St w Sf Rf [Asn.blk g (sl6 a0 s0 t0 (cutA A c m) (xs.drop m).length (c - m) 0 (n0 + 1)) 46, Asn.qu k33 33 (.slice (cutA A c m) (xs.drop m).length (c - m)) (xs.drop m) ok, Asn.rd k33 ok' A' (xs.take m).length (xs.take m)] W := by
  rcases h with ⟨h1, _⟩ | ⟨_, h1, h2, _⟩ | ⟨_, _, m', A', c', ok', hm', h1, h2, h3⟩
  · exact absurd h1 h0
  · exact absurd ⟨h1, h2⟩ hw
  · obtain rfl : m = m' := by omega
    rw [List.length_drop]
    exact ⟨A', c', ok', h1, h2, h3⟩
theorem SealNew.is (h : SealNew T a0 s0 t0 w e W) (hk : SealOk a0 s0 t0) : ∃ g, e = .returned (.tuple #[.pointer (some ⟨g, 0, none⟩), .int .i64 0]) ∧ w.heap.size ≤ g ∧ W.heap[g]? = some (.cells (sl6 a0 s0 t0 Option.none 0 0 0 0).toArray T (0, 0)) ∧ Below w.heap.size w W := h.1 hk
theorem SealNew.no (h : SealNew T a0 s0 t0 w e W) (hk : ¬ SealOk a0 s0 t0) : e = .returned (.tuple #[.pointer Option.none, .int .i64 2]) ∧ Below w.heap.size w W := h.2 hk
theorem St.newBlk {w W W' : World} {S R : Nat → Prop} {M : List Asn} {g : Nat} {cs : List Value} {T : TypeId} (H : St w S R M W) (hb : Below W.heap.size W W') (hg : W.heap.size ≤ g) (h : W'.heap[g]? = some (.cells cs.toArray T (0, 0))) : St w S R (M ++ [Asn.blk g cs T]) W' :=
  H.fresh hb _ h (fun k hk => by
    rcases hk with hk | hk
    · exact (show k = g from hk) ▸ ⟨hg, blk_lt h⟩
    · cases hk)
end
theorem chT_len {t : S33} (h : chT t = 0) : LenT t := by
  have hF := ch_fine (show ch t.f0 t.f1 t.f2 t.f3 t.f4 t.f5 t.f6 t.f7 t.f8 = 0 from h)
  have h7 := (ke_zero hF.rs).1
  have h8 := (ke_zero hF.ws).1
  exact ⟨by omega, by omega⟩
end Go.Proofs.YtndicjikjcifaaaDoor

namespace Go.Proofs.YtndicjikjcifaaaDoor.PFt
open Go.RowKit Go.Proofs.YtndicjikjcifaaaDoorW.PrintWords Go.Proofs.YtndicjikjcifaaaDoorW.PrintLast Go.Proofs.YtndicjikjcifaaaDoorW.PrintMore
attribute [local go_sem] max2_int min2_int max_two min_two max_three min_three max_four min_four   -- for this text's walks alone
set_option linter.unusedVariables false
set_option linter.unusedSimpArgs false
def errW : Option Int → Value
  | none => .nilIface
  | some c => .iface 0 (.int .i64 c)
theorem errW_none : errW none = .nilIface := rfl
theorem errW_some (c : Int) : errW (some c) = .iface 0 (.int .i64 c) := rfl
-- the values' own types
/-! #### struct type 33 -/
structure S33 where
  f0 : Int
  f1 : ByteArray
  f2 : ByteArray
  f3 : Int
  f4 : Int
  f5 : ByteArray
  f6 : ByteArray
  f7 : (List ByteArray)
  f8 : (List ByteArray)
def z33 : S33 := ⟨(0 : Int), (⟨#[]⟩ : ByteArray), (⟨#[]⟩ : ByteArray), (0 : Int), (0 : Int), (⟨#[]⟩ : ByteArray), (⟨#[]⟩ : ByteArray), ([] : List ByteArray), ([] : List ByteArray)⟩
def k33 : Kd S33 := Kd.iso (Kd.pair (Kd.int .i64) (Kd.pair Kd.string (Kd.pair Kd.string (Kd.pair (Kd.int .u64) (Kd.pair (Kd.int .u64) (Kd.pair Kd.string (Kd.pair Kd.string (Kd.pair (Kd.slice 9 Kd.string) (Kd.slice 9 Kd.string))))))))) (fun x : S33 => (x.f0, x.f1, x.f2, x.f3, x.f4, x.f5, x.f6, x.f7, x.f8))
theorem k33_open {w : World} {x : S33} {cs : List Value} (h : k33.K w x cs) : ∃ A7 c7 A8 c8, cs = [.int .i64 x.f0, .string x.f1, .string x.f2, .int .u64 x.f3, .int .u64 x.f4, .string x.f5, .string x.f6, .slice A7 x.f7.length c7, .slice A8 x.f8.length c8] ∧ x.f7.length ≤ c7 ∧ Kd.string.C w A7 x.f7.length x.f7 ∧ x.f8.length ≤ c8 ∧ Kd.string.C w A8 x.f8.length x.f8 := by
  obtain ⟨_, _, rfl, rfl, ⟨_, _, rfl, rfl, ⟨_, _, rfl, rfl, ⟨_, _, rfl, rfl, ⟨_, _, rfl, rfl, ⟨_, _, rfl, rfl, ⟨_, _, rfl, rfl, ⟨_, _, rfl, ⟨A7, c7, rfl, l7, g7⟩, ⟨A8, c8, rfl, l8, g8⟩⟩⟩⟩⟩⟩⟩⟩⟩ := h
  exact ⟨A7, c7, A8, c8, rfl, l7, g7, l8, g8⟩
theorem k33_mk (w : World) (x : S33) {A7 : Option Addr} {c7 : Nat} (l7 : x.f7.length ≤ c7) (g7 : Kd.string.C w A7 x.f7.length x.f7) {A8 : Option Addr} {c8 : Nat} (l8 : x.f8.length ≤ c8) (g8 : Kd.string.C w A8 x.f8.length x.f8) : k33.K w x [.int .i64 x.f0, .string x.f1, .string x.f2, .int .u64 x.f3, .int .u64 x.f4, .string x.f5, .string x.f6, .slice A7 x.f7.length c7, .slice A8 x.f8.length c8] := ⟨[.int .i64 x.f0], [.string x.f1, .string x.f2, .int .u64 x.f3, .int .u64 x.f4, .string x.f5, .string x.f6, .slice A7 x.f7.length c7, .slice A8 x.f8.length c8], rfl, rfl, ⟨[.string x.f1], [.string x.f2, .int .u64 x.f3, .int .u64 x.f4, .string x.f5, .string x.f6, .slice A7 x.f7.length c7, .slice A8 x.f8.length c8], rfl, rfl, ⟨[.string x.f2], [.int .u64 x.f3, .int .u64 x.f4, .string x.f5, .string x.f6, .slice A7 x.f7.length c7, .slice A8 x.f8.length c8], rfl, rfl, ⟨[.int .u64 x.f3], [.int .u64 x.f4, .string x.f5, .string x.f6, .slice A7 x.f7.length c7, .slice A8 x.f8.length c8], rfl, rfl, ⟨[.int .u64 x.f4], [.string x.f5, .string x.f6, .slice A7 x.f7.length c7, .slice A8 x.f8.length c8], rfl, rfl, ⟨[.string x.f5], [.string x.f6, .slice A7 x.f7.length c7, .slice A8 x.f8.length c8], rfl, rfl, ⟨[.string x.f6], [.slice A7 x.f7.length c7, .slice A8 x.f8.length c8], rfl, rfl, ⟨[.slice A7 x.f7.length c7], [.slice A8 x.f8.length c8], rfl, ⟨A7, c7, rfl, l7, g7⟩, ⟨A8, c8, rfl, l8, g8⟩⟩⟩⟩⟩⟩⟩⟩⟩
def rd_T33 (xs : List S33) (i : Int) : S33 := xs.getD i.toNat z33
end Go.Proofs.YtndicjikjcifaaaDoor.PFt

namespace Go.Proofs.YtndicjikjcifaaaDoor.PFt
open Go.RowKit Go.Proofs.YtndicjikjcifaaaDoorW.PrintWords Go.Proofs.YtndicjikjcifaaaDoorW.PrintLast Go.Proofs.YtndicjikjcifaaaDoorW.PrintMore
attribute [local go_sem] max2_int min2_int max_two min_two max_three min_three max_four min_four   -- for this text's walks alone
set_option linter.unusedVariables false
set_option linter.unusedSimpArgs false
/-! ### tx_Needs: function 44 -/
-- IMPORT Derived.Test.YtndicjikjcifaaaDoorTxneed
/-! ### slices_Index_string_string: function 95 -/
def slices_Index_string_string.l0 : Nat → List ByteArray → ByteArray → Int → Int → Option (Int)
  | 0, _, _, _, _ => none
  | k + 1, x0, x1, x7, x8 => if x8 < x7 then (if 0 ≤ x8 then (if x8 < (x0.length : Int) then (if x1.toList = (rdOf ByteArray.empty x0 x8).toList then (some x8) else (slices_Index_string_string.l0 k x0 x1 x7 (wrap64 (x8 + 1)))) else (none)) else (none)) else (some (-1))
def slices_Index_string_string.f (k : Nat) (l0 : List ByteArray) (a1 : ByteArray) : Option (Int) := slices_Index_string_string.l0 k l0 a1 (l0.length : Int) 0
theorem slices_Index_string_string.mono_l : ∀ k, (∀ y0 y1 y2 y3, LeO (slices_Index_string_string.l0 k y0 y1 y2 y3) (slices_Index_string_string.l0 (k + 1) y0 y1 y2 y3))
  | 0 => fun _ _ _ _ r h => by simp [slices_Index_string_string.l0] at h
  | k + 1 => by
    have ih0 := slices_Index_string_string.mono_l k
    · intro y0 y1 y2 y3
      unfold slices_Index_string_string.l0
      repeat' first
      | (with_reducible exact ih0 _ _ _ _)
      | (with_reducible exact LeO.refl _)
      | (with_reducible exact LeO.none _)
      | (with_reducible refine LeO.ite ?_ ?_)
      | (with_reducible refine LeO.bind ?_ (fun _ => ?_))
      | exact ih0 _ _ _ _
      | exact LeO.none _
      | refine LeO.ite ?_ ?_
      | refine LeO.bind ?_ (fun _ => ?_)
theorem slices_Index_string_string.mono : ∀ a0 a1 k, LeO (slices_Index_string_string.f k a0 a1) (slices_Index_string_string.f (k + 1) a0 a1) := by
  intro a0 a1 k
  have ih0 := slices_Index_string_string.mono_l k
  unfold slices_Index_string_string.f
  repeat' first
      | (with_reducible exact ih0 _ _ _ _)
      | (with_reducible exact LeO.refl _)
      | (with_reducible exact LeO.none _)
      | (with_reducible refine LeO.ite ?_ ?_)
      | (with_reducible refine LeO.bind ?_ (fun _ => ?_))
      | exact ih0 _ _ _ _
      | exact LeO.none _
      | refine LeO.ite ?_ ?_
      | refine LeO.bind ?_ (fun _ => ?_)
/-! ### slices_Contains_string_string: function 76 -/
def slices_Contains_string_string.f (k : Nat) (l0 : List ByteArray) (a1 : ByteArray) : Option (Bool) := (slices_Index_string_string.f k l0 a1).bind fun t102 => (some (decide (t102 ≥ 0)))
theorem slices_Contains_string_string.mono : ∀ a0 a1 k, LeO (slices_Contains_string_string.f k a0 a1) (slices_Contains_string_string.f (k + 1) a0 a1) := by
  intro a0 a1 k
  unfold slices_Contains_string_string.f
  repeat' first
      | (with_reducible exact slices_Index_string_string.mono _ _ _)
      | (with_reducible exact LeO.refl _)
      | (with_reducible exact LeO.none _)
      | (with_reducible refine LeO.ite ?_ ?_)
      | (with_reducible refine LeO.bind ?_ (fun _ => ?_))
      | exact slices_Index_string_string.mono _ _ _
      | exact LeO.none _
      | refine LeO.ite ?_ ?_
      | refine LeO.bind ?_ (fun _ => ?_)
/-! ### tx_Fits: function 46 -/
def tx_Fits.l0 : Nat → List ByteArray → List ByteArray → Int → Int → Int → ByteArray → ByteArray → Int → Int → ByteArray → ByteArray → List ByteArray → List ByteArray → Option (Bool)
  | 0, _, _, _, _, _, _, _, _, _, _, _, _, _ => none
  | k + 1, x3, x8, x9, x10, x104000, x104001, x104002, x104003, x104004, x104005, x104006, x104007, x104008 => if x10 < x9 then (if 0 ≤ x10 then (if x10 < (x8.length : Int) then ((slices_Contains_string_string.f k x104008 (rdOf ByteArray.empty x8 x10)).bind fun t108 => (if t108 = true then (tx_Fits.l0 k x3 x8 x9 (wrap64 (x10 + 1)) x104000 x104001 x104002 x104003 x104004 x104005 x104006 x104007 x104008) else (some false))) else (none)) else (none)) else (some (decide ((x3.length : Int) > 0)))
def tx_Fits.f (k : Nat) (a0_0 : Int) (a0_1 : ByteArray) (a0_2 : ByteArray) (a0_3 : Int) (a0_4 : Int) (a0_5 : ByteArray) (a0_6 : ByteArray) (l0_7 : List ByteArray) (l0_8 : List ByteArray) : Option (Bool) := (tx_Needs.f a0_0 a0_1 a0_2 a0_3 a0_4 a0_5 a0_6 l0_7 l0_8).bind fun t104 => (tx_Fits.l0 k t104 t104 (t104.length : Int) 0 a0_0 a0_1 a0_2 a0_3 a0_4 a0_5 a0_6 l0_7 l0_8)
theorem tx_Fits.mono_l : ∀ k, (∀ y0 y1 y2 y3 y4 y5 y6 y7 y8 y9 y10 y11 y12, LeO (tx_Fits.l0 k y0 y1 y2 y3 y4 y5 y6 y7 y8 y9 y10 y11 y12) (tx_Fits.l0 (k + 1) y0 y1 y2 y3 y4 y5 y6 y7 y8 y9 y10 y11 y12))
  | 0 => fun _ _ _ _ _ _ _ _ _ _ _ _ _ r h => by simp [tx_Fits.l0] at h
  | k + 1 => by
    have ih0 := tx_Fits.mono_l k
    · intro y0 y1 y2 y3 y4 y5 y6 y7 y8 y9 y10 y11 y12
      unfold tx_Fits.l0
      repeat' first
      | (with_reducible exact ih0 _ _ _ _ _ _ _ _ _ _ _ _ _)
      | (with_reducible exact slices_Contains_string_string.mono _ _ _)
      | (with_reducible exact LeO.refl _)
      | (with_reducible exact LeO.none _)
      | (with_reducible refine LeO.ite ?_ ?_)
      | (with_reducible refine LeO.bind ?_ (fun _ => ?_))
      | exact ih0 _ _ _ _ _ _ _ _ _ _ _ _ _
      | exact slices_Contains_string_string.mono _ _ _
      | exact LeO.none _
      | refine LeO.ite ?_ ?_
      | refine LeO.bind ?_ (fun _ => ?_)
theorem tx_Fits.mono : ∀ a0 a1 a2 a3 a4 a5 a6 a7 a8 k, LeO (tx_Fits.f k a0 a1 a2 a3 a4 a5 a6 a7 a8) (tx_Fits.f (k + 1) a0 a1 a2 a3 a4 a5 a6 a7 a8) := by
  intro a0 a1 a2 a3 a4 a5 a6 a7 a8 k
  have ih0 := tx_Fits.mono_l k
  unfold tx_Fits.f
  repeat' first
      | (with_reducible exact ih0 _ _ _ _ _ _ _ _ _ _ _ _ _)
      | (with_reducible exact slices_Contains_string_string.mono _ _ _)
      | (with_reducible exact LeO.refl _)
      | (with_reducible exact LeO.none _)
      | (with_reducible refine LeO.ite ?_ ?_)
      | (with_reducible refine LeO.bind ?_ (fun _ => ?_))
      | exact ih0 _ _ _ _ _ _ _ _ _ _ _ _ _
      | exact slices_Contains_string_string.mono _ _ _
      | exact LeO.none _
      | refine LeO.ite ?_ ?_
      | refine LeO.bind ?_ (fun _ => ?_)
end Go.Proofs.YtndicjikjcifaaaDoor.PFt

/- tx.Fits: what is needed is declared. -/
namespace Go.Proofs.YtndicjikjcifaaaDoor
open Go.RowKit Go.Shelf Go.Lib Go.Proofs.YtndicjikjcifaaaDoorW.PrintWords Go.Proofs.YtndicjikjcifaaaDoorW.PrintLast
open Go.Proofs.YtndicjikjcifaaaDoor.PFt
set_option linter.unusedVariables false
set_option linter.unusedSimpArgs false
end Go.Proofs.YtndicjikjcifaaaDoor
/- tusklaw04.pay, works: one transaction that is as it should be. -/
namespace Go.Proofs.YtndicjikjcifaaaDoor
open Go.RowKit Go.Shelf Go.Lib Go.Proofs.YtndicjikjcifaaaDoorW.PrintWords Go.Proofs.YtndicjikjcifaaaDoorW.PrintLast
set_option linter.unusedVariables false
set_option linter.unusedSimpArgs false
def bab : ByteArray := ⟨#[97, 98]⟩
def bc : ByteArray := ⟨#[99]⟩
def kab : ByteArray := ⟨#[97, 58, 97, 98]⟩
def kc : ByteArray := ⟨#[97, 58, 99]⟩
end Go.Proofs.YtndicjikjcifaaaDoor

/- Literals of one-cell elements; the laws' own transaction. -/
namespace Go.Proofs.YtndicjikjcifaaaDoor
open Go.RowKit Go.Proofs.YtndicjikjcifaaaDoorW.PrintWords Go.Proofs.YtndicjikjcifaaaDoorW.PrintLast
open PB (S33 k33)
set_option linter.unusedVariables false
set_option linter.unusedSimpArgs false
theorem wrap_u64 (x : Int) (h0 : 0 ≤ x) (h1 : x < 18446744073709551616) : IntKind.u64.wrap x = x := by
  simp [IntKind.wrap, IntKind.bits, IntKind.signed]; omega
section
variable {P : Program} {T : TypeId}
theorem run_lit1 {t : TypeId} {bytes : Nat} {z : Value} (hu : P.underlying t = some (.slice T)) (hi : (P.info? T).map (fun i => (i.zero, i.size, i.bytes)) = some (some z, 1, bytes)) (hz : z.cells.size = 1) (vs : List Value) (h1 : ∀ v ∈ vs, v.cells = #[v]) (h0 : 0 < vs.length) (hm : vs.length ≤ 16777216) (parts : Array (Nat × Value))
    (hp : parts.toList = (vs.zipIdx 0).map fun x => (x.2, x.1)) (W : World) :
    (Instr.buildSlice t vs.length parts).run P W = .ok (.slice (some ⟨W.heap.size, 0, none⟩) vs.length vs.length) (W.alloc (.cells vs.toArray T)) := by
  cases hie : P.info? T with
  | none => simp [hie] at hi
  | some ie =>
    simp only [hie, Option.map_some, Option.some.injEq, Prod.mk.injEq] at hi
    obtain ⟨e1, e2, e3⟩ := hi
    refine run_buildSlice W t T vs.length _ vs.toArray ie z hu hie e1 (by rw [e2]; omega) (by rw [e2]; omega) ?_
    rw [e2, hp]
    exact Great.fill_flat vs _ h1 (by simp)
end
section
variable {P : Program} {ops : Array Oper} {Q : Exit → Act → World → Prop} {V : World → Prop} {ds : List Nat} {π : List (Nat × Nat)} {a : Act} {W W' w : World} {n i d1 m : Nat} {L : List (Nat × Value)} {ty t T : TypeId} {S R : Nat → Prop} {M : List Asn}
theorem sq_lit {g : Option (Nat × Bool)} {z : Value} {bytes : Nat} {parts : Array (Nat × Operand)} (vs : List Value) (hi : (ops[i]?).map sk = some (some d1, .buildSlice t m parts, ty, g)) (hg : On ops L g) (F : Fr n L a) (hd : d1 < n) (hm : m = vs.length)
    (ht : P.underlying t = some (.slice T)) (hinfo : (P.info? T).map (fun i => (i.zero, i.size, i.bytes)) = some (some z, 1, bytes)) (hz : z.cells.size = 1) (h1 : ∀ v ∈ vs, v.cells = #[v]) (h0 : 0 < vs.length) (hs : vs.length ≤ 16777216)
    (hp : (parts.map fun (i, x) => (i, a.eval x)).toList = (vs.zipIdx 0).map fun x => (x.2, x.1)) (H : St w S R M W)
    (h : ∀ b W' a', w.heap.size ≤ b → St w S R (M ++ [Asn.blk b vs T]) W' → Fr n ((d1, .slice (some ⟨b, 0, none⟩) m m) :: L) a' → (i ∉ ds → V W') ∧ wpSeq P ops Q V ds π a' W') : wpSeq P ops Q V ds ((i, 2) :: π) a W := by
  subst hm
  have hh := fun a' => h W.heap.size (W.alloc (.cells vs.toArray T)) a' H.low.size (H.alloc vs T)
  refine sqw hi hg F fun o K ho hK => ?_
  obtain ⟨e1, e2, e3⟩ := sk_eq ho
  unfold Oper.wp execOp
  rw [e2]
  have := run_lit1 (P := P) ht hinfo hz vs h1 h0 hs _ hp W
  simp only [this, Sem.run_bind, Result.andThen_ok]
  have q := hh _ (F.put d1 hd _)
  rw [← e1] at q
  exact hK _ _ q.1 q.2
end
theorem strs_foot {W : World} {g : Nat} {T : TypeId} (xs : List ByteArray) (hb : W.heap[g]? = some (.cells (xs.map Value.string).toArray T (0, 0))) (hn : xs.length ≤ 9223372036854775807) : Foot (fun W => Kd.string.C W (some ⟨g, 0, none⟩) xs.length xs) W (fun k => k = g) := fun W' hW => by
  have hb' := (hW g rfl (blk_lt hb)).trans hb
  refine ⟨rfl, hn, fun _ => ⟨_, rfl, fun j p hj => ⟨[.string p], rfl, rfl, fun i u hu => ?_⟩⟩⟩
  rw [addo, blk_cell hb']
  have hi : i = 0 := by have := (List.getElem?_eq_some_iff.1 hu).1; simp at this; omega
  subst hi
  obtain rfl : Value.string p = u := by simpa using hu
  have hz : Kd.string.sz = 1 := rfl
  simp [hz, hj]
def payT (n : Int) : S33 := ⟨1, bab, bc, 5, n, ⟨#[]⟩, ⟨#[]⟩, [], [kab, kc]⟩
theorem ch_payT (n : Int) (h : n ≤ 4611686018427387903) : chT (payT n) = 0 := by
  have h1 : nm bab = true := by decide +kernel
  have h2 : nm bc = true := by decide +kernel
  have h3 : ky kab = true := by decide +kernel
  have h4 : ky kc = true := by decide +kernel
  have h5 : lts kab kc = true := by rw [lts, Lib.toList_data, Lib.toList_data]; decide +kernel
  have h6 : (⟨#[]⟩ : ByteArray).toList.isEmpty = true := by rw [Lib.toList_data]; rfl
  simp [chT, payT, ch, chF, chR, ke, keL, h1, h2, h3, h4, h5, h6, h]
def PayP (n : Int) (w : World) (e : Ending) (W : World) : Prop :=
  ∃ B, e = .returned (.agg #[.int .i64 (payT n).f0, .string (payT n).f1, .string (payT n).f2, .int .u64 (payT n).f3, .int .u64 (payT n).f4, .string (payT n).f5, .string (payT n).f6, .slice none (payT n).f7.length 0, .slice B (payT n).f8.length 2])
    ∧ Foot (fun W => k33.K W (payT n) [.int .i64 (payT n).f0, .string (payT n).f1, .string (payT n).f2, .int .u64 (payT n).f3, .int .u64 (payT n).f4, .string (payT n).f5, .string (payT n).f6, .slice none (payT n).f7.length 0, .slice B (payT n).f8.length 2]) W (fun k => w.heap.size ≤ k) ∧ Below w.heap.size w W
end Go.Proofs.YtndicjikjcifaaaDoor

/- tusklaw05.pay. -/
namespace Go.Proofs.YtndicjikjcifaaaDoor
open Go.RowKit Go.Proofs.YtndicjikjcifaaaDoorW.PrintWords Go.Proofs.YtndicjikjcifaaaDoorW.PrintLast
set_option linter.unusedVariables false
set_option linter.unusedSimpArgs false
set_option maxRecDepth 100000
open PB (S33 k33)
theorem pay5_calls (n : Int) (h0 : 0 ≤ n) (h1 : n < 4611686018427387904) (w : World) : Calls Tryd.prog 38 #[.int .i64 n] w (PayP n w) := by
  refine c_enter2 (args := [.int .i64 n]) (S := (fun _ => False)) (R := (fun _ => True)) (M := []) Tryd.func38 (by kernel_rfl) 7 Tryd.ntmps38 (Nat.le_of_ble_eq_true rfl) (St.first w (fun _ => False) (fun _ => True)) (fun a W F H => ?_)
  have F := F.less [(0, .int .i64 n)] (subc rfl sub0)
  refine c_seq (by kernel_rfl) ?_
  refine c_text (id := 0) (by kernel_rfl) [(0, 2)] (by kernel_rfl) ?_
  refine sq_new (o_s 2 (.alloc 33) 0 (by kernel_rfl)) trivial F (by decide) H [.int .i64 0, .string ⟨#[]⟩, .string ⟨#[]⟩, .int .u64 0, .int .u64 0, .string ⟨#[]⟩, .string ⟨#[]⟩, .slice none 0 0, .slice none 0 0] 33 (x_alloc Tryd.zeroValue33 rfl) ?_
  intro g1 W a hg1 H F
  refine ⟨(fun _ => trivial), ?_⟩
  unfold wpSeq
  have H : St w (fun _ => False) (fun _ => True) [Asn.blk g1 [.int .i64 0, .string ⟨#[]⟩, .string ⟨#[]⟩, .int .u64 0, .int .u64 0, .string ⟨#[]⟩, .string ⟨#[]⟩, .slice none 0 0, .slice none 0 0] 33] W := H
  refine t_normal ?_
  refine c_seq (by kernel_rfl) ?_
  refine c_text (id := 1) (by kernel_rfl) [(0, 2), (1, 2), (2, 2), (3, 2), (4, 2)] (by kernel_rfl) ?_
  refine q2 (o_s 3 (.move (.tmp 0)) 3 (by kernel_rfl)) F (by decide) (x_move (F.slot rfl)) (fun a F => ?_)
  refine q2 (o_s 4 (.convert 3 30 (.tmp 3)) 30 (by kernel_rfl)) F (by decide) (v := .int .u64 (IntKind.u64.wrap n)) (x_conv Tryd.underlying3 Tryd.underlying30 (F.slot rfl)) (fun a F => ?_)
  have F := F.conv (v' := .int .u64 n) (congrArg (Value.int .u64) (wrap_u64 _ h0 (by omega)))
  refine sq_lit [.string ⟨#[97, 58, 97, 98]⟩, .string ⟨#[97, 58, 99]⟩] (o_s 5 (.buildSlice 31 2 #[(0, (.const (.string { data := #[97, 58, 97, 98] }))), (1, (.const (.string { data := #[97, 58, 99] })))]) 31 (by kernel_rfl)) trivial F (by decide) rfl Tryd.underlying31 (show (Tryd.prog.info? 9).map (fun i => (i.zero, i.size, i.bytes)) = some (some (.string ⟨#[]⟩), 1, 16) by kernel_rfl) rfl (by simp [Value.cells]) (by decide) (by decide) (by simp [Act.eval]) H ?_
  intro g2 W a hg2 H F
  refine ⟨(fun _ => trivial), ?_⟩
  refine q2 (o_s 6 (.build 33 #[(0, (.const (.int .i64 1))), (1, (.const (.string { data := #[97, 98] }))), (2, (.const (.string { data := #[99] }))), (3, (.const (.int .u64 5))), (4, (.tmp 4)), (8, (.tmp 5))]) 33 (by kernel_rfl)) F (by decide) (v := .agg #[.int .i64 1, .string ⟨#[97, 98]⟩, .string ⟨#[99]⟩, .int .u64 5, .int .u64 n, .string ⟨#[]⟩, .string ⟨#[]⟩, .slice none 0 0, .slice (some ⟨g2, 0, none⟩) 2 2]) (by simp [ex, execOp, Instr.build, Tryd.zeroValue33, run_underlying Tryd.underlying33, Instr.fill, Value.cells, ev_c, F.slot (i := 4) rfl, F.slot (i := 5) rfl, Tryd.sizeOf3, Tryd.sizeOf9, Tryd.sizeOf30, Tryd.sizeOf31]) (fun a F => ?_)
  refine sq_put (M := [Asn.blk g1 [.int .i64 1, .string ⟨#[97, 98]⟩, .string ⟨#[99]⟩, .int .u64 5, .int .u64 n, .string ⟨#[]⟩, .string ⟨#[]⟩, .slice none 0 0, .slice (some ⟨g2, 0, none⟩) 2 2] 33, Asn.blk g2 [.string ⟨#[97, 58, 97, 98]⟩, .string ⟨#[97, 58, 99]⟩] 9]) (o_n (.store 33 (.tmp 2) (.tmp 6)) 0 (by kernel_rfl)) trivial F (x_store H (k := 0) (cs' := [.int .i64 1, .string ⟨#[97, 98]⟩, .string ⟨#[99]⟩, .int .u64 5, .int .u64 n, .string ⟨#[]⟩, .string ⟨#[]⟩, .slice none 0 0, .slice (some ⟨g2, 0, none⟩) 2 2]) rfl (Tryd.sizeOf33 W) (F.slot rfl) (F.slot rfl) rfl (Nat.le_of_ble_eq_true rfl) rfl rfl) ?_
  intro W H
  refine ⟨(fun _ => trivial), ?_⟩
  unfold wpSeq
  refine t_normal ?_
  refine c_ret (by kernel_rfl) ?_
  refine p_cell Tryd.results38 F rfl (H.blk 0 rfl) (Tryd.isAgg33 W) (Tryd.sizeOf33 W) ?_
  have hf := strs_foot [kab, kc] (H.blk 1 rfl) (by decide)
  exact ⟨some ⟨g2, 0, none⟩, rfl, Foot.mono (fk_tx (payT n) (Nat.le_refl _) (Foot.mono (Kd.F_nil _ _ (fun _ => False)) (fun k h => h.elim)) (Nat.le_refl _) hf) (fun k (hk : k = g2) => hk ▸ hg2), H.ends⟩
end Go.Proofs.YtndicjikjcifaaaDoor

/- Numbers, texts and lists as bytes: what is written is read; what is read was written so. -/
namespace Go.Proofs.YtndicjikjcifaaaDoor
open Go.RowKit Go.Shelf Go.Lib Go.Proofs.YtndicjikjcifaaaDoorW.PrintWords Go.Proofs.YtndicjikjcifaaaDoorW.PrintLast
set_option linter.unusedVariables false
set_option linter.unusedSimpArgs false
theorem bn_app (n : Nat) (r : ByteArray) (i : Nat) (v : Int) (h : (vints n)[i]? = some v) : bn (strOfNums (vints n) ++ r) i = v.toNat % 256 := by
  have hi : i < (vints n).length := (List.getElem?_eq_some_iff.1 h).1
  have hs : (strOfNums (vints n)).size = (vints n).length := strOfNums_size _
  have hlt : i < (strOfNums (vints n) ++ r).size := by rw [ByteArray.size_append]; omega
  rw [bn, dif_pos hlt, ByteArray.getElem_append_left (by omega)]
  have e : (strOfNums (vints n))[i]'(by omega) = UInt8.ofNat v.toNat := by
    have h2 := (List.getElem?_eq_some_iff.1 h).2
    rw [← h2]
    simp [strOfNums, ByteArray.getElem_eq_getElem_data]
  rw [e]
  simp
theorem vints_bytes : ∀ n, ∀ v ∈ vints n, 0 ≤ v ∧ v < 256 := by
  intro n
  induction n using Nat.strongRecOn with
  | ind n ih =>
    rw [vints]
    split
    · intro v hv
      simp at hv
      omega
    · intro v hv
      rcases List.mem_cons.1 hv with rfl | hv
      · omega
      · exact ih (n / 128) (by omega) v hv
theorem vints_pos (n : Nat) : 0 < (vints n).length := by
  rw [vints]
  split <;> simp
theorem vints_val (s : ByteArray) : ∀ n j, (∀ i v, (vints n)[i]? = some v → bn s (j + i) = v.toNat) →
    (∀ i, j ≤ i → i < j + (vints n).length - 1 → 128 ≤ bn s i) ∧ bn s (j + (vints n).length - 1) < 128 ∧ bval s (j + (vints n).length - 1) (vints n).length j = n ∧ (bn s (j + (vints n).length - 1) = 0 → n = 0) := by
  intro n
  induction n using Nat.strongRecOn with
  | ind n ih =>
    intro j h
    rw [vints] at h ⊢
    by_cases h1 : n < 128
    · rw [dif_pos h1] at h ⊢
      have h2 := h 0 _ rfl
      simp only [Nat.add_zero, Int.toNat_natCast] at h2
      simp only [List.length_singleton, Nat.add_sub_cancel]
      refine ⟨fun i h3 h4 => by omega, by omega, ?_, by omega⟩
      simp only [bval]
      omega
    · rw [dif_neg h1] at h ⊢
      have hp := vints_pos (n / 128)
      have h2 := h 0 _ rfl
      obtain ⟨g1, g2, g3, g4⟩ := ih (n / 128) (by omega) (j + 1) (fun i v hv => by
        have := h (i + 1) v (by simpa using hv)
        rw [show j + 1 + i = j + (i + 1) by omega]
        exact this)
      simp only [Nat.add_zero, Int.toNat_natCast] at h2
      simp only [List.length_cons]
      rw [show j + ((vints (n / 128)).length + 1) - 1 = j + 1 + (vints (n / 128)).length - 1 by omega]
      refine ⟨fun i h3 h4 => ?_, g2, ?_, fun h5 => by have := g4 h5; omega⟩
      · rcases Nat.eq_or_lt_of_le h3 with rfl | h3
        · omega
        · exact g1 i (by omega) (by omega)
      · rw [bval, g3, h2]
        omega
theorem ib_eq {n : Int} (h0 : 0 ≤ n) (h1 : n ≤ 4611686018427387903) : ib n = strOfNums (vints n.toNat) := by
  rw [ib, if_neg (by omega)]
theorem gi_app (n : Int) (r : ByteArray) (h0 : 0 ≤ n) (h1 : n ≤ 4611686018427387903) : gi (ib n ++ r) 9 0 0 = (n, ((ib n).size : Int), 0) := by
  rw [ib_eq h0 h1]
  obtain ⟨m, rfl⟩ : ∃ m : Nat, n = m := ⟨n.toNat, by omega⟩
  rw [Int.toNat_natCast]
  have hl := vints_len 8 m (by omega)
  have hp := vints_pos m
  have hs : (strOfNums (vints m)).size = (vints m).length := strOfNums_size _
  obtain ⟨g1, g2, g3, g4⟩ := vints_val (strOfNums (vints m) ++ r) m 0 (fun i v hv => by
    rw [Nat.zero_add, bn_app m r i v hv]
    have := vints_bytes m v (List.mem_of_getElem? hv)
    omega)
  simp only [Nat.zero_add] at g1 g2 g3 g4
  have := gi_val (strOfNums (vints m) ++ r) ((vints m).length - 1) (by rw [ByteArray.size_append]; omega) g2 ((vints m).length - 1) 0 0 (by omega) (by omega) (fun j h2 h3 => g1 j h2 h3)
  rw [show 9 - 0 = 9 from rfl] at this
  rw [this, show (vints m).length - 1 + 1 = (vints m).length by omega, g3, fin, Nat.mul_zero, Nat.pow_zero, Nat.one_mul, Nat.zero_add, if_neg (by omega), if_neg (by rintro ⟨h2, h3⟩; have := g4 h2; subst this; rw [vints, dif_pos (by omega)] at h3; simp at h3), hs, show (vints m).length - 1 + 1 = (vints m).length by omega]
theorem gi_first (s : ByteArray) : ∀ f i n, (gi s f i n).2.2 = 0 → i ≤ s.size → ∃ k, i ≤ k ∧ k < i + f ∧ k < s.size ∧ bn s k < 128 ∧ ∀ j, i ≤ j → j < k → 128 ≤ bn s j
  | 0, i, n, h, hs => by simp [gi] at h
  | f + 1, i, n, h, hs => by
    rw [gi] at h
    by_cases h1 : i = s.size
    · rw [if_pos h1] at h; simp at h
    rw [if_neg h1] at h
    by_cases h2 : bn s i < 128
    · exact ⟨i, Nat.le_refl _, by omega, by omega, h2, fun j h3 h4 => by omega⟩
    · rw [if_neg h2] at h
      obtain ⟨k, g1, g2, g3, g4, g5⟩ := gi_first s f (i + 1) _ h (by omega)
      refine ⟨k, by omega, by omega, g3, g4, fun j h3 h4 => ?_⟩
      rcases Nat.eq_or_lt_of_le h3 with rfl | h3
      · omega
      · exact g5 j (by omega) h4
theorem bval_pos (s : ByteArray) (k : Nat) (h0 : bn s k ≠ 0) (hl : bn s k < 128) : ∀ d j, j + d = k → 0 < bval s k (d + 1) j
  | 0, j, h => by
    obtain rfl : j = k := by omega
    simp only [bval]
    omega
  | d + 1, j, h => by
    have := bval_pos s k h0 hl d (j + 1) (by omega)
    rw [bval]
    omega
theorem vints_of (s : ByteArray) (k : Nat) (hl : bn s k < 128) (h0 : 0 < k → bn s k ≠ 0) : ∀ d j, j + d = k → (∀ i, j ≤ i → i < k → 128 ≤ bn s i) →
    vints (bval s k (d + 1) j) = (List.range (d + 1)).map (fun i => (bn s (j + i) : Int))
  | 0, j, h, hb => by
    obtain rfl : j = k := by omega
    rw [vints, dif_pos (by simp only [bval]; omega)]
    have e : bval s j (0 + 1) j = bn s j := by simp only [bval]; omega
    rw [e]
    rfl
  | d + 1, j, h, hb => by
    have hp := bval_pos s k (h0 (by omega)) hl d (j + 1) (by omega)
    have hj := hb j (Nat.le_refl _) (by omega)
    have h256 := bn_lt s j
    have ih := vints_of s k hl h0 d (j + 1) (by omega) (fun i h1 h2 => hb i (by omega) h2)
    rw [bval]
    generalize bval s k (d + 1) (j + 1) = V at hp ih ⊢
    rw [vints, dif_neg (by omega), show (bn s j % 128 + 128 * V) / 128 = V by omega, show (bn s j % 128 + 128 * V) % 128 + 128 = bn s j by omega, ih, List.range_succ_eq_map (n := d + 1), List.map_cons, List.map_map]
    congr 1
    refine List.map_congr_left fun i _ => ?_
    show ((bn s (j + 1 + i) : Nat) : Int) = ((bn s (j + (i + 1)) : Nat) : Int)
    rw [show j + 1 + i = j + (i + 1) by omega]
theorem bytes_split (s : ByteArray) (m : Nat) (hm : m ≤ s.size) : s = strOfNums ((List.range m).map (fun i => (bn s (0 + i) : Int))) ++ rest s (m : Int) := by
  apply ByteArray.ext
  apply Array.toList_inj.1
  have e1 : (strOfNums ((List.range m).map (fun i => (bn s (0 + i) : Int))) ++ rest s (m : Int)).data.toList = (strOfNums ((List.range m).map (fun i => (bn s (0 + i) : Int)))).data.toList ++ (rest s (m : Int)).data.toList := by simp
  have e2 : (rest s (m : Int)).data.toList = s.data.toList.drop m := by
    show (s.extract (m : Int).toNat s.size).data.toList = _
    rw [Int.toNat_natCast, ByteArray.data_extract, Array.toList_extract, List.extract_eq_drop_take', List.take_of_length_le (by rw [Array.length_toList]; exact Nat.le_refl _)]
  rw [e1, e2, strOfNums_data, List.map_map]
  conv => lhs; rw [← List.take_append_drop m s.data.toList]
  congr 1
  have hsz : s.data.toList.length = s.size := by rw [Array.length_toList]; rfl
  apply List.ext_getElem
  · rw [List.length_take, List.length_map, List.length_range]; omega
  · intro i h1 h2
    rw [List.length_map, List.length_range] at h2
    simp only [List.getElem_take, List.getElem_map, List.getElem_range, Function.comp, Int.toNat_natCast, Nat.zero_add]
    rw [bn, dif_pos (by omega)]
    simp [ByteArray.getElem_eq_getElem_data]
theorem gi_inv (s : ByteArray) (h : (gi s 9 0 0).2.2 = 0) : s = ib (gi s 9 0 0).1 ++ rest s (gi s 9 0 0).2.1 ∧ (gi s 9 0 0).2.1 = ((ib (gi s 9 0 0).1).size : Int) := by
  obtain ⟨k, g1, g2, g3, g4, g5⟩ := gi_first s 9 0 0 h (Nat.zero_le _)
  have hv := gi_val s k g3 g4 k 0 0 (by omega) (by omega) g5
  rw [show 9 - 0 = 9 from rfl, Nat.mul_zero, Nat.pow_zero, Nat.one_mul, Nat.zero_add] at hv
  rw [hv] at h ⊢
  unfold fin at h ⊢
  by_cases c1 : bval s k (k + 1) 0 > 4611686018427387903
  · rw [if_pos c1] at h; simp at h
  rw [if_neg c1] at h ⊢
  by_cases c2 : bn s k = 0 ∧ 0 < k
  · rw [if_pos c2] at h; simp at h
  rw [if_neg c2]
  have e := vints_of s k g4 (fun hk h0 => c2 ⟨h0, hk⟩) k 0 (by omega) g5
  dsimp only
  rw [ib_eq (by omega) (by omega), Int.toNat_natCast, e]
  refine ⟨bytes_split s (k + 1) (by omega), ?_⟩
  rw [strOfNums_size, List.length_map, List.length_range]
theorem ba_eq {a b : ByteArray} (h : a.data.toList = b.data.toList) : a = b := ByteArray.ext (Array.toList_inj.1 h)
theorem ba_app (a b : ByteArray) : (a ++ b).data.toList = a.data.toList ++ b.data.toList := by simp
theorem ba_len (a : ByteArray) : a.data.toList.length = a.size := by rw [Array.length_toList]; rfl
theorem ba_ext (a : ByteArray) (i j : Nat) : (a.extract i j).data.toList = (a.data.toList.take j).drop i := by
  rw [ByteArray.data_extract, Array.toList_extract, List.extract_eq_drop_take']
theorem ba_assoc (a b c : ByteArray) : a ++ b ++ c = a ++ (b ++ c) := ByteArray.append_assoc
theorem ba_rest (a : ByteArray) (n : Nat) : (rest a (n : Int)).data.toList = a.data.toList.drop n := by
  show (a.extract (n : Int).toNat a.size).data.toList = _
  rw [Int.toNat_natCast, ba_ext, List.take_of_length_le (by rw [ba_len]; exact Nat.le_refl _)]
theorem rest_app (a r : ByteArray) : rest (a ++ r) ((a.size : Nat) : Int) = r := by
  apply ba_eq
  rw [ba_rest, ba_app, List.drop_left' (ba_len a)]
theorem mid_app (a x r : ByteArray) : (a ++ (x ++ r)).extract a.size (a.size + x.size) = x := by
  apply ba_eq
  rw [ba_ext, ba_app, ba_app, List.take_append, List.take_append, ba_len, ba_len, List.take_of_length_le (by rw [ba_len]; omega), List.take_of_length_le (by rw [ba_len]; omega), show a.size + x.size - a.size - x.size = 0 by omega, List.take_zero, List.append_nil, List.drop_left' (ba_len a)]
theorem rest_split (s : ByteArray) (p n : Nat) (h : p + n ≤ s.size) : rest s (p : Int) = s.extract p (p + n) ++ rest s ((p + n : Nat) : Int) := by
  apply ba_eq
  rw [ba_app, ba_rest, ba_rest, ba_ext, List.drop_take, show p + n - p = n by omega, ← List.drop_drop, List.take_append_drop]
theorem gt_app (x r : ByteArray) (hx : x.size ≤ 65536) : gt (tb x ++ r) = (x, ((tb x).size : Int), 0) := by
  have e : tb x ++ r = ib x.size ++ (x ++ r) := ba_assoc _ _ _
  have es : (tb x).size = (ib x.size).size + x.size := ByteArray.size_append
  have hs : (ib x.size ++ (x ++ r)).size = (ib x.size).size + (x.size + r.size) := by rw [ByteArray.size_append, ByteArray.size_append]
  rw [gt, e, gi_app _ _ (by omega) (by omega)]
  dsimp only
  rw [if_pos rfl, if_neg (by omega), if_neg (by omega)]
  rw [show ((((ib x.size).size : Nat) : Int) + ((x.size : Nat) : Int)).toNat = (ib x.size).size + x.size by omega, Int.toNat_natCast, mid_app]
  rw [es]
  push_cast
  rfl
theorem gt_inv (s : ByteArray) (h : (gt s).2.2 = 0) : s = tb (gt s).1 ++ rest s (gt s).2.1 ∧ (gt s).2.1 = ((tb (gt s).1).size : Int) ∧ (gt s).1.size ≤ 65536 := by
  unfold gt at h ⊢
  by_cases h1 : (gi s 9 0 0).2.2 = 0
  · have g := gi_inv s h1
    have k := gi_ok s 9 0 0 (by omega) h1
    rw [if_pos h1] at h ⊢
    generalize hG : gi s 9 0 0 = G at h g k ⊢
    obtain ⟨n, p, x⟩ := G
    dsimp only at h g k ⊢
    by_cases h2 : n > 65536
    · rw [if_pos h2] at h; simp at h
    rw [if_neg h2] at h ⊢
    by_cases h3 : n > (s.size : Int) - p
    · rw [if_pos h3] at h; simp at h
    rw [if_neg h3]
    dsimp only
    obtain ⟨m, rfl⟩ : ∃ m : Nat, n = m := ⟨n.toNat, by omega⟩
    obtain ⟨g1, g2⟩ := g
    subst g2
    rw [show ((((ib (m : Int)).size : Nat) : Int) + (m : Int)).toNat = (ib (m : Int)).size + m by omega, Int.toNat_natCast]
    have hsz : (s.extract (ib (m : Int)).size ((ib (m : Int)).size + m)).size = m := by rw [ByteArray.size_extract]; omega
    have et : tb (s.extract (ib (m : Int)).size ((ib (m : Int)).size + m)) = ib (m : Int) ++ s.extract (ib (m : Int)).size ((ib (m : Int)).size + m) := by rw [tb, hsz]
    refine ⟨?_, ?_, by omega⟩
    · conv => lhs; rw [g1]
      rw [et, ba_assoc, rest_split s (ib (m : Int)).size m (by omega)]
      push_cast
      rfl
    · rw [et, ByteArray.size_append, hsz]
      push_cast
      rfl
  · rw [if_neg h1] at h; exact absurd h h1
def tbsB (xs : List ByteArray) : ByteArray := ⟨(tbs xs).toArray⟩
theorem tbsB_cons (x : ByteArray) (xs : List ByteArray) : tbsB (x :: xs) = tb x ++ tbsB xs := by
  apply ba_eq
  rw [ba_app]
  rfl
theorem lb_eq (xs : List ByteArray) : lb xs = ib xs.length ++ tbsB xs := by
  apply ba_eq
  rw [ba_app]
  rfl
theorem ba_nil (a : ByteArray) : (⟨#[]⟩ : ByteArray) ++ a = a := by
  apply ba_eq
  rw [ba_app]
  rfl
theorem ba_nil' (a : ByteArray) : a ++ (⟨#[]⟩ : ByteArray) = a := by
  apply ba_eq
  rw [ba_app]
  exact List.append_nil _
theorem glL_app : ∀ (xs : List ByteArray) (pre r : ByteArray) (acc : List ByteArray), (∀ x ∈ xs, x.size ≤ 65536) →
    glL (pre ++ (tbsB xs ++ r)) xs.length pre.size acc = (acc ++ xs, ((pre.size + (tbsB xs).size : Nat) : Int), 0)
  | [], pre, r, acc, h => by
    rw [List.length_nil, glL, List.append_nil]
    rfl
  | x :: xs, pre, r, acc, h => by
    have e : pre ++ (tbsB (x :: xs) ++ r) = (pre ++ tb x) ++ (tbsB xs ++ r) := by rw [tbsB_cons, ba_assoc, ba_assoc]
    have hx : (pre ++ (tbsB (x :: xs) ++ r)).extract pre.size (pre ++ (tbsB (x :: xs) ++ r)).size = tb x ++ (tbsB xs ++ r) := by
      have := rest_app pre (tbsB (x :: xs) ++ r)
      rw [rest, Int.toNat_natCast] at this
      rw [this, tbsB_cons, ba_assoc]
    have ih := glL_app xs (pre ++ tb x) r (acc ++ [x]) (fun y hy => h y (by simp [hy]))
    rw [List.length_cons, glL, hx, gt_app x _ (h x (by simp))]
    dsimp only
    rw [if_pos rfl, Int.toNat_natCast]
    have es : pre.size + (tb x).size = (pre ++ tb x).size := ByteArray.size_append.symm
    rw [e, es, ih, List.append_assoc, List.singleton_append, tbsB_cons, ByteArray.size_append, ByteArray.size_append, Nat.add_assoc]
theorem gl_app (xs : List ByteArray) (r : ByteArray) (m : Int) (hm : (xs.length : Int) ≤ m) (hl : xs.length ≤ 65536) (h : ∀ x ∈ xs, x.size ≤ 65536) : gl (lb xs ++ r) m = (xs, ((lb xs).size : Int), 0) := by
  rw [lb_eq, ba_assoc, gl, gi_app _ _ (by omega) (by omega)]
  dsimp only
  rw [if_pos rfl, if_neg (by omega), Int.toNat_natCast, Int.toNat_natCast, glL_app xs _ r [] h, ByteArray.size_append]
  rfl
theorem glL_inv (a : ByteArray) : ∀ c p acc, p ≤ a.size → (glL a c p acc).2.2 = 0 → ∃ xs q, glL a c p acc = (acc ++ xs, ((q : Nat) : Int), 0) ∧ xs.length = c ∧ rest a (p : Int) = tbsB xs ++ rest a (q : Int) ∧ q = p + (tbsB xs).size ∧ q ≤ a.size ∧ ∀ x ∈ xs, x.size ≤ 65536
  | 0, p, acc, hp, h => ⟨[], p, by rw [List.append_nil]; rfl, rfl, (ba_nil _).symm, rfl, hp, by simp⟩
  | c + 1, p, acc, hp, h => by
    rw [glL] at h ⊢
    by_cases h0 : (gt (a.extract p a.size)).2.2 = 0
    · rw [if_pos h0] at h ⊢
      have e : a.extract p a.size = rest a (p : Int) := by rw [rest, Int.toNat_natCast]
      have g := gt_inv _ h0
      rw [e] at h g ⊢
      generalize hG : gt (rest a (p : Int)) = G at h g ⊢
      obtain ⟨x, k, y⟩ := G
      dsimp only at h g ⊢
      obtain ⟨g1, rfl, g3⟩ := g
      rw [Int.toNat_natCast] at h ⊢
      have hz : (rest a (p : Int)).size = a.size - p := by rw [← ba_len, ba_rest, List.length_drop, ba_len]
      have hz2 : (tb x).size ≤ a.size - p := by rw [← hz]; conv => rhs; rw [g1]
                                                rw [ByteArray.size_append]; omega
      have er : rest (rest a (p : Int)) ((tb x).size : Int) = rest a ((p + (tb x).size : Nat) : Int) := by
        apply ba_eq
        rw [ba_rest, ba_rest, ba_rest, List.drop_drop]
      obtain ⟨xs, q, i1, i2, i3, i4, i5, i6⟩ := glL_inv a c (p + (tb x).size) (acc ++ [x]) (by omega) h
      refine ⟨x :: xs, q, ?_, by rw [List.length_cons, i2], ?_, ?_, i5, ?_⟩
      · rw [i1, List.append_assoc, List.singleton_append]
      · rw [g1, er, i3, tbsB_cons, ba_assoc]
      · rw [tbsB_cons, ByteArray.size_append]; omega
      · intro y hy
        rcases List.mem_cons.1 hy with rfl | hy
        · exact g3
        · exact i6 y hy
    · rw [if_neg h0] at h; exact absurd h h0
theorem gl_inv (s : ByteArray) (m : Int) (h : (gl s m).2.2 = 0) : s = lb (gl s m).1 ++ rest s (gl s m).2.1 ∧ (gl s m).2.1 = ((lb (gl s m).1).size : Int) ∧ ∀ x ∈ (gl s m).1, x.size ≤ 65536 := by
  unfold gl at h ⊢
  by_cases h1 : (gi s 9 0 0).2.2 = 0
  · have g := gi_inv s h1
    have k := gi_ok s 9 0 0 (by omega) h1
    rw [if_pos h1] at h ⊢
    generalize hG : gi s 9 0 0 = G at h g k ⊢
    obtain ⟨n, p, x⟩ := G
    dsimp only at h g k ⊢
    by_cases h2 : n > m
    · rw [if_pos h2] at h; simp at h
    rw [if_neg h2] at h ⊢
    obtain ⟨c, rfl⟩ : ∃ c : Nat, n = c := ⟨n.toNat, by omega⟩
    obtain ⟨g1, rfl⟩ := g
    rw [Int.toNat_natCast, Int.toNat_natCast] at h ⊢
    obtain ⟨xs, q, i1, i2, i3, i4, i5, i6⟩ := glL_inv s c _ [] (by omega) h
    rw [i1]
    dsimp only
    rw [List.nil_append, lb_eq, i2]
    refine ⟨?_, ?_, i6⟩
    · conv => lhs; rw [g1]
      rw [i3, ba_assoc]
    · rw [ByteArray.size_append, i4]
  · rw [if_neg h1] at h; exact absurd h h1
theorem encB_eq (k : Int) (f t : ByteArray) (am nc : Int) (ky' vl : ByteArray) (rs ws : List ByteArray) :
    encB k f t am nc ky' vl rs ws = ib k ++ (tb f ++ (tb t ++ (ib am ++ (ib nc ++ (tb ky' ++ (tb vl ++ (lb rs ++ lb ws))))))) := by
  apply ba_eq
  simp only [ba_app]
  unfold encB
  rw [join_nil]
  simp [encL]
end Go.Proofs.YtndicjikjcifaaaDoor

/- tx.Decode and tx.Encode turn each other round. -/
namespace Go.Proofs.YtndicjikjcifaaaDoor
open Go.RowKit Go.Shelf Go.Lib Go.Proofs.YtndicjikjcifaaaDoorW.PrintWords Go.Proofs.YtndicjikjcifaaaDoorW.PrintLast
set_option linter.unusedVariables false
set_option linter.unusedSimpArgs false
theorem bI (n : Int) (r : ByteArray) (k : Int → ByteArray → Dec) (h0 : 0 ≤ n) (h1 : n ≤ 4611686018427387903) : bindE (gi (ib n ++ r) 9 0 0) (ib n ++ r) k = k n r :=
  bindE_ok (gi_app n r h0 h1) (rest_app _ _)
theorem bT (x r : ByteArray) (k : ByteArray → ByteArray → Dec) (hx : x.size ≤ 65536) : bindE (gt (tb x ++ r)) (tb x ++ r) k = k x r :=
  bindE_ok (gt_app x r hx) (rest_app _ _)
theorem bL (xs : List ByteArray) (r : ByteArray) (k : List ByteArray → ByteArray → Dec) (hl : xs.length ≤ 8) (hx : ∀ x ∈ xs, x.size ≤ 65536) : bindE (gl (lb xs ++ r) 8) (lb xs ++ r) k = k xs r :=
  bindE_ok (gl_app xs r 8 (by omega) (by omega) hx) (rest_app _ _)
theorem dec_enc {k : Int} {f t : ByteArray} {am nc : Int} {ky' vl : ByteArray} {rs ws : List ByteArray} (hc : ch k f t am nc ky' vl rs ws = 0) (ha : 0 ≤ am) (hn : 0 ≤ nc) (r : ByteArray) :
    dec (encB k f t am nc ky' vl rs ws ++ r) = if r.toList.isEmpty = true then (k, f, t, am, nc, ky', vl, rs, ws, 0) else derr 6 := by
  have hf := ch_fine hc
  have h1 := ke_zero hf.rs
  have h2 := ke_zero hf.ws
  have hk := hf.k
  have f1 := hf.f
  have f2 := hf.t
  have f3 := hf.ky
  have f4 := hf.vl
  rw [encB_eq]
  simp only [ba_assoc]
  unfold dec
  refine (bI k _ _ (by omega) (by omega)).trans ?_
  refine (bT f _ _ (by omega)).trans ?_
  refine (bT t _ _ (by omega)).trans ?_
  refine (bI am _ _ ha hf.am).trans ?_
  refine (bI nc _ _ hn hf.nc).trans ?_
  refine (bT ky' _ _ (by omega)).trans ?_
  refine (bT vl _ _ (by omega)).trans ?_
  refine (bL rs _ _ h1.1 (fun x hx => by have := h1.2 x hx; omega)).trans ?_
  refine (bL ws _ _ h2.1 (fun x hx => by have := h2.2 x hx; omega)).trans ?_
  rw [if_pos (by omega), fin9, if_pos hc]
def err (r : Dec) : Int := r.2.2.2.2.2.2.2.2.2
theorem bindE_inv {α : Type} {x : α × Int × Int} {s : ByteArray} {k : α → ByteArray → Dec} (h : err (bindE x s k) = 0) : x.2.2 = 0 ∧ bindE x s k = k x.1 (rest s x.2.1) := by
  unfold bindE at h ⊢
  by_cases hx : x.2.2 = 0
  · rw [if_pos hx]
    exact ⟨hx, rfl⟩
  · rw [if_neg hx] at h
    exact absurd h hx
theorem dec_inv (s : ByteArray) (h : err (dec s) = 0) : ∃ k f t am nc ky' vl rs ws, dec s = (k, f, t, am, nc, ky', vl, rs, ws, 0) ∧ ch k f t am nc ky' vl rs ws = 0 ∧ s = encB k f t am nc ky' vl rs ws ∧ 0 ≤ am ∧ 0 ≤ nc := by
  have D : dec s = dec s := rfl
  conv at D => rhs; unfold dec
  rw [D] at h
  have st := bindE_inv h
  obtain ⟨q1, e1⟩ := bindE_inv h
  rw [e1] at h D
  obtain ⟨q2, e2⟩ := bindE_inv h
  rw [e2] at h D
  obtain ⟨q3, e3⟩ := bindE_inv h
  rw [e3] at h D
  obtain ⟨q4, e4⟩ := bindE_inv h
  rw [e4] at h D
  obtain ⟨q5, e5⟩ := bindE_inv h
  rw [e5] at h D
  obtain ⟨q6, e6⟩ := bindE_inv h
  rw [e6] at h D
  obtain ⟨q7, e7⟩ := bindE_inv h
  rw [e7] at h D
  obtain ⟨q8, e8⟩ := bindE_inv h
  rw [e8] at h D
  obtain ⟨q9, e9⟩ := bindE_inv h
  rw [e9] at h D
  clear e1 e2 e3 e4 e5 e6 e7 e8 e9 st
  have g1 := (gi_inv s q1).1
  generalize rest s (gi s 9 0 0).2.1 = s1 at *
  have g2 := (gt_inv s1 q2).1
  generalize rest s1 (gt s1).2.1 = s2 at *
  have g3 := (gt_inv s2 q3).1
  generalize rest s2 (gt s2).2.1 = s3 at *
  have g4 := (gi_inv s3 q4).1
  have r4 := (gi_ok s3 9 0 0 (by omega) q4).1
  generalize rest s3 (gi s3 9 0 0).2.1 = s4 at *
  have g5 := (gi_inv s4 q5).1
  have r5 := (gi_ok s4 9 0 0 (by omega) q5).1
  generalize rest s4 (gi s4 9 0 0).2.1 = s5 at *
  have g6 := (gt_inv s5 q6).1
  generalize rest s5 (gt s5).2.1 = s6 at *
  have g7 := (gt_inv s6 q7).1
  generalize rest s6 (gt s6).2.1 = s7 at *
  have g8 := (gl_inv s7 8 q8).1
  generalize rest s7 (gl s7 8).2.1 = s8 at *
  have g9 := (gl_inv s8 8 q9).1
  generalize rest s8 (gl s8 8).2.1 = s9 at *
  generalize (gi s 9 0 0).1 = kd at *
  generalize (gt s1).1 = f at *
  generalize (gt s2).1 = t at *
  generalize (gi s3 9 0 0).1 = am at *
  generalize (gi s4 9 0 0).1 = nc at *
  generalize (gt s5).1 = ky' at *
  generalize (gt s6).1 = vl at *
  generalize (gl s7 8).1 = rs at *
  generalize (gl s8 8).1 = ws at *
  by_cases hk : kd ≤ 2
  case neg => rw [if_neg hk] at h; exact absurd h (by decide)
  rw [if_pos hk] at h D
  by_cases hm : s9.toList.isEmpty = true
  case neg => rw [if_neg hm] at h; exact absurd h (by decide)
  rw [if_pos hm] at h D
  unfold fin9 at h D
  by_cases hc : ch kd f t am nc ky' vl rs ws = 0
  case neg => rw [if_neg hc] at h; exact absurd h hc
  rw [if_pos hc] at D
  refine ⟨kd, f, t, am, nc, ky', vl, rs, ws, D, hc, ?_, r4, r5⟩
  have h9 : s9 = ⟨#[]⟩ := by
    apply ba_eq
    rw [Lib.toList_data, List.isEmpty_iff] at hm
    rw [hm]
  subst h9
  rw [encB_eq, g1]
  congr 1
  rw [g2]
  congr 1
  rw [g3]
  congr 1
  rw [g4]
  congr 1
  rw [g5]
  congr 1
  rw [g6]
  congr 1
  rw [g7]
  congr 1
  rw [g8]
  congr 1
  rw [g9]
  exact ba_nil' _
end Go.Proofs.YtndicjikjcifaaaDoor

/- batch.Decode and batch.Encode turn each other round: the plain law. -/
namespace Go.Proofs.YtndicjikjcifaaaDoor
open Go.RowKit Go.Shelf Go.Lib Go.Proofs.YtndicjikjcifaaaDoorW.PrintWords Go.Proofs.YtndicjikjcifaaaDoorW.PrintLast
open PB (S33 k33)
set_option linter.unusedVariables false
set_option linter.unusedSimpArgs false
theorem wI_eq {n : Int} (h0 : 0 ≤ n) (h1 : n ≤ 4611686018427387903) : wI n = ib n := by
  unfold wI wire_Int.f
  rw [Option.getD_some, if_neg (by omega), ib_eq h0 h1]
theorem encT_dec {t : S33} (h : chT t = 0) (ha : 0 ≤ t.f3) (hn : 0 ≤ t.f4) : dec (encT t) = (t.f0, t.f1, t.f2, t.f3, t.f4, t.f5, t.f6, t.f7, t.f8, 0) := by
  have h0 : ch t.f0 t.f1 t.f2 t.f3 t.f4 t.f5 t.f6 t.f7 t.f8 = 0 := h
  have e : encT t = encB t.f0 t.f1 t.f2 t.f3 t.f4 t.f5 t.f6 t.f7 t.f8 := by unfold encT enc; rw [if_pos h0]
  have := dec_enc h0 ha hn ⟨#[]⟩
  rw [ba_nil', if_pos (by rw [Lib.toList_data]; rfl)] at this
  rw [e]; exact this
theorem dall_enc : ∀ l : List S33, (∀ t ∈ l, chT t = 0 ∧ 0 ≤ t.f3 ∧ 0 ≤ t.f4) → dall (l.map encT) = (l, 0)
  | [], _ => rfl
  | t :: r, h => by
    obtain ⟨h1, h2, h3⟩ := h t List.mem_cons_self
    have e := encT_dec h1 h2 h3
    have ih := dall_enc r (fun x hx => h x (List.mem_cons_of_mem _ hx))
    rw [List.map_cons, dall, if_pos (by rw [e]; rfl), ih, e]
    rfl
theorem bdec_enc {a n : Int} {l : List S33} (h : bchk a n l = 0) (hp : ∀ t ∈ l, 0 ≤ t.f3 ∧ 0 ≤ t.f4) : bdec (bencB a n l) = (a, n, l, 0) := by
  obtain ⟨a0, a6, n1, n2, l0, l16, hc⟩ := bchk_ok h
  have hx : ∀ x ∈ l.map encT, x.size ≤ 65536 := by
    intro x hx
    obtain ⟨t, ht, rfl⟩ := List.mem_map.1 hx
    have h0 : ch t.f0 t.f1 t.f2 t.f3 t.f4 t.f5 t.f6 t.f7 t.f8 = 0 := hc t ht
    have e : encT t = encB t.f0 t.f1 t.f2 t.f3 t.f4 t.f5 t.f6 t.f7 t.f8 := by unfold encT enc; rw [if_pos h0]
    rw [e]
    exact Nat.le_trans (encB_size (ch_fine h0)) (by decide)
  have e : bencB a n l = ib a ++ (ib n ++ (lb (l.map encT) ++ ⟨#[]⟩)) := by
    unfold bencB
    rw [wI_eq a0 (by omega), wI_eq (by omega) n2, ba_nil', ba_assoc]
  have g1 := gi_app a (ib n ++ (lb (l.map encT) ++ ⟨#[]⟩)) a0 (by omega)
  have g2 := gi_app n (lb (l.map encT) ++ ⟨#[]⟩) (by omega) n2
  have g3 := gl_app (l.map encT) ⟨#[]⟩ 16 (by rw [List.length_map]; omega) (by rw [List.length_map]; omega) hx
  have hd := dall_enc l (fun t ht => ⟨hc t ht, hp t ht⟩)
  rw [e]
  unfold bdec
  rw [g1, if_pos rfl]
  dsimp only
  rw [rest_app]
  unfold bdec1
  rw [g2, if_pos rfl]
  dsimp only
  rw [rest_app]
  unfold bdec2
  rw [g3, if_pos rfl]
  dsimp only
  rw [hd]
  unfold bfin
  rw [if_pos rfl, if_neg (by rw [ba_nil']; omega), if_neg (by omega), if_pos h]
theorem dall_inv : ∀ (xs : List ByteArray), (dall xs).2 = 0 → (dall xs).1.map encT = xs ∧ ∀ t ∈ (dall xs).1, 0 ≤ t.f3 ∧ 0 ≤ t.f4
  | [], _ => ⟨rfl, by simp [dall]⟩
  | x :: r, h => by
    rw [dall] at h ⊢
    by_cases hx : errD (dec x) = 0
    · rw [if_pos hx] at h ⊢
      obtain ⟨ih1, ih2⟩ := dall_inv r h
      obtain ⟨k, f, t, am, nc, ky', vl, rs, ws, hd, hc, hs, ha, hn⟩ := dec_inv x hx
      have e : encT (toS (dec x)) = x := by
        rw [hd]
        unfold encT toS
        dsimp only
        unfold enc
        rw [if_pos hc]
        exact hs.symm
      refine ⟨by rw [List.map_cons, e, ih1], fun u hu => ?_⟩
      rcases List.mem_cons.1 hu with rfl | hu
      · rw [hd]; exact ⟨ha, hn⟩
      · exact ih2 u hu
    · rw [if_neg hx] at h
      exact absurd h hx
theorem bnil_err {e : Int} (h : (bnil e).2.2.2 = 0) : e = 0 := h
theorem bdec_inv (s : ByteArray) (h : (bdec s).2.2.2 = 0) : ∃ a n l, bdec s = (a, n, l, 0) ∧ bchk a n l = 0 ∧ s = bencB a n l ∧ ∀ t ∈ l, 0 ≤ t.f3 ∧ 0 ≤ t.f4 := by
  unfold bdec at h ⊢
  by_cases z1 : (gi s 9 0 0).2.2 = 0
  case neg => rw [if_neg z1] at h; exact absurd (bnil_err h) z1
  rw [if_pos z1] at h ⊢
  obtain ⟨i1, _⟩ := gi_inv s z1
  have o1 := gi_ok s 9 0 0 (by omega) z1
  generalize (gi s 9 0 0).1 = a at *
  generalize rest s (gi s 9 0 0).2.1 = s1 at *
  unfold bdec1 at h ⊢
  by_cases z2 : (gi s1 9 0 0).2.2 = 0
  case neg => rw [if_neg z2] at h; exact absurd (bnil_err h) z2
  rw [if_pos z2] at h ⊢
  obtain ⟨i2, _⟩ := gi_inv s1 z2
  generalize (gi s1 9 0 0).1 = n at *
  generalize rest s1 (gi s1 9 0 0).2.1 = s2 at *
  unfold bdec2 at h ⊢
  by_cases z3 : (gl s2 16).2.2 = 0
  case neg => rw [if_neg z3] at h; exact absurd (bnil_err h) z3
  rw [if_pos z3] at h ⊢
  obtain ⟨i3, i4, _⟩ := gl_inv s2 16 z3
  have o3 := gl_ok s2 16 z3
  generalize (gl s2 16).1 = xs at *
  generalize (gl s2 16).2.1 = k at *
  unfold bfin at h ⊢
  by_cases z4 : (dall xs).2 = 0
  case neg => rw [if_neg z4] at h; exact absurd (bnil_err h) z4
  rw [if_pos z4] at h ⊢
  obtain ⟨d1, d2⟩ := dall_inv xs z4
  by_cases z5 : k < (s2.size : Int)
  · rw [if_pos z5] at h; exact absurd (bnil_err h) (by decide)
  rw [if_neg z5] at h ⊢
  by_cases z6 : 6 < a
  · rw [if_pos z6] at h; exact absurd (bnil_err h) (by decide)
  rw [if_neg z6] at h ⊢
  by_cases z7 : bchk a n (dall xs).1 = 0
  case neg => rw [if_neg z7] at h; exact absurd (bnil_err h) z7
  rw [if_pos z7] at h ⊢
  obtain ⟨a0, a6, n1, n2, _⟩ := bchk_ok z7
  refine ⟨a, n, _, rfl, z7, ?_, d2⟩
  have hr : rest s2 k = ⟨#[]⟩ := by
    apply ba_eq
    have : (rest s2 k).data.toList.length = 0 := by
      rw [ba_len]
      unfold rest
      rw [ByteArray.size_extract]
      omega
    rw [List.eq_nil_of_length_eq_zero this]
  unfold bencB
  rw [d1, wI_eq a0 (by omega), wI_eq (by omega) n2, ba_assoc]
  rw [hr, ba_nil'] at i3
  rw [← i3, ← i2, ← i1]
end Go.Proofs.YtndicjikjcifaaaDoor
