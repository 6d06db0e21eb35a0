/- tuskref04.Decode: the walk. (Laid by wip/tools/refdecgen.py.) -/
import Derived.Test.YtndicjikjcifaaaDoorInref
import Derived.Test.YtndicjikjcifaaaDoorRefchk
import Derived.Test.YtndicjikjcifaaaDoorTxdec
namespace Go.Proofs.YtndicjikjcifaaaDoor
open Go.RowKit Go.Shelf Go.Lib Go.Proofs.YtndicjikjcifaaaDoorW.PrintWords Go.Proofs.YtndicjikjcifaaaDoorW.PrintLast
set_option linter.unusedVariables false
set_option linter.unusedSimpArgs false

/-- The three boxes at a world: the result, the reader, the transaction. -/
structure Dy (w : World) (b0 b1 b2 b3 b4 b5 b6 b7 b8 : Value) (s : ByteArray) (E : Int) (W : World) : Prop where
  low : Below w.heap.size w W
  res : W.heap[w.heap.size]? = some (.cells #[.int .i64 0, .string ⟨#[]⟩, .string ⟨#[]⟩, .int .u64 0, .int .u64 0, .string ⟨#[]⟩, .string ⟨#[]⟩, .slice none 0 0, .slice none 0 0] 33 (0, 0))
  inn : W.heap[w.heap.size + 1]? = some (.cells #[.string s, .int .i64 E] 84 (0, 0))
  tx : W.heap[w.heap.size + 1 + 1]? = some (.cells #[b0, b1, b2, b3, b4, b5, b6, b7, b8] 33 (0, 0))
theorem below_low {w W W' : World} {B : Nat} (h : Below B w W) (hb : Below B W W') : Below B w W' :=
  h.trans hb
theorem Dy.size {w W : World} {b0 b1 b2 b3 b4 b5 b6 b7 b8 : Value} {s : ByteArray} {E : Int} (h : Dy w b0 b1 b2 b3 b4 b5 b6 b7 b8 s E W) : w.heap.size + 1 + 1 < W.heap.size := blk_lt h.tx
theorem Dy.read {w W W' : World} {b0 b1 b2 b3 b4 b5 b6 b7 b8 : Value} {s s' : ByteArray} {E E' : Int} (h : Dy w b0 b1 b2 b3 b4 b5 b6 b7 b8 s E W) (hr : Ri (w.heap.size + 1) s' E' W W') : Dy w b0 b1 b2 b3 b4 b5 b6 b7 b8 s' E' W' :=
  ⟨below_low h.low (hr.only.below (B := w.heap.size) h.low.size (fun i hi => by omega)), (hr.only.block _ (blk_lt h.res) (by omega)).trans h.res, hr.box, (hr.only.block _ (blk_lt h.tx) (by omega)).trans h.tx⟩
theorem Dy.step {w W W' : World} {b0 b1 b2 b3 b4 b5 b6 b7 b8 : Value} {s : ByteArray} {E : Int} (h : Dy w b0 b1 b2 b3 b4 b5 b6 b7 b8 s E W) (hb : Below W.heap.size W W') : Dy w b0 b1 b2 b3 b4 b5 b6 b7 b8 s E W' :=
  ⟨below_then h.low h.low.size hb, (hb.block _ (blk_lt h.res)).trans h.res, (hb.block _ (blk_lt h.inn)).trans h.inn, (hb.block _ (blk_lt h.tx)).trans h.tx⟩
theorem Dy.setE {w W : World} {b0 b1 b2 b3 b4 b5 b6 b7 b8 : Value} {s : ByteArray} {E : Int} (h : Dy w b0 b1 b2 b3 b4 b5 b6 b7 b8 s E W) (E' : Int) : Dy w b0 b1 b2 b3 b4 b5 b6 b7 b8 s E' (W.setCell ⟨w.heap.size + 1, 1, none⟩ (.int .i64 E')) :=
  ⟨h.low.setCell (by simp) _, (Below.heap_setCell _ _ _ _ (by simp)).trans h.res, by simpa using blk_set h.inn 1 (.int .i64 E'), (Below.heap_setCell _ _ _ _ (by simp)).trans h.tx⟩
theorem Dy.set0 {w W : World} {b0 b1 b2 b3 b4 b5 b6 b7 b8 : Value} {s : ByteArray} {E : Int} (h : Dy w b0 b1 b2 b3 b4 b5 b6 b7 b8 s E W) (v : Value) : Dy w v b1 b2 b3 b4 b5 b6 b7 b8 s E (W.setCell ⟨w.heap.size + 1 + 1, 0, none⟩ v) :=
  ⟨h.low.setCell (by simp; omega) v, (Below.heap_setCell _ _ _ _ (by simp; omega)).trans h.res, (Below.heap_setCell _ _ _ _ (by simp)).trans h.inn, by simpa using blk_set h.tx 0 v⟩
theorem Dy.set1 {w W : World} {b0 b1 b2 b3 b4 b5 b6 b7 b8 : Value} {s : ByteArray} {E : Int} (h : Dy w b0 b1 b2 b3 b4 b5 b6 b7 b8 s E W) (v : Value) : Dy w b0 v b2 b3 b4 b5 b6 b7 b8 s E (W.setCell ⟨w.heap.size + 1 + 1, 1, none⟩ v) :=
  ⟨h.low.setCell (by simp; omega) v, (Below.heap_setCell _ _ _ _ (by simp; omega)).trans h.res, (Below.heap_setCell _ _ _ _ (by simp)).trans h.inn, by simpa using blk_set h.tx 1 v⟩
theorem Dy.set2 {w W : World} {b0 b1 b2 b3 b4 b5 b6 b7 b8 : Value} {s : ByteArray} {E : Int} (h : Dy w b0 b1 b2 b3 b4 b5 b6 b7 b8 s E W) (v : Value) : Dy w b0 b1 v b3 b4 b5 b6 b7 b8 s E (W.setCell ⟨w.heap.size + 1 + 1, 2, none⟩ v) :=
  ⟨h.low.setCell (by simp; omega) v, (Below.heap_setCell _ _ _ _ (by simp; omega)).trans h.res, (Below.heap_setCell _ _ _ _ (by simp)).trans h.inn, by simpa using blk_set h.tx 2 v⟩
theorem Dy.set3 {w W : World} {b0 b1 b2 b3 b4 b5 b6 b7 b8 : Value} {s : ByteArray} {E : Int} (h : Dy w b0 b1 b2 b3 b4 b5 b6 b7 b8 s E W) (v : Value) : Dy w b0 b1 b2 v b4 b5 b6 b7 b8 s E (W.setCell ⟨w.heap.size + 1 + 1, 3, none⟩ v) :=
  ⟨h.low.setCell (by simp; omega) v, (Below.heap_setCell _ _ _ _ (by simp; omega)).trans h.res, (Below.heap_setCell _ _ _ _ (by simp)).trans h.inn, by simpa using blk_set h.tx 3 v⟩
theorem Dy.set4 {w W : World} {b0 b1 b2 b3 b4 b5 b6 b7 b8 : Value} {s : ByteArray} {E : Int} (h : Dy w b0 b1 b2 b3 b4 b5 b6 b7 b8 s E W) (v : Value) : Dy w b0 b1 b2 b3 v b5 b6 b7 b8 s E (W.setCell ⟨w.heap.size + 1 + 1, 4, none⟩ v) :=
  ⟨h.low.setCell (by simp; omega) v, (Below.heap_setCell _ _ _ _ (by simp; omega)).trans h.res, (Below.heap_setCell _ _ _ _ (by simp)).trans h.inn, by simpa using blk_set h.tx 4 v⟩
theorem Dy.set5 {w W : World} {b0 b1 b2 b3 b4 b5 b6 b7 b8 : Value} {s : ByteArray} {E : Int} (h : Dy w b0 b1 b2 b3 b4 b5 b6 b7 b8 s E W) (v : Value) : Dy w b0 b1 b2 b3 b4 v b6 b7 b8 s E (W.setCell ⟨w.heap.size + 1 + 1, 5, none⟩ v) :=
  ⟨h.low.setCell (by simp; omega) v, (Below.heap_setCell _ _ _ _ (by simp; omega)).trans h.res, (Below.heap_setCell _ _ _ _ (by simp)).trans h.inn, by simpa using blk_set h.tx 5 v⟩
theorem Dy.set6 {w W : World} {b0 b1 b2 b3 b4 b5 b6 b7 b8 : Value} {s : ByteArray} {E : Int} (h : Dy w b0 b1 b2 b3 b4 b5 b6 b7 b8 s E W) (v : Value) : Dy w b0 b1 b2 b3 b4 b5 v b7 b8 s E (W.setCell ⟨w.heap.size + 1 + 1, 6, none⟩ v) :=
  ⟨h.low.setCell (by simp; omega) v, (Below.heap_setCell _ _ _ _ (by simp; omega)).trans h.res, (Below.heap_setCell _ _ _ _ (by simp)).trans h.inn, by simpa using blk_set h.tx 6 v⟩
theorem Dy.set7 {w W : World} {b0 b1 b2 b3 b4 b5 b6 b7 b8 : Value} {s : ByteArray} {E : Int} (h : Dy w b0 b1 b2 b3 b4 b5 b6 b7 b8 s E W) (v : Value) : Dy w b0 b1 b2 b3 b4 b5 b6 v b8 s E (W.setCell ⟨w.heap.size + 1 + 1, 7, none⟩ v) :=
  ⟨h.low.setCell (by simp; omega) v, (Below.heap_setCell _ _ _ _ (by simp; omega)).trans h.res, (Below.heap_setCell _ _ _ _ (by simp)).trans h.inn, by simpa using blk_set h.tx 7 v⟩
theorem Dy.set8 {w W : World} {b0 b1 b2 b3 b4 b5 b6 b7 b8 : Value} {s : ByteArray} {E : Int} (h : Dy w b0 b1 b2 b3 b4 b5 b6 b7 b8 s E W) (v : Value) : Dy w b0 b1 b2 b3 b4 b5 b6 b7 v s E (W.setCell ⟨w.heap.size + 1 + 1, 8, none⟩ v) :=
  ⟨h.low.setCell (by simp; omega) v, (Below.heap_setCell _ _ _ _ (by simp; omega)).trans h.res, (Below.heap_setCell _ _ _ _ (by simp)).trans h.inn, by simpa using blk_set h.tx 8 v⟩
theorem Ri.row {p : Nat} {S S' : ByteArray} {E E' : Int} {w w' : World} (h : Ri p S' E' w w') (hb : w.heap[p]? = some (.cells #[.string S, .int .i64 E] 84 (0, 0))) {base : Nat} {v : Value} {xs : List ByteArray}
    (hR : Kd.R Kd.string 9 w base (fun k => some k = v.ownBlock) v xs) : Kd.R Kd.string 9 w' base (fun k => some k = v.ownBlock) v xs :=
  Kd.R_only hR h.only (fun k hk e => Kd.R_ne hR hb (by decide) (by rw [← hk, e]))
theorem Dy.first (w : World) (s : ByteArray) : Dy w (.int .i64 0) (.string ⟨#[]⟩) (.string ⟨#[]⟩) (.int .u64 0) (.int .u64 0) (.string ⟨#[]⟩) (.string ⟨#[]⟩) (.slice none 0 0) (.slice none 0 0) s 0
    (((w.alloc (.cells #[.int .i64 0, .string ⟨#[]⟩, .string ⟨#[]⟩, .int .u64 0, .int .u64 0, .string ⟨#[]⟩, .string ⟨#[]⟩, .slice none 0 0, .slice none 0 0] 33)).alloc (.cells #[.string s, .int .i64 0] 84)).alloc (.cells #[.int .i64 0, .string ⟨#[]⟩, .string ⟨#[]⟩, .int .u64 0, .int .u64 0, .string ⟨#[]⟩, .string ⟨#[]⟩, .slice none 0 0, .slice none 0 0] 33)) :=
  ⟨(((Below.refl _ w).alloc (Nat.le_refl _) _).alloc (by simp) _).alloc (by simp; omega) _, blk_alloc (blk_alloc (blk_new _ _) _) _, blk_alloc (blk_newAt _ _ (by simp)) _, blk_newAt _ _ (by simp)⟩
theorem In_Int' (p : Nat) (S S' : ByteArray) (E E' : Int) (v : Int) (w : World) (hi : inI S E = (v, S', E')) (h : w.heap[p]? = some (.cells #[.string S, .int .i64 E] 84 (0, 0))) :
    Calls Tryd.prog 56 #[.pointer (some ⟨p, 0, none⟩)] w fun e w' => e = .returned (.int .i64 v) ∧ Ri p S' E' w w' := by
  have := In_Int p S E w h
  rw [hi] at this
  exact this
theorem In_Text' (p : Nat) (S S' : ByteArray) (E E' : Int) (v : ByteArray) (w : World) (hs : S.size < 4611686018427387904) (hi : inT S E = (v, S', E')) (h : w.heap[p]? = some (.cells #[.string S, .int .i64 E] 84 (0, 0))) :
    Calls Tryd.prog 57 #[.pointer (some ⟨p, 0, none⟩)] w fun e w' => e = .returned (.string v) ∧ Ri p S' E' w w' := by
  have := In_Text p S E w hs h
  rw [hi] at this
  exact this
theorem In_List' (p : Nat) (S S' : ByteArray) (E E' : Int) (v : List ByteArray) (w : World) (hs : S.size < 4611686018427387904) (hi : inL S E = (v, S', E')) (h : w.heap[p]? = some (.cells #[.string S, .int .i64 E] 84 (0, 0))) :
    Calls Tryd.prog 58 #[.pointer (some ⟨p, 0, none⟩), .int .i64 8] w fun e w' => ∃ x, e = .returned x ∧ Kd.R Kd.string 9 w' w.heap.size (fun _ => True) x v ∧ Ri p S' E' w w' := by
  have := In_List p S E w hs h
  rw [hi] at this
  exact this
theorem In_End' (p : Nat) (S : ByteArray) (E E' : Int) (w : World) (hi : inE S E = E') (h : w.heap[p]? = some (.cells #[.string S, .int .i64 E] 84 (0, 0))) :
    Calls Tryd.prog 59 #[.pointer (some ⟨p, 0, none⟩)] w fun e w' => e = .returned (.tuple #[]) ∧ Ri p S E' w w' := by
  have := In_End p S E w h
  rw [hi] at this
  exact this
/-- What comes of what was read. -/
def fin2 (e9 kd : Int) (f t : ByteArray) (am nc : Int) (ky' vl : ByteArray) (rs ws : List ByteArray) (s9 : ByteArray) : Dec :=
  if e9 ≠ 0 then derr e9 else if kd ≤ 2 then (if s9.toList.isEmpty = true then fin9 kd f t am nc ky' vl rs ws else derr 6) else derr 2
structure Dz (w : World) (b0 b1 b2 b3 b4 b5 b6 b7 b8 : Value) (s : ByteArray) (E : Int) (rs ws : List ByteArray) (W : World) : Prop where
  y : Dy w b0 b1 b2 b3 b4 b5 b6 b7 b8 s E W
  r7 : Kd.R Kd.string 9 W w.heap.size (fun k => some k = b7.ownBlock) b7 rs
  r8 : Kd.R Kd.string 9 W w.heap.size (fun k => some k = b8.ownBlock) b8 ws
theorem Dz.read {w W W' : World} {b0 b1 b2 b3 b4 b5 b6 b7 b8 : Value} {s s' : ByteArray} {E E' : Int} {rs ws : List ByteArray} (h : Dz w b0 b1 b2 b3 b4 b5 b6 b7 b8 s E rs ws W) (hr : Ri (w.heap.size + 1) s' E' W W') : Dz w b0 b1 b2 b3 b4 b5 b6 b7 b8 s' E' rs ws W' :=
  ⟨h.y.read hr, hr.row h.y.inn h.r7, hr.row h.y.inn h.r8⟩
theorem Dz.step {w W W' : World} {b0 b1 b2 b3 b4 b5 b6 b7 b8 : Value} {s : ByteArray} {E : Int} {rs ws : List ByteArray} (h : Dz w b0 b1 b2 b3 b4 b5 b6 b7 b8 s E rs ws W) (hb : Below W.heap.size W W') : Dz w b0 b1 b2 b3 b4 b5 b6 b7 b8 s E rs ws W' :=
  ⟨h.y.step hb, Kd.R_below h.r7 hb, Kd.R_below h.r8 hb⟩
theorem Dz.setE {w W : World} {b0 b1 b2 b3 b4 b5 b6 b7 b8 : Value} {s : ByteArray} {E : Int} {rs ws : List ByteArray} (h : Dz w b0 b1 b2 b3 b4 b5 b6 b7 b8 s E rs ws W) (E' : Int) : Dz w b0 b1 b2 b3 b4 b5 b6 b7 b8 s E' rs ws (W.setCell ⟨w.heap.size + 1, 1, none⟩ (.int .i64 E')) :=
  have ht : ∀ q, q ∈ 9 :: Kd.string.E → q ≠ 84 := by intro q hq; simp [Kd.string, Kd.scalar] at hq; subst hq; decide
  ⟨h.y.setE E', Kd.R_set h.r7 h.y.inn ht _ _, Kd.R_set h.r8 h.y.inn ht _ _⟩
theorem Dz.set0 {w W : World} {b0 b1 b2 b3 b4 b5 b6 b7 b8 : Value} {s : ByteArray} {E : Int} {rs ws : List ByteArray} (h : Dz w b0 b1 b2 b3 b4 b5 b6 b7 b8 s E rs ws W) (v : Value) : Dz w v b1 b2 b3 b4 b5 b6 b7 b8 s E rs ws (W.setCell ⟨w.heap.size + 1 + 1, 0, none⟩ v) :=
  have ht : ∀ q, q ∈ 9 :: Kd.string.E → q ≠ 33 := by intro q hq; simp [Kd.string, Kd.scalar] at hq; subst hq; decide
  ⟨h.y.set0 v, Kd.R_set h.r7 h.y.tx ht _ _, Kd.R_set h.r8 h.y.tx ht _ _⟩
theorem chk2' (k : Int) (f t : ByteArray) (am nc : Int) (ky' vl : ByteArray) (A B : Option Addr) (c d : Nat) (rs ws : List ByteArray) (w : World) (M : Nat) (x : Int) (hx : ch k f t am nc ky' vl rs ws = x)
    (hr : Kd.C Kd.string w A rs.length rs) (hc : rs.length ≤ c) (hs : Kd.C Kd.string w B ws.length ws) (hd : ws.length ≤ d)
    (h : f.size < 4611686018427387904 ∧ t.size < 4611686018427387904 ∧ ky'.size < 4611686018427387904 ∧ Small M rs ∧ Small M ws) :
    Calls Tryd.prog 42 #[.agg #[.int .i64 k, .string f, .string t, .int .u64 am, .int .u64 nc, .string ky', .string vl, .slice A rs.length c, .slice B ws.length d]] w
      fun e w' => e = .returned (.int .i64 x) ∧ Below w.heap.size w w' := by
  subst hx
  exact chk2_calls k f t am nc ky' vl A B c d rs ws w M hr hc hs hd h.1 h.2.1 h.2.2.1 h.2.2.2.1 h.2.2.2.2
structure RdFr (w : World) (c : Array Value) (b7 b8 : Value) (rs ws : List ByteArray) (W : World) : Prop where
  low : Below w.heap.size w W
  res : W.heap[w.heap.size]? = some (.cells c 33 (0, 0))
  r7 : Kd.R Kd.string 9 W w.heap.size (fun k => some k = b7.ownBlock) b7 rs
  r8 : Kd.R Kd.string 9 W w.heap.size (fun k => some k = b8.ownBlock) b8 ws
theorem RdFr.set {w W : World} {c : Array Value} {b7 b8 : Value} {rs ws : List ByteArray} (h : RdFr w c b7 b8 rs ws W) (i : Nat) (v : Value) : RdFr w (c.setIfInBounds i v) b7 b8 rs ws (W.setCell ⟨w.heap.size, i, none⟩ v) :=
  have ht : ∀ q, q ∈ 9 :: Kd.string.E → q ≠ 33 := by intro q hq; simp [Kd.string, Kd.scalar] at hq; subst hq; decide
  ⟨h.low.setCell (by simp) v, blk_set h.res i v, Kd.R_set h.r7 h.res ht _ _, Kd.R_set h.r8 h.res ht _ _⟩
theorem RdFr.made {w W : World} {b0 b1 b2 b3 b4 b5 b6 b7 b8 : Value} {s : ByteArray} {E : Int} {rs ws : List ByteArray} (h : Dz w b0 b1 b2 b3 b4 b5 b6 b7 b8 s E rs ws W) (c0 c1 c2 c3 c4 c5 c6 c7 c8 : Value) :
    RdFr w #[c0, c1, c2, c3, c4, c5, c6, c7, c8] b7 b8 rs ws (((((((((W.setCell ⟨w.heap.size, 0, none⟩ c0).setCell ⟨w.heap.size, 1, none⟩ c1).setCell ⟨w.heap.size, 2, none⟩ c2).setCell ⟨w.heap.size, 3, none⟩ c3).setCell ⟨w.heap.size, 4, none⟩ c4).setCell ⟨w.heap.size, 5, none⟩ c5).setCell ⟨w.heap.size, 6, none⟩ c6).setCell ⟨w.heap.size, 7, none⟩ c7).setCell ⟨w.heap.size, 8, none⟩ c8) := by
  have h0 : RdFr w _ b7 b8 rs ws W := ⟨h.y.low, h.y.res, h.r7, h.r8⟩
  have := ((((((((h0.set 0 c0).set 1 c1).set 2 c2).set 3 c3).set 4 c4).set 5 c5).set 6 c6).set 7 c7).set 8 c8
  simpa using this
theorem RdFr.drew {w W : World} {c : Array Value} {b7 b8 : Value} {rs ws : List ByteArray} (h : RdFr w c b7 b8 rs ws W) : RdFr w c b7 b8 rs ws W.drew :=
  ⟨h.low.drew, h.res, Kd.R_drew h.r7, Kd.R_drew h.r8⟩
set_option maxHeartbeats 8000000 in
set_option maxRecDepth 100000 in
theorem rd_walk (s s1 s2 s3 s4 s5 s6 s7 s8 s9 : ByteArray) (e1 e2 e3 e4 e5 e6 e7 e8 e9 : Int) (kd : Int) (f : ByteArray) (t : ByteArray) (am : Int) (nc : Int) (ky' : ByteArray) (vl : ByteArray) (rs : List ByteArray) (ws : List ByteArray) (w : World) (I0 : Hid (inI s 0 = (kd, s1, e1))) (I1 : Hid (inT s1 e1 = (f, s2, e2))) (Z1 : Hid (s1.size < 4611686018427387904)) (I2 : Hid (inT s2 e2 = (t, s3, e3))) (Z2 : Hid (s2.size < 4611686018427387904)) (I3 : Hid (inI s3 e3 = (am, s4, e4))) (I4 : Hid (inI s4 e4 = (nc, s5, e5))) (I5 : Hid (inT s5 e5 = (ky', s6, e6))) (Z5 : Hid (s5.size < 4611686018427387904)) (I6 : Hid (inT s6 e6 = (vl, s7, e7))) (Z6 : Hid (s6.size < 4611686018427387904)) (I7 : Hid (inL s7 e7 = (rs, s8, e8))) (Z7 : Hid (s7.size < 4611686018427387904)) (I8 : Hid (inL s8 e8 = (ws, s9, e9))) (Z8 : Hid (s8.size < 4611686018427387904)) (wa : IntKind.u64.wrap am = am) (wn : IntKind.u64.wrap nc = nc)
    (M : Nat) (hsf : f.size < 4611686018427387904) (hst : t.size < 4611686018427387904) (hsk : ky'.size < 4611686018427387904) (hm7 : Small M rs) (hm8 : Small M ws) :
    Calls Tryd.prog 26 #[.string s] w fun e w' => DP (fin2 e9 kd f t am nc ky' vl rs ws s9) w e w' := by
  have HM := Lib.hid (show _ ∧ _ ∧ _ ∧ _ ∧ _ from ⟨hsf, hst, hsk, hm7, hm8⟩)
  clear hsf hst hsk hm7 hm8
  go_enter Tryd.func26, Tryd.ntmps26
  have HX := Lib.hid (Dy.first w s)
  go_upto_region 12 with (first
  | (go_at_call 56
     with_reducible refine (In_Int' (w.heap.size + 1) s s1 0 e1 kd _ I0.out HX.out.inn).mono ?_
     rintro e w2 ⟨rfl, hr⟩
     have HX := Lib.hid (HX.out.read hr)
     clear hr)
  | (go_at_call 57
     with_reducible refine (In_Text' (w.heap.size + 1) s1 s2 e1 e2 f _ Z1.out I1.out HX.out.inn).mono ?_
     rintro e w2 ⟨rfl, hr⟩
     have HX := Lib.hid (HX.out.read hr)
     have t1 := blk_cell HX.out.tx 1; have u1 := blk_frozen HX.out.tx 1; simp only [List.getElem?_toArray, List.getElem?_cons_zero, List.getElem?_cons_succ] at t1
     clear hr)
  | (go_at_call 57
     with_reducible refine (In_Text' (w.heap.size + 1) s2 s3 e2 e3 t _ Z2.out I2.out (HX.out.set1 (.string f)).inn).mono ?_
     rintro e w2 ⟨rfl, hr⟩
     have HX := Lib.hid ((HX.out.set1 (.string f)).read hr)
     have t2 := blk_cell HX.out.tx 2; have u2 := blk_frozen HX.out.tx 2; simp only [List.getElem?_toArray, List.getElem?_cons_zero, List.getElem?_cons_succ] at t2
     clear hr)
  | (go_at_call 56
     with_reducible refine (In_Int' (w.heap.size + 1) s3 s4 e3 e4 am _ I3.out (HX.out.set2 (.string t)).inn).mono ?_
     rintro e w2 ⟨rfl, hr⟩
     have HX := Lib.hid ((HX.out.set2 (.string t)).read hr)
     have t3 := blk_cell HX.out.tx 3; have u3 := blk_frozen HX.out.tx 3; simp only [List.getElem?_toArray, List.getElem?_cons_zero, List.getElem?_cons_succ] at t3
     clear hr)
  | (go_at_call 56
     with_reducible refine (In_Int' (w.heap.size + 1) s4 s5 e4 e5 nc _ I4.out (HX.out.set3 (.int .u64 am)).inn).mono ?_
     rintro e w2 ⟨rfl, hr⟩
     have HX := Lib.hid ((HX.out.set3 (.int .u64 am)).read hr)
     have t4 := blk_cell HX.out.tx 4; have u4 := blk_frozen HX.out.tx 4; simp only [List.getElem?_toArray, List.getElem?_cons_zero, List.getElem?_cons_succ] at t4
     clear hr)
  | (go_at_call 57
     with_reducible refine (In_Text' (w.heap.size + 1) s5 s6 e5 e6 ky' _ Z5.out I5.out (HX.out.set4 (.int .u64 nc)).inn).mono ?_
     rintro e w2 ⟨rfl, hr⟩
     have HX := Lib.hid ((HX.out.set4 (.int .u64 nc)).read hr)
     have t5 := blk_cell HX.out.tx 5; have u5 := blk_frozen HX.out.tx 5; simp only [List.getElem?_toArray, List.getElem?_cons_zero, List.getElem?_cons_succ] at t5
     clear hr)
  | (go_at_call 57
     with_reducible refine (In_Text' (w.heap.size + 1) s6 s7 e6 e7 vl _ Z6.out I6.out (HX.out.set5 (.string ky')).inn).mono ?_
     rintro e w2 ⟨rfl, hr⟩
     have HX := Lib.hid ((HX.out.set5 (.string ky')).read hr)
     have t6 := blk_cell HX.out.tx 6; have u6 := blk_frozen HX.out.tx 6; simp only [List.getElem?_toArray, List.getElem?_cons_zero, List.getElem?_cons_succ] at t6
     clear hr)
  | (go_at_call 58
     with_reducible refine (In_List' (w.heap.size + 1) s7 s8 e7 e8 rs _ Z7.out I7.out (HX.out.set6 (.string vl)).inn).mono ?_
     rintro e w2 ⟨v7, rfl, hR7, hr⟩
     obtain ⟨A7, c7, rfl, hc7, hC7⟩ := Kd.R_reads hR7
     have T7 := Lib.hid (Kd.R_tight rfl (Kd.R_lower hR7 (HX.out.set6 (.string vl)).low.size))
     have N7 := Lib.hid (Kd.R_lt hR7)
     have L7 := Lib.hid hc7
     clear hR7 hc7 hC7
     have HX := Lib.hid ((HX.out.set6 (.string vl)).read hr)
     have t7 := blk_cell HX.out.tx 7; have u7 := blk_frozen HX.out.tx 7; simp only [List.getElem?_toArray, List.getElem?_cons_zero, List.getElem?_cons_succ] at t7
     clear hr)
  | (go_at_call 58
     with_reducible refine (In_List' (w.heap.size + 1) s8 s9 e8 e9 ws _ Z8.out I8.out (HX.out.set7 (.slice A7 rs.length c7)).inn).mono ?_
     rintro e w2 ⟨v8, rfl, hR8, hr⟩
     obtain ⟨A8, c8, rfl, hc8, hC8⟩ := Kd.R_reads hR8
     have P7 := Lib.hid (apart_of (fun k hk => by simpa [World.setCell] using N7.out k hk) (Kd.R_base hR8))
     have T8 := Lib.hid (Kd.R_tight rfl (Kd.R_lower hR8 (HX.out.set7 (.slice A7 rs.length c7)).low.size))
     have T7 := Lib.hid (hr.row (HX.out.set7 (.slice A7 rs.length c7)).inn (Kd.R_set T7.out HX.out.tx (by intro q hq; simp [Kd.string, Kd.scalar] at hq; subst hq; decide) 7 (.slice A7 rs.length c7)))
     have L8 := Lib.hid hc8
     clear hR8 hc8 hC8 N7
     have HX := Lib.hid ((HX.out.set7 (.slice A7 rs.length c7)).read hr)
     have t8 := blk_cell HX.out.tx 8; have u8 := blk_frozen HX.out.tx 8; simp only [List.getElem?_toArray, List.getElem?_cons_zero, List.getElem?_cons_succ] at t8
     clear hr))
  have ht : ∀ q, q ∈ 9 :: Kd.string.E → q ≠ 33 := by intro q hq; simp [Kd.string, Kd.scalar] at hq; subst hq; decide
  refine at_world (F := Dz w (.int .i64 0) (.string f) (.string t) (.int .u64 am) (.int .u64 nc) (.string ky') (.string vl) (.slice A7 rs.length c7) (.slice A8 ws.length c8) s9 e9 rs ws) ⟨HX.out.set8 _, Kd.R_set T7.out HX.out.tx ht _ _, Kd.R_set T8.out HX.out.tx ht _ _⟩ ?_
  clear HX T7 T8 ht t1 t2 t3 t4 t5 t6 t7 t8 u1 u2 u3 u4 u5 u6 u7 u8 I0 I1 I2 I3 I4 I5 I6 I7 I8 Z1 Z2 Z5 Z6 Z7 Z8 wa wn
  intro W HX
  have HX := Lib.hid HX
  by_cases hE : e9 = 0
  case neg =>
    have x1 : (e9 == 0) = false := by simpa using hE
    have x2 : (e9 != 0) = true := by simp [bne, x1]
    have hI := Lib.hid (show inE s9 e9 = e9 from if_neg (fun h => hE h.1))
    have hF := Lib.hid (show fin2 e9 kd f t am nc ky' vl rs ws s9 = derr e9 from if_pos hE)
    clear hE
    have q1 : W.cell? ⟨w.heap.size + 1, 1, none⟩ = some (.int .i64 e9) := blk_cell HX.out.y.inn 1
    have p1 := blk_frozen HX.out.y.inn 1
    have u0 := blk_frozen HX.out.y.tx 0
    have g0 := blk_frozen HX.out.y.res 0
    have g1 := blk_frozen HX.out.y.res 1
    have g2 := blk_frozen HX.out.y.res 2
    have g3 := blk_frozen HX.out.y.res 3
    have g4 := blk_frozen HX.out.y.res 4
    have g5 := blk_frozen HX.out.y.res 5
    have g6 := blk_frozen HX.out.y.res 6
    have g7 := blk_frozen HX.out.y.res 7
    have g8 := blk_frozen HX.out.y.res 8
    have h0 : W.cell? ⟨w.heap.size, 0, none⟩ = _ := blk_cell HX.out.y.res 0
    have h1 : W.cell? ⟨w.heap.size, 1, none⟩ = _ := blk_cell HX.out.y.res 1
    have h2 : W.cell? ⟨w.heap.size, 2, none⟩ = _ := blk_cell HX.out.y.res 2
    have h3 : W.cell? ⟨w.heap.size, 3, none⟩ = _ := blk_cell HX.out.y.res 3
    have h4 : W.cell? ⟨w.heap.size, 4, none⟩ = _ := blk_cell HX.out.y.res 4
    have h5 : W.cell? ⟨w.heap.size, 5, none⟩ = _ := blk_cell HX.out.y.res 5
    have h6 : W.cell? ⟨w.heap.size, 6, none⟩ = _ := blk_cell HX.out.y.res 6
    have h7 : W.cell? ⟨w.heap.size, 7, none⟩ = _ := blk_cell HX.out.y.res 7
    have h8 : W.cell? ⟨w.heap.size, 8, none⟩ = _ := blk_cell HX.out.y.res 8
    have t0 : W.cell? ⟨w.heap.size + 1 + 1, 0, none⟩ = _ := blk_cell HX.out.y.tx 0
    have t1 : W.cell? ⟨w.heap.size + 1 + 1, 1, none⟩ = _ := blk_cell HX.out.y.tx 1
    have t2 : W.cell? ⟨w.heap.size + 1 + 1, 2, none⟩ = _ := blk_cell HX.out.y.tx 2
    have t3 : W.cell? ⟨w.heap.size + 1 + 1, 3, none⟩ = _ := blk_cell HX.out.y.tx 3
    have t4 : W.cell? ⟨w.heap.size + 1 + 1, 4, none⟩ = _ := blk_cell HX.out.y.tx 4
    have t5 : W.cell? ⟨w.heap.size + 1 + 1, 5, none⟩ = _ := blk_cell HX.out.y.tx 5
    have t6 : W.cell? ⟨w.heap.size + 1 + 1, 6, none⟩ = _ := blk_cell HX.out.y.tx 6
    have t7 : W.cell? ⟨w.heap.size + 1 + 1, 7, none⟩ = _ := blk_cell HX.out.y.tx 7
    have t8 : W.cell? ⟨w.heap.size + 1 + 1, 8, none⟩ = _ := blk_cell HX.out.y.tx 8
    simp only [List.getElem?_toArray, List.getElem?_cons_zero, List.getElem?_cons_succ] at h0 h1 h2 h3 h4 h5 h6 h7 h8 t0 t1 t2 t3 t4 t5 t6 t7 t8
    go_wp2_with (first
      | (go_at_call 59
         with_reducible refine (In_End' (w.heap.size + 1) s9 e9 e9 _ hI.out HX.out.y.inn).mono ?_
         rintro e w2 ⟨rfl, hr⟩
         have HX := Lib.hid (HX.out.read hr)
         clear hr
         have q1 : w2.cell? ⟨w.heap.size + 1, 1, none⟩ = some (.int .i64 e9) := blk_cell HX.out.y.inn 1
         have p1 := blk_frozen HX.out.y.inn 1
         have u0 := blk_frozen HX.out.y.tx 0
         have g0 := blk_frozen HX.out.y.res 0
         have g1 := blk_frozen HX.out.y.res 1
         have g2 := blk_frozen HX.out.y.res 2
         have g3 := blk_frozen HX.out.y.res 3
         have g4 := blk_frozen HX.out.y.res 4
         have g5 := blk_frozen HX.out.y.res 5
         have g6 := blk_frozen HX.out.y.res 6
         have g7 := blk_frozen HX.out.y.res 7
         have g8 := blk_frozen HX.out.y.res 8
         have h0 : w2.cell? ⟨w.heap.size, 0, none⟩ = _ := blk_cell HX.out.y.res 0
         have h1 : w2.cell? ⟨w.heap.size, 1, none⟩ = _ := blk_cell HX.out.y.res 1
         have h2 : w2.cell? ⟨w.heap.size, 2, none⟩ = _ := blk_cell HX.out.y.res 2
         have h3 : w2.cell? ⟨w.heap.size, 3, none⟩ = _ := blk_cell HX.out.y.res 3
         have h4 : w2.cell? ⟨w.heap.size, 4, none⟩ = _ := blk_cell HX.out.y.res 4
         have h5 : w2.cell? ⟨w.heap.size, 5, none⟩ = _ := blk_cell HX.out.y.res 5
         have h6 : w2.cell? ⟨w.heap.size, 6, none⟩ = _ := blk_cell HX.out.y.res 6
         have h7 : w2.cell? ⟨w.heap.size, 7, none⟩ = _ := blk_cell HX.out.y.res 7
         have h8 : w2.cell? ⟨w.heap.size, 8, none⟩ = _ := blk_cell HX.out.y.res 8
         have t0 : w2.cell? ⟨w.heap.size + 1 + 1, 0, none⟩ = _ := blk_cell HX.out.y.tx 0
         have t1 : w2.cell? ⟨w.heap.size + 1 + 1, 1, none⟩ = _ := blk_cell HX.out.y.tx 1
         have t2 : w2.cell? ⟨w.heap.size + 1 + 1, 2, none⟩ = _ := blk_cell HX.out.y.tx 2
         have t3 : w2.cell? ⟨w.heap.size + 1 + 1, 3, none⟩ = _ := blk_cell HX.out.y.tx 3
         have t4 : w2.cell? ⟨w.heap.size + 1 + 1, 4, none⟩ = _ := blk_cell HX.out.y.tx 4
         have t5 : w2.cell? ⟨w.heap.size + 1 + 1, 5, none⟩ = _ := blk_cell HX.out.y.tx 5
         have t6 : w2.cell? ⟨w.heap.size + 1 + 1, 6, none⟩ = _ := blk_cell HX.out.y.tx 6
         have t7 : w2.cell? ⟨w.heap.size + 1 + 1, 7, none⟩ = _ := blk_cell HX.out.y.tx 7
         have t8 : w2.cell? ⟨w.heap.size + 1 + 1, 8, none⟩ = _ := blk_cell HX.out.y.tx 8
         simp only [List.getElem?_toArray, List.getElem?_cons_zero, List.getElem?_cons_succ] at h0 h1 h2 h3 h4 h5 h6 h7 h8 t0 t1 t2 t3 t4 t5 t6 t7 t8
         skip))
    go_region_with (fail)
    all_goals go_wp2
    all_goals
      refine at_world (RdFr.made (HX.out.set0 (.int .i64 kd)) (.int .i64 0) (.string ⟨#[]⟩) (.string ⟨#[]⟩) (.int .u64 0) (.int .u64 0) (.string ⟨#[]⟩) (.string ⟨#[]⟩) (.slice none 0 0) (.slice none 0 0)).drew ?_
      clear q1 p1 u0 g0 g1 g2 g3 g4 g5 g6 g7 g8 h0 h1 h2 h3 h4 h5 h6 h7 h8 t0 t1 t2 t3 t4 t5 t6 t7 t8
      intro Z HZ
      have HZ := Lib.hid HZ
      have d0 : Z.cell? ⟨w.heap.size, 0, none⟩ = some (.int .i64 0) := blk_cell HZ.out.res 0
      have d1 : Z.cell? ⟨w.heap.size, 1, none⟩ = some (.string ⟨#[]⟩) := blk_cell HZ.out.res 1
      have d2 : Z.cell? ⟨w.heap.size, 2, none⟩ = some (.string ⟨#[]⟩) := blk_cell HZ.out.res 2
      have d3 : Z.cell? ⟨w.heap.size, 3, none⟩ = some (.int .u64 0) := blk_cell HZ.out.res 3
      have d4 : Z.cell? ⟨w.heap.size, 4, none⟩ = some (.int .u64 0) := blk_cell HZ.out.res 4
      have d5 : Z.cell? ⟨w.heap.size, 5, none⟩ = some (.string ⟨#[]⟩) := blk_cell HZ.out.res 5
      have d6 : Z.cell? ⟨w.heap.size, 6, none⟩ = some (.string ⟨#[]⟩) := blk_cell HZ.out.res 6
      have d7 : Z.cell? ⟨w.heap.size, 7, none⟩ = some (.slice none 0 0) := blk_cell HZ.out.res 7
      have d8 : Z.cell? ⟨w.heap.size, 8, none⟩ = some (.slice none 0 0) := blk_cell HZ.out.res 8
      simp [bodyPost, results, Tryd.results26, go_sem, d0, d1, d2, d3, d4, d5, d6, d7, d8]
      rw [hF.out]
      exact DP_err _ rfl HZ.out.low
  subst hE
  by_cases hk : kd ≤ 2
  case neg =>
    have x0 : decide (2 < kd) = true := by simp; omega
    have hI := Lib.hid (show inE s9 2 = 2 from if_neg (fun h => absurd h.1 (by decide)))
    have hF := Lib.hid (show fin2 0 kd f t am nc ky' vl rs ws s9 = derr 2 from (if_neg (by simp)).trans (if_neg hk))
    clear hk
    have q1 : W.cell? ⟨w.heap.size + 1, 1, none⟩ = some (.int .i64 0) := blk_cell HX.out.y.inn 1
    have p1 := blk_frozen HX.out.y.inn 1
    have u0 := blk_frozen HX.out.y.tx 0
    have g0 := blk_frozen HX.out.y.res 0
    have g1 := blk_frozen HX.out.y.res 1
    have g2 := blk_frozen HX.out.y.res 2
    have g3 := blk_frozen HX.out.y.res 3
    have g4 := blk_frozen HX.out.y.res 4
    have g5 := blk_frozen HX.out.y.res 5
    have g6 := blk_frozen HX.out.y.res 6
    have g7 := blk_frozen HX.out.y.res 7
    have g8 := blk_frozen HX.out.y.res 8
    have h0 : W.cell? ⟨w.heap.size, 0, none⟩ = _ := blk_cell HX.out.y.res 0
    have h1 : W.cell? ⟨w.heap.size, 1, none⟩ = _ := blk_cell HX.out.y.res 1
    have h2 : W.cell? ⟨w.heap.size, 2, none⟩ = _ := blk_cell HX.out.y.res 2
    have h3 : W.cell? ⟨w.heap.size, 3, none⟩ = _ := blk_cell HX.out.y.res 3
    have h4 : W.cell? ⟨w.heap.size, 4, none⟩ = _ := blk_cell HX.out.y.res 4
    have h5 : W.cell? ⟨w.heap.size, 5, none⟩ = _ := blk_cell HX.out.y.res 5
    have h6 : W.cell? ⟨w.heap.size, 6, none⟩ = _ := blk_cell HX.out.y.res 6
    have h7 : W.cell? ⟨w.heap.size, 7, none⟩ = _ := blk_cell HX.out.y.res 7
    have h8 : W.cell? ⟨w.heap.size, 8, none⟩ = _ := blk_cell HX.out.y.res 8
    have t0 : W.cell? ⟨w.heap.size + 1 + 1, 0, none⟩ = _ := blk_cell HX.out.y.tx 0
    have t1 : W.cell? ⟨w.heap.size + 1 + 1, 1, none⟩ = _ := blk_cell HX.out.y.tx 1
    have t2 : W.cell? ⟨w.heap.size + 1 + 1, 2, none⟩ = _ := blk_cell HX.out.y.tx 2
    have t3 : W.cell? ⟨w.heap.size + 1 + 1, 3, none⟩ = _ := blk_cell HX.out.y.tx 3
    have t4 : W.cell? ⟨w.heap.size + 1 + 1, 4, none⟩ = _ := blk_cell HX.out.y.tx 4
    have t5 : W.cell? ⟨w.heap.size + 1 + 1, 5, none⟩ = _ := blk_cell HX.out.y.tx 5
    have t6 : W.cell? ⟨w.heap.size + 1 + 1, 6, none⟩ = _ := blk_cell HX.out.y.tx 6
    have t7 : W.cell? ⟨w.heap.size + 1 + 1, 7, none⟩ = _ := blk_cell HX.out.y.tx 7
    have t8 : W.cell? ⟨w.heap.size + 1 + 1, 8, none⟩ = _ := blk_cell HX.out.y.tx 8
    simp only [List.getElem?_toArray, List.getElem?_cons_zero, List.getElem?_cons_succ] at h0 h1 h2 h3 h4 h5 h6 h7 h8 t0 t1 t2 t3 t4 t5 t6 t7 t8
    go_wp2_with (first
      | (go_at_call 59
         with_reducible refine (In_End' (w.heap.size + 1) s9 2 2 _ hI.out (HX.out.setE 2).y.inn).mono ?_
         rintro e w2 ⟨rfl, hr⟩
         have HX := Lib.hid ((HX.out.setE 2).read hr)
         clear hr
         have q1 : w2.cell? ⟨w.heap.size + 1, 1, none⟩ = some (.int .i64 2) := blk_cell HX.out.y.inn 1
         have p1 := blk_frozen HX.out.y.inn 1
         have u0 := blk_frozen HX.out.y.tx 0
         have g0 := blk_frozen HX.out.y.res 0
         have g1 := blk_frozen HX.out.y.res 1
         have g2 := blk_frozen HX.out.y.res 2
         have g3 := blk_frozen HX.out.y.res 3
         have g4 := blk_frozen HX.out.y.res 4
         have g5 := blk_frozen HX.out.y.res 5
         have g6 := blk_frozen HX.out.y.res 6
         have g7 := blk_frozen HX.out.y.res 7
         have g8 := blk_frozen HX.out.y.res 8
         have h0 : w2.cell? ⟨w.heap.size, 0, none⟩ = _ := blk_cell HX.out.y.res 0
         have h1 : w2.cell? ⟨w.heap.size, 1, none⟩ = _ := blk_cell HX.out.y.res 1
         have h2 : w2.cell? ⟨w.heap.size, 2, none⟩ = _ := blk_cell HX.out.y.res 2
         have h3 : w2.cell? ⟨w.heap.size, 3, none⟩ = _ := blk_cell HX.out.y.res 3
         have h4 : w2.cell? ⟨w.heap.size, 4, none⟩ = _ := blk_cell HX.out.y.res 4
         have h5 : w2.cell? ⟨w.heap.size, 5, none⟩ = _ := blk_cell HX.out.y.res 5
         have h6 : w2.cell? ⟨w.heap.size, 6, none⟩ = _ := blk_cell HX.out.y.res 6
         have h7 : w2.cell? ⟨w.heap.size, 7, none⟩ = _ := blk_cell HX.out.y.res 7
         have h8 : w2.cell? ⟨w.heap.size, 8, none⟩ = _ := blk_cell HX.out.y.res 8
         have t0 : w2.cell? ⟨w.heap.size + 1 + 1, 0, none⟩ = _ := blk_cell HX.out.y.tx 0
         have t1 : w2.cell? ⟨w.heap.size + 1 + 1, 1, none⟩ = _ := blk_cell HX.out.y.tx 1
         have t2 : w2.cell? ⟨w.heap.size + 1 + 1, 2, none⟩ = _ := blk_cell HX.out.y.tx 2
         have t3 : w2.cell? ⟨w.heap.size + 1 + 1, 3, none⟩ = _ := blk_cell HX.out.y.tx 3
         have t4 : w2.cell? ⟨w.heap.size + 1 + 1, 4, none⟩ = _ := blk_cell HX.out.y.tx 4
         have t5 : w2.cell? ⟨w.heap.size + 1 + 1, 5, none⟩ = _ := blk_cell HX.out.y.tx 5
         have t6 : w2.cell? ⟨w.heap.size + 1 + 1, 6, none⟩ = _ := blk_cell HX.out.y.tx 6
         have t7 : w2.cell? ⟨w.heap.size + 1 + 1, 7, none⟩ = _ := blk_cell HX.out.y.tx 7
         have t8 : w2.cell? ⟨w.heap.size + 1 + 1, 8, none⟩ = _ := blk_cell HX.out.y.tx 8
         simp only [List.getElem?_toArray, List.getElem?_cons_zero, List.getElem?_cons_succ] at h0 h1 h2 h3 h4 h5 h6 h7 h8 t0 t1 t2 t3 t4 t5 t6 t7 t8
         skip))
    go_region_with (fail)
    all_goals go_wp2
    all_goals
      refine at_world (RdFr.made (HX.out.set0 (.int .i64 kd)) (.int .i64 0) (.string ⟨#[]⟩) (.string ⟨#[]⟩) (.int .u64 0) (.int .u64 0) (.string ⟨#[]⟩) (.string ⟨#[]⟩) (.slice none 0 0) (.slice none 0 0)).drew ?_
      clear q1 p1 u0 g0 g1 g2 g3 g4 g5 g6 g7 g8 h0 h1 h2 h3 h4 h5 h6 h7 h8 t0 t1 t2 t3 t4 t5 t6 t7 t8
      intro Z HZ
      have HZ := Lib.hid HZ
      have d0 : Z.cell? ⟨w.heap.size, 0, none⟩ = some (.int .i64 0) := blk_cell HZ.out.res 0
      have d1 : Z.cell? ⟨w.heap.size, 1, none⟩ = some (.string ⟨#[]⟩) := blk_cell HZ.out.res 1
      have d2 : Z.cell? ⟨w.heap.size, 2, none⟩ = some (.string ⟨#[]⟩) := blk_cell HZ.out.res 2
      have d3 : Z.cell? ⟨w.heap.size, 3, none⟩ = some (.int .u64 0) := blk_cell HZ.out.res 3
      have d4 : Z.cell? ⟨w.heap.size, 4, none⟩ = some (.int .u64 0) := blk_cell HZ.out.res 4
      have d5 : Z.cell? ⟨w.heap.size, 5, none⟩ = some (.string ⟨#[]⟩) := blk_cell HZ.out.res 5
      have d6 : Z.cell? ⟨w.heap.size, 6, none⟩ = some (.string ⟨#[]⟩) := blk_cell HZ.out.res 6
      have d7 : Z.cell? ⟨w.heap.size, 7, none⟩ = some (.slice none 0 0) := blk_cell HZ.out.res 7
      have d8 : Z.cell? ⟨w.heap.size, 8, none⟩ = some (.slice none 0 0) := blk_cell HZ.out.res 8
      simp [bodyPost, results, Tryd.results26, go_sem, d0, d1, d2, d3, d4, d5, d6, d7, d8]
      rw [hF.out]
      exact DP_err _ rfl HZ.out.low
  have x0 : decide (2 < kd) = false := by simp; omega
  cases hm : s9.toList.isEmpty with
  | false =>
    have hI := Lib.hid (show inE s9 0 = 6 from if_pos ⟨rfl, hm⟩)
    have hF := Lib.hid (show fin2 0 kd f t am nc ky' vl rs ws s9 = derr 6 from (if_neg (by simp)).trans ((if_pos hk).trans (if_neg (by simp [hm]))))
    clear hk hm
    have q1 : W.cell? ⟨w.heap.size + 1, 1, none⟩ = some (.int .i64 0) := blk_cell HX.out.y.inn 1
    have p1 := blk_frozen HX.out.y.inn 1
    have u0 := blk_frozen HX.out.y.tx 0
    have g0 := blk_frozen HX.out.y.res 0
    have g1 := blk_frozen HX.out.y.res 1
    have g2 := blk_frozen HX.out.y.res 2
    have g3 := blk_frozen HX.out.y.res 3
    have g4 := blk_frozen HX.out.y.res 4
    have g5 := blk_frozen HX.out.y.res 5
    have g6 := blk_frozen HX.out.y.res 6
    have g7 := blk_frozen HX.out.y.res 7
    have g8 := blk_frozen HX.out.y.res 8
    have h0 : W.cell? ⟨w.heap.size, 0, none⟩ = _ := blk_cell HX.out.y.res 0
    have h1 : W.cell? ⟨w.heap.size, 1, none⟩ = _ := blk_cell HX.out.y.res 1
    have h2 : W.cell? ⟨w.heap.size, 2, none⟩ = _ := blk_cell HX.out.y.res 2
    have h3 : W.cell? ⟨w.heap.size, 3, none⟩ = _ := blk_cell HX.out.y.res 3
    have h4 : W.cell? ⟨w.heap.size, 4, none⟩ = _ := blk_cell HX.out.y.res 4
    have h5 : W.cell? ⟨w.heap.size, 5, none⟩ = _ := blk_cell HX.out.y.res 5
    have h6 : W.cell? ⟨w.heap.size, 6, none⟩ = _ := blk_cell HX.out.y.res 6
    have h7 : W.cell? ⟨w.heap.size, 7, none⟩ = _ := blk_cell HX.out.y.res 7
    have h8 : W.cell? ⟨w.heap.size, 8, none⟩ = _ := blk_cell HX.out.y.res 8
    have t0 : W.cell? ⟨w.heap.size + 1 + 1, 0, none⟩ = _ := blk_cell HX.out.y.tx 0
    have t1 : W.cell? ⟨w.heap.size + 1 + 1, 1, none⟩ = _ := blk_cell HX.out.y.tx 1
    have t2 : W.cell? ⟨w.heap.size + 1 + 1, 2, none⟩ = _ := blk_cell HX.out.y.tx 2
    have t3 : W.cell? ⟨w.heap.size + 1 + 1, 3, none⟩ = _ := blk_cell HX.out.y.tx 3
    have t4 : W.cell? ⟨w.heap.size + 1 + 1, 4, none⟩ = _ := blk_cell HX.out.y.tx 4
    have t5 : W.cell? ⟨w.heap.size + 1 + 1, 5, none⟩ = _ := blk_cell HX.out.y.tx 5
    have t6 : W.cell? ⟨w.heap.size + 1 + 1, 6, none⟩ = _ := blk_cell HX.out.y.tx 6
    have t7 : W.cell? ⟨w.heap.size + 1 + 1, 7, none⟩ = _ := blk_cell HX.out.y.tx 7
    have t8 : W.cell? ⟨w.heap.size + 1 + 1, 8, none⟩ = _ := blk_cell HX.out.y.tx 8
    simp only [List.getElem?_toArray, List.getElem?_cons_zero, List.getElem?_cons_succ] at h0 h1 h2 h3 h4 h5 h6 h7 h8 t0 t1 t2 t3 t4 t5 t6 t7 t8
    go_wp2_with (first
      | (go_at_call 59
         with_reducible refine (In_End' (w.heap.size + 1) s9 0 6 _ hI.out HX.out.y.inn).mono ?_
         rintro e w2 ⟨rfl, hr⟩
         have HX := Lib.hid (HX.out.read hr)
         clear hr
         have q1 : w2.cell? ⟨w.heap.size + 1, 1, none⟩ = some (.int .i64 6) := blk_cell HX.out.y.inn 1
         have p1 := blk_frozen HX.out.y.inn 1
         have u0 := blk_frozen HX.out.y.tx 0
         have g0 := blk_frozen HX.out.y.res 0
         have g1 := blk_frozen HX.out.y.res 1
         have g2 := blk_frozen HX.out.y.res 2
         have g3 := blk_frozen HX.out.y.res 3
         have g4 := blk_frozen HX.out.y.res 4
         have g5 := blk_frozen HX.out.y.res 5
         have g6 := blk_frozen HX.out.y.res 6
         have g7 := blk_frozen HX.out.y.res 7
         have g8 := blk_frozen HX.out.y.res 8
         have h0 : w2.cell? ⟨w.heap.size, 0, none⟩ = _ := blk_cell HX.out.y.res 0
         have h1 : w2.cell? ⟨w.heap.size, 1, none⟩ = _ := blk_cell HX.out.y.res 1
         have h2 : w2.cell? ⟨w.heap.size, 2, none⟩ = _ := blk_cell HX.out.y.res 2
         have h3 : w2.cell? ⟨w.heap.size, 3, none⟩ = _ := blk_cell HX.out.y.res 3
         have h4 : w2.cell? ⟨w.heap.size, 4, none⟩ = _ := blk_cell HX.out.y.res 4
         have h5 : w2.cell? ⟨w.heap.size, 5, none⟩ = _ := blk_cell HX.out.y.res 5
         have h6 : w2.cell? ⟨w.heap.size, 6, none⟩ = _ := blk_cell HX.out.y.res 6
         have h7 : w2.cell? ⟨w.heap.size, 7, none⟩ = _ := blk_cell HX.out.y.res 7
         have h8 : w2.cell? ⟨w.heap.size, 8, none⟩ = _ := blk_cell HX.out.y.res 8
         have t0 : w2.cell? ⟨w.heap.size + 1 + 1, 0, none⟩ = _ := blk_cell HX.out.y.tx 0
         have t1 : w2.cell? ⟨w.heap.size + 1 + 1, 1, none⟩ = _ := blk_cell HX.out.y.tx 1
         have t2 : w2.cell? ⟨w.heap.size + 1 + 1, 2, none⟩ = _ := blk_cell HX.out.y.tx 2
         have t3 : w2.cell? ⟨w.heap.size + 1 + 1, 3, none⟩ = _ := blk_cell HX.out.y.tx 3
         have t4 : w2.cell? ⟨w.heap.size + 1 + 1, 4, none⟩ = _ := blk_cell HX.out.y.tx 4
         have t5 : w2.cell? ⟨w.heap.size + 1 + 1, 5, none⟩ = _ := blk_cell HX.out.y.tx 5
         have t6 : w2.cell? ⟨w.heap.size + 1 + 1, 6, none⟩ = _ := blk_cell HX.out.y.tx 6
         have t7 : w2.cell? ⟨w.heap.size + 1 + 1, 7, none⟩ = _ := blk_cell HX.out.y.tx 7
         have t8 : w2.cell? ⟨w.heap.size + 1 + 1, 8, none⟩ = _ := blk_cell HX.out.y.tx 8
         simp only [List.getElem?_toArray, List.getElem?_cons_zero, List.getElem?_cons_succ] at h0 h1 h2 h3 h4 h5 h6 h7 h8 t0 t1 t2 t3 t4 t5 t6 t7 t8
         skip))
    go_region_with (fail)
    all_goals go_wp2
    all_goals
      refine at_world (RdFr.made (HX.out.set0 (.int .i64 kd)) (.int .i64 0) (.string ⟨#[]⟩) (.string ⟨#[]⟩) (.int .u64 0) (.int .u64 0) (.string ⟨#[]⟩) (.string ⟨#[]⟩) (.slice none 0 0) (.slice none 0 0)).drew ?_
      clear q1 p1 u0 g0 g1 g2 g3 g4 g5 g6 g7 g8 h0 h1 h2 h3 h4 h5 h6 h7 h8 t0 t1 t2 t3 t4 t5 t6 t7 t8
      intro Z HZ
      have HZ := Lib.hid HZ
      have d0 : Z.cell? ⟨w.heap.size, 0, none⟩ = some (.int .i64 0) := blk_cell HZ.out.res 0
      have d1 : Z.cell? ⟨w.heap.size, 1, none⟩ = some (.string ⟨#[]⟩) := blk_cell HZ.out.res 1
      have d2 : Z.cell? ⟨w.heap.size, 2, none⟩ = some (.string ⟨#[]⟩) := blk_cell HZ.out.res 2
      have d3 : Z.cell? ⟨w.heap.size, 3, none⟩ = some (.int .u64 0) := blk_cell HZ.out.res 3
      have d4 : Z.cell? ⟨w.heap.size, 4, none⟩ = some (.int .u64 0) := blk_cell HZ.out.res 4
      have d5 : Z.cell? ⟨w.heap.size, 5, none⟩ = some (.string ⟨#[]⟩) := blk_cell HZ.out.res 5
      have d6 : Z.cell? ⟨w.heap.size, 6, none⟩ = some (.string ⟨#[]⟩) := blk_cell HZ.out.res 6
      have d7 : Z.cell? ⟨w.heap.size, 7, none⟩ = some (.slice none 0 0) := blk_cell HZ.out.res 7
      have d8 : Z.cell? ⟨w.heap.size, 8, none⟩ = some (.slice none 0 0) := blk_cell HZ.out.res 8
      simp [bodyPost, results, Tryd.results26, go_sem, d0, d1, d2, d3, d4, d5, d6, d7, d8]
      rw [hF.out]
      exact DP_err _ rfl HZ.out.low
  | true =>
    have hI := Lib.hid (show inE s9 0 = 0 from if_neg (by simp [hm]))
    obtain ⟨x, hx⟩ : ∃ x, ch kd f t am nc ky' vl rs ws = x := ⟨_, rfl⟩
    have hF0 : fin2 0 kd f t am nc ky' vl rs ws s9 = fin9 kd f t am nc ky' vl rs ws := (if_neg (by simp)).trans ((if_pos hk).trans (if_pos hm))
    have hX := Lib.hid hx
    clear hk hm
    by_cases h0 : x = 0
    · subst h0
      have hF := Lib.hid (hF0.trans (if_pos hx))
      clear hF0 hx
      have q1 : W.cell? ⟨w.heap.size + 1, 1, none⟩ = some (.int .i64 0) := blk_cell HX.out.y.inn 1
      have p1 := blk_frozen HX.out.y.inn 1
      have u0 := blk_frozen HX.out.y.tx 0
      have g0 := blk_frozen HX.out.y.res 0
      have g1 := blk_frozen HX.out.y.res 1
      have g2 := blk_frozen HX.out.y.res 2
      have g3 := blk_frozen HX.out.y.res 3
      have g4 := blk_frozen HX.out.y.res 4
      have g5 := blk_frozen HX.out.y.res 5
      have g6 := blk_frozen HX.out.y.res 6
      have g7 := blk_frozen HX.out.y.res 7
      have g8 := blk_frozen HX.out.y.res 8
      have h0 : W.cell? ⟨w.heap.size, 0, none⟩ = _ := blk_cell HX.out.y.res 0
      have h1 : W.cell? ⟨w.heap.size, 1, none⟩ = _ := blk_cell HX.out.y.res 1
      have h2 : W.cell? ⟨w.heap.size, 2, none⟩ = _ := blk_cell HX.out.y.res 2
      have h3 : W.cell? ⟨w.heap.size, 3, none⟩ = _ := blk_cell HX.out.y.res 3
      have h4 : W.cell? ⟨w.heap.size, 4, none⟩ = _ := blk_cell HX.out.y.res 4
      have h5 : W.cell? ⟨w.heap.size, 5, none⟩ = _ := blk_cell HX.out.y.res 5
      have h6 : W.cell? ⟨w.heap.size, 6, none⟩ = _ := blk_cell HX.out.y.res 6
      have h7 : W.cell? ⟨w.heap.size, 7, none⟩ = _ := blk_cell HX.out.y.res 7
      have h8 : W.cell? ⟨w.heap.size, 8, none⟩ = _ := blk_cell HX.out.y.res 8
      have t0 : W.cell? ⟨w.heap.size + 1 + 1, 0, none⟩ = _ := blk_cell HX.out.y.tx 0
      have t1 : W.cell? ⟨w.heap.size + 1 + 1, 1, none⟩ = _ := blk_cell HX.out.y.tx 1
      have t2 : W.cell? ⟨w.heap.size + 1 + 1, 2, none⟩ = _ := blk_cell HX.out.y.tx 2
      have t3 : W.cell? ⟨w.heap.size + 1 + 1, 3, none⟩ = _ := blk_cell HX.out.y.tx 3
      have t4 : W.cell? ⟨w.heap.size + 1 + 1, 4, none⟩ = _ := blk_cell HX.out.y.tx 4
      have t5 : W.cell? ⟨w.heap.size + 1 + 1, 5, none⟩ = _ := blk_cell HX.out.y.tx 5
      have t6 : W.cell? ⟨w.heap.size + 1 + 1, 6, none⟩ = _ := blk_cell HX.out.y.tx 6
      have t7 : W.cell? ⟨w.heap.size + 1 + 1, 7, none⟩ = _ := blk_cell HX.out.y.tx 7
      have t8 : W.cell? ⟨w.heap.size + 1 + 1, 8, none⟩ = _ := blk_cell HX.out.y.tx 8
      simp only [List.getElem?_toArray, List.getElem?_cons_zero, List.getElem?_cons_succ] at h0 h1 h2 h3 h4 h5 h6 h7 h8 t0 t1 t2 t3 t4 t5 t6 t7 t8
      go_wp2_with (first
        | (go_at_call 59
           with_reducible refine (In_End' (w.heap.size + 1) s9 0 0 _ hI.out HX.out.y.inn).mono ?_
           rintro e w2 ⟨rfl, hr⟩
           have HX := Lib.hid (HX.out.read hr)
           clear hr
           have q1 : w2.cell? ⟨w.heap.size + 1, 1, none⟩ = some (.int .i64 0) := blk_cell HX.out.y.inn 1
           have p1 := blk_frozen HX.out.y.inn 1
           have u0 := blk_frozen HX.out.y.tx 0
           have g0 := blk_frozen HX.out.y.res 0
           have g1 := blk_frozen HX.out.y.res 1
           have g2 := blk_frozen HX.out.y.res 2
           have g3 := blk_frozen HX.out.y.res 3
           have g4 := blk_frozen HX.out.y.res 4
           have g5 := blk_frozen HX.out.y.res 5
           have g6 := blk_frozen HX.out.y.res 6
           have g7 := blk_frozen HX.out.y.res 7
           have g8 := blk_frozen HX.out.y.res 8
           have h0 : w2.cell? ⟨w.heap.size, 0, none⟩ = _ := blk_cell HX.out.y.res 0
           have h1 : w2.cell? ⟨w.heap.size, 1, none⟩ = _ := blk_cell HX.out.y.res 1
           have h2 : w2.cell? ⟨w.heap.size, 2, none⟩ = _ := blk_cell HX.out.y.res 2
           have h3 : w2.cell? ⟨w.heap.size, 3, none⟩ = _ := blk_cell HX.out.y.res 3
           have h4 : w2.cell? ⟨w.heap.size, 4, none⟩ = _ := blk_cell HX.out.y.res 4
           have h5 : w2.cell? ⟨w.heap.size, 5, none⟩ = _ := blk_cell HX.out.y.res 5
           have h6 : w2.cell? ⟨w.heap.size, 6, none⟩ = _ := blk_cell HX.out.y.res 6
           have h7 : w2.cell? ⟨w.heap.size, 7, none⟩ = _ := blk_cell HX.out.y.res 7
           have h8 : w2.cell? ⟨w.heap.size, 8, none⟩ = _ := blk_cell HX.out.y.res 8
           have t0 : w2.cell? ⟨w.heap.size + 1 + 1, 0, none⟩ = _ := blk_cell HX.out.y.tx 0
           have t1 : w2.cell? ⟨w.heap.size + 1 + 1, 1, none⟩ = _ := blk_cell HX.out.y.tx 1
           have t2 : w2.cell? ⟨w.heap.size + 1 + 1, 2, none⟩ = _ := blk_cell HX.out.y.tx 2
           have t3 : w2.cell? ⟨w.heap.size + 1 + 1, 3, none⟩ = _ := blk_cell HX.out.y.tx 3
           have t4 : w2.cell? ⟨w.heap.size + 1 + 1, 4, none⟩ = _ := blk_cell HX.out.y.tx 4
           have t5 : w2.cell? ⟨w.heap.size + 1 + 1, 5, none⟩ = _ := blk_cell HX.out.y.tx 5
           have t6 : w2.cell? ⟨w.heap.size + 1 + 1, 6, none⟩ = _ := blk_cell HX.out.y.tx 6
           have t7 : w2.cell? ⟨w.heap.size + 1 + 1, 7, none⟩ = _ := blk_cell HX.out.y.tx 7
           have t8 : w2.cell? ⟨w.heap.size + 1 + 1, 8, none⟩ = _ := blk_cell HX.out.y.tx 8
           simp only [List.getElem?_toArray, List.getElem?_cons_zero, List.getElem?_cons_succ] at h0 h1 h2 h3 h4 h5 h6 h7 h8 t0 t1 t2 t3 t4 t5 t6 t7 t8
           skip)
        | (go_at_call 42
           have HX := Lib.hid (HX.out.set0 (.int .i64 kd))
           go_must (with_reducible refine (chk2' kd f t am nc ky' vl A7 A8 c7 c8 rs ws _ M 0 hX.out (C_of_R HX.out.r7) L7.out (C_of_R HX.out.r8) L8.out HM.out).mono ?_)
           rintro e w2 ⟨rfl, hB⟩
           have HX := Lib.hid (HX.out.step hB)
           clear hB
           have q1 : w2.cell? ⟨w.heap.size + 1, 1, none⟩ = some (.int .i64 0) := blk_cell HX.out.y.inn 1
           have p1 := blk_frozen HX.out.y.inn 1
           have u0 := blk_frozen HX.out.y.tx 0
           have g0 := blk_frozen HX.out.y.res 0
           have g1 := blk_frozen HX.out.y.res 1
           have g2 := blk_frozen HX.out.y.res 2
           have g3 := blk_frozen HX.out.y.res 3
           have g4 := blk_frozen HX.out.y.res 4
           have g5 := blk_frozen HX.out.y.res 5
           have g6 := blk_frozen HX.out.y.res 6
           have g7 := blk_frozen HX.out.y.res 7
           have g8 := blk_frozen HX.out.y.res 8
           have h0 : w2.cell? ⟨w.heap.size, 0, none⟩ = _ := blk_cell HX.out.y.res 0
           have h1 : w2.cell? ⟨w.heap.size, 1, none⟩ = _ := blk_cell HX.out.y.res 1
           have h2 : w2.cell? ⟨w.heap.size, 2, none⟩ = _ := blk_cell HX.out.y.res 2
           have h3 : w2.cell? ⟨w.heap.size, 3, none⟩ = _ := blk_cell HX.out.y.res 3
           have h4 : w2.cell? ⟨w.heap.size, 4, none⟩ = _ := blk_cell HX.out.y.res 4
           have h5 : w2.cell? ⟨w.heap.size, 5, none⟩ = _ := blk_cell HX.out.y.res 5
           have h6 : w2.cell? ⟨w.heap.size, 6, none⟩ = _ := blk_cell HX.out.y.res 6
           have h7 : w2.cell? ⟨w.heap.size, 7, none⟩ = _ := blk_cell HX.out.y.res 7
           have h8 : w2.cell? ⟨w.heap.size, 8, none⟩ = _ := blk_cell HX.out.y.res 8
           have t0 : w2.cell? ⟨w.heap.size + 1 + 1, 0, none⟩ = _ := blk_cell HX.out.y.tx 0
           have t1 : w2.cell? ⟨w.heap.size + 1 + 1, 1, none⟩ = _ := blk_cell HX.out.y.tx 1
           have t2 : w2.cell? ⟨w.heap.size + 1 + 1, 2, none⟩ = _ := blk_cell HX.out.y.tx 2
           have t3 : w2.cell? ⟨w.heap.size + 1 + 1, 3, none⟩ = _ := blk_cell HX.out.y.tx 3
           have t4 : w2.cell? ⟨w.heap.size + 1 + 1, 4, none⟩ = _ := blk_cell HX.out.y.tx 4
           have t5 : w2.cell? ⟨w.heap.size + 1 + 1, 5, none⟩ = _ := blk_cell HX.out.y.tx 5
           have t6 : w2.cell? ⟨w.heap.size + 1 + 1, 6, none⟩ = _ := blk_cell HX.out.y.tx 6
           have t7 : w2.cell? ⟨w.heap.size + 1 + 1, 7, none⟩ = _ := blk_cell HX.out.y.tx 7
           have t8 : w2.cell? ⟨w.heap.size + 1 + 1, 8, none⟩ = _ := blk_cell HX.out.y.tx 8
           simp only [List.getElem?_toArray, List.getElem?_cons_zero, List.getElem?_cons_succ] at h0 h1 h2 h3 h4 h5 h6 h7 h8 t0 t1 t2 t3 t4 t5 t6 t7 t8
           skip))
      refine at_world (RdFr.made (HX.out.setE 0) (.int .i64 kd) (.string f) (.string t) (.int .u64 am) (.int .u64 nc) (.string ky') (.string vl) (.slice A7 rs.length c7) (.slice A8 ws.length c8)) ?_
      clear q1 p1 u0 g0 g1 g2 g3 g4 g5 g6 g7 g8 h0 h1 h2 h3 h4 h5 h6 h7 h8 t0 t1 t2 t3 t4 t5 t6 t7 t8
      intro Z HZ
      have HZ := Lib.hid HZ
      have d0 : Z.cell? ⟨w.heap.size, 0, none⟩ = some (.int .i64 kd) := blk_cell HZ.out.res 0
      have d1 : Z.cell? ⟨w.heap.size, 1, none⟩ = some (.string f) := blk_cell HZ.out.res 1
      have d2 : Z.cell? ⟨w.heap.size, 2, none⟩ = some (.string t) := blk_cell HZ.out.res 2
      have d3 : Z.cell? ⟨w.heap.size, 3, none⟩ = some (.int .u64 am) := blk_cell HZ.out.res 3
      have d4 : Z.cell? ⟨w.heap.size, 4, none⟩ = some (.int .u64 nc) := blk_cell HZ.out.res 4
      have d5 : Z.cell? ⟨w.heap.size, 5, none⟩ = some (.string ky') := blk_cell HZ.out.res 5
      have d6 : Z.cell? ⟨w.heap.size, 6, none⟩ = some (.string vl) := blk_cell HZ.out.res 6
      have d7 : Z.cell? ⟨w.heap.size, 7, none⟩ = some (.slice A7 rs.length c7) := blk_cell HZ.out.res 7
      have d8 : Z.cell? ⟨w.heap.size, 8, none⟩ = some (.slice A8 ws.length c8) := blk_cell HZ.out.res 8
      simp [bodyPost, results, Tryd.results26, go_sem, d0, d1, d2, d3, d4, d5, d6, d7, d8]
      rw [hF.out]
      exact ⟨_, _, rfl, Kd.R_reok rfl HZ.out.r7 P7.out.1, Kd.R_reok rfl HZ.out.r8 P7.out.2, HZ.out.low⟩
    · have x1 : (x == 0) = false := by simpa using h0
      have x2 : (x != 0) = true := by simp [bne, x1]
      have hF := Lib.hid (hF0.trans ((if_neg (fun e => h0 (hx.symm.trans e))).trans (by rw [hx])))
      have hF := Lib.hid (show fin2 0 kd f t am nc ky' vl rs ws s9 = derr x from hF.out)
      clear hF0 hx h0
      have q1 : W.cell? ⟨w.heap.size + 1, 1, none⟩ = some (.int .i64 0) := blk_cell HX.out.y.inn 1
      have p1 := blk_frozen HX.out.y.inn 1
      have u0 := blk_frozen HX.out.y.tx 0
      have g0 := blk_frozen HX.out.y.res 0
      have g1 := blk_frozen HX.out.y.res 1
      have g2 := blk_frozen HX.out.y.res 2
      have g3 := blk_frozen HX.out.y.res 3
      have g4 := blk_frozen HX.out.y.res 4
      have g5 := blk_frozen HX.out.y.res 5
      have g6 := blk_frozen HX.out.y.res 6
      have g7 := blk_frozen HX.out.y.res 7
      have g8 := blk_frozen HX.out.y.res 8
      have h0 : W.cell? ⟨w.heap.size, 0, none⟩ = _ := blk_cell HX.out.y.res 0
      have h1 : W.cell? ⟨w.heap.size, 1, none⟩ = _ := blk_cell HX.out.y.res 1
      have h2 : W.cell? ⟨w.heap.size, 2, none⟩ = _ := blk_cell HX.out.y.res 2
      have h3 : W.cell? ⟨w.heap.size, 3, none⟩ = _ := blk_cell HX.out.y.res 3
      have h4 : W.cell? ⟨w.heap.size, 4, none⟩ = _ := blk_cell HX.out.y.res 4
      have h5 : W.cell? ⟨w.heap.size, 5, none⟩ = _ := blk_cell HX.out.y.res 5
      have h6 : W.cell? ⟨w.heap.size, 6, none⟩ = _ := blk_cell HX.out.y.res 6
      have h7 : W.cell? ⟨w.heap.size, 7, none⟩ = _ := blk_cell HX.out.y.res 7
      have h8 : W.cell? ⟨w.heap.size, 8, none⟩ = _ := blk_cell HX.out.y.res 8
      have t0 : W.cell? ⟨w.heap.size + 1 + 1, 0, none⟩ = _ := blk_cell HX.out.y.tx 0
      have t1 : W.cell? ⟨w.heap.size + 1 + 1, 1, none⟩ = _ := blk_cell HX.out.y.tx 1
      have t2 : W.cell? ⟨w.heap.size + 1 + 1, 2, none⟩ = _ := blk_cell HX.out.y.tx 2
      have t3 : W.cell? ⟨w.heap.size + 1 + 1, 3, none⟩ = _ := blk_cell HX.out.y.tx 3
      have t4 : W.cell? ⟨w.heap.size + 1 + 1, 4, none⟩ = _ := blk_cell HX.out.y.tx 4
      have t5 : W.cell? ⟨w.heap.size + 1 + 1, 5, none⟩ = _ := blk_cell HX.out.y.tx 5
      have t6 : W.cell? ⟨w.heap.size + 1 + 1, 6, none⟩ = _ := blk_cell HX.out.y.tx 6
      have t7 : W.cell? ⟨w.heap.size + 1 + 1, 7, none⟩ = _ := blk_cell HX.out.y.tx 7
      have t8 : W.cell? ⟨w.heap.size + 1 + 1, 8, none⟩ = _ := blk_cell HX.out.y.tx 8
      simp only [List.getElem?_toArray, List.getElem?_cons_zero, List.getElem?_cons_succ] at h0 h1 h2 h3 h4 h5 h6 h7 h8 t0 t1 t2 t3 t4 t5 t6 t7 t8
      go_wp2_with (first
        | (go_at_call 59
           with_reducible refine (In_End' (w.heap.size + 1) s9 0 0 _ hI.out HX.out.y.inn).mono ?_
           rintro e w2 ⟨rfl, hr⟩
           have HX := Lib.hid (HX.out.read hr)
           clear hr
           have q1 : w2.cell? ⟨w.heap.size + 1, 1, none⟩ = some (.int .i64 0) := blk_cell HX.out.y.inn 1
           have p1 := blk_frozen HX.out.y.inn 1
           have u0 := blk_frozen HX.out.y.tx 0
           have g0 := blk_frozen HX.out.y.res 0
           have g1 := blk_frozen HX.out.y.res 1
           have g2 := blk_frozen HX.out.y.res 2
           have g3 := blk_frozen HX.out.y.res 3
           have g4 := blk_frozen HX.out.y.res 4
           have g5 := blk_frozen HX.out.y.res 5
           have g6 := blk_frozen HX.out.y.res 6
           have g7 := blk_frozen HX.out.y.res 7
           have g8 := blk_frozen HX.out.y.res 8
           have h0 : w2.cell? ⟨w.heap.size, 0, none⟩ = _ := blk_cell HX.out.y.res 0
           have h1 : w2.cell? ⟨w.heap.size, 1, none⟩ = _ := blk_cell HX.out.y.res 1
           have h2 : w2.cell? ⟨w.heap.size, 2, none⟩ = _ := blk_cell HX.out.y.res 2
           have h3 : w2.cell? ⟨w.heap.size, 3, none⟩ = _ := blk_cell HX.out.y.res 3
           have h4 : w2.cell? ⟨w.heap.size, 4, none⟩ = _ := blk_cell HX.out.y.res 4
           have h5 : w2.cell? ⟨w.heap.size, 5, none⟩ = _ := blk_cell HX.out.y.res 5
           have h6 : w2.cell? ⟨w.heap.size, 6, none⟩ = _ := blk_cell HX.out.y.res 6
           have h7 : w2.cell? ⟨w.heap.size, 7, none⟩ = _ := blk_cell HX.out.y.res 7
           have h8 : w2.cell? ⟨w.heap.size, 8, none⟩ = _ := blk_cell HX.out.y.res 8
           have t0 : w2.cell? ⟨w.heap.size + 1 + 1, 0, none⟩ = _ := blk_cell HX.out.y.tx 0
           have t1 : w2.cell? ⟨w.heap.size + 1 + 1, 1, none⟩ = _ := blk_cell HX.out.y.tx 1
           have t2 : w2.cell? ⟨w.heap.size + 1 + 1, 2, none⟩ = _ := blk_cell HX.out.y.tx 2
           have t3 : w2.cell? ⟨w.heap.size + 1 + 1, 3, none⟩ = _ := blk_cell HX.out.y.tx 3
           have t4 : w2.cell? ⟨w.heap.size + 1 + 1, 4, none⟩ = _ := blk_cell HX.out.y.tx 4
           have t5 : w2.cell? ⟨w.heap.size + 1 + 1, 5, none⟩ = _ := blk_cell HX.out.y.tx 5
           have t6 : w2.cell? ⟨w.heap.size + 1 + 1, 6, none⟩ = _ := blk_cell HX.out.y.tx 6
           have t7 : w2.cell? ⟨w.heap.size + 1 + 1, 7, none⟩ = _ := blk_cell HX.out.y.tx 7
           have t8 : w2.cell? ⟨w.heap.size + 1 + 1, 8, none⟩ = _ := blk_cell HX.out.y.tx 8
           simp only [List.getElem?_toArray, List.getElem?_cons_zero, List.getElem?_cons_succ] at h0 h1 h2 h3 h4 h5 h6 h7 h8 t0 t1 t2 t3 t4 t5 t6 t7 t8
           skip)
        | (go_at_call 42
           have HX := Lib.hid (HX.out.set0 (.int .i64 kd))
           go_must (with_reducible refine (chk2' kd f t am nc ky' vl A7 A8 c7 c8 rs ws _ M x hX.out (C_of_R HX.out.r7) L7.out (C_of_R HX.out.r8) L8.out HM.out).mono ?_)
           rintro e w2 ⟨rfl, hB⟩
           have HX := Lib.hid (HX.out.step hB)
           clear hB
           have q1 : w2.cell? ⟨w.heap.size + 1, 1, none⟩ = some (.int .i64 0) := blk_cell HX.out.y.inn 1
           have p1 := blk_frozen HX.out.y.inn 1
           have u0 := blk_frozen HX.out.y.tx 0
           have g0 := blk_frozen HX.out.y.res 0
           have g1 := blk_frozen HX.out.y.res 1
           have g2 := blk_frozen HX.out.y.res 2
           have g3 := blk_frozen HX.out.y.res 3
           have g4 := blk_frozen HX.out.y.res 4
           have g5 := blk_frozen HX.out.y.res 5
           have g6 := blk_frozen HX.out.y.res 6
           have g7 := blk_frozen HX.out.y.res 7
           have g8 := blk_frozen HX.out.y.res 8
           have h0 : w2.cell? ⟨w.heap.size, 0, none⟩ = _ := blk_cell HX.out.y.res 0
           have h1 : w2.cell? ⟨w.heap.size, 1, none⟩ = _ := blk_cell HX.out.y.res 1
           have h2 : w2.cell? ⟨w.heap.size, 2, none⟩ = _ := blk_cell HX.out.y.res 2
           have h3 : w2.cell? ⟨w.heap.size, 3, none⟩ = _ := blk_cell HX.out.y.res 3
           have h4 : w2.cell? ⟨w.heap.size, 4, none⟩ = _ := blk_cell HX.out.y.res 4
           have h5 : w2.cell? ⟨w.heap.size, 5, none⟩ = _ := blk_cell HX.out.y.res 5
           have h6 : w2.cell? ⟨w.heap.size, 6, none⟩ = _ := blk_cell HX.out.y.res 6
           have h7 : w2.cell? ⟨w.heap.size, 7, none⟩ = _ := blk_cell HX.out.y.res 7
           have h8 : w2.cell? ⟨w.heap.size, 8, none⟩ = _ := blk_cell HX.out.y.res 8
           have t0 : w2.cell? ⟨w.heap.size + 1 + 1, 0, none⟩ = _ := blk_cell HX.out.y.tx 0
           have t1 : w2.cell? ⟨w.heap.size + 1 + 1, 1, none⟩ = _ := blk_cell HX.out.y.tx 1
           have t2 : w2.cell? ⟨w.heap.size + 1 + 1, 2, none⟩ = _ := blk_cell HX.out.y.tx 2
           have t3 : w2.cell? ⟨w.heap.size + 1 + 1, 3, none⟩ = _ := blk_cell HX.out.y.tx 3
           have t4 : w2.cell? ⟨w.heap.size + 1 + 1, 4, none⟩ = _ := blk_cell HX.out.y.tx 4
           have t5 : w2.cell? ⟨w.heap.size + 1 + 1, 5, none⟩ = _ := blk_cell HX.out.y.tx 5
           have t6 : w2.cell? ⟨w.heap.size + 1 + 1, 6, none⟩ = _ := blk_cell HX.out.y.tx 6
           have t7 : w2.cell? ⟨w.heap.size + 1 + 1, 7, none⟩ = _ := blk_cell HX.out.y.tx 7
           have t8 : w2.cell? ⟨w.heap.size + 1 + 1, 8, none⟩ = _ := blk_cell HX.out.y.tx 8
           simp only [List.getElem?_toArray, List.getElem?_cons_zero, List.getElem?_cons_succ] at h0 h1 h2 h3 h4 h5 h6 h7 h8 t0 t1 t2 t3 t4 t5 t6 t7 t8
           skip))
      go_region_with (fail)
      all_goals go_wp2
      all_goals
        refine at_world (RdFr.made (HX.out.setE x) (.int .i64 0) (.string ⟨#[]⟩) (.string ⟨#[]⟩) (.int .u64 0) (.int .u64 0) (.string ⟨#[]⟩) (.string ⟨#[]⟩) (.slice none 0 0) (.slice none 0 0)).drew ?_
        clear q1 p1 u0 g0 g1 g2 g3 g4 g5 g6 g7 g8 h0 h1 h2 h3 h4 h5 h6 h7 h8 t0 t1 t2 t3 t4 t5 t6 t7 t8
        intro Z HZ
        have HZ := Lib.hid HZ
        have d0 : Z.cell? ⟨w.heap.size, 0, none⟩ = some (.int .i64 0) := blk_cell HZ.out.res 0
        have d1 : Z.cell? ⟨w.heap.size, 1, none⟩ = some (.string ⟨#[]⟩) := blk_cell HZ.out.res 1
        have d2 : Z.cell? ⟨w.heap.size, 2, none⟩ = some (.string ⟨#[]⟩) := blk_cell HZ.out.res 2
        have d3 : Z.cell? ⟨w.heap.size, 3, none⟩ = some (.int .u64 0) := blk_cell HZ.out.res 3
        have d4 : Z.cell? ⟨w.heap.size, 4, none⟩ = some (.int .u64 0) := blk_cell HZ.out.res 4
        have d5 : Z.cell? ⟨w.heap.size, 5, none⟩ = some (.string ⟨#[]⟩) := blk_cell HZ.out.res 5
        have d6 : Z.cell? ⟨w.heap.size, 6, none⟩ = some (.string ⟨#[]⟩) := blk_cell HZ.out.res 6
        have d7 : Z.cell? ⟨w.heap.size, 7, none⟩ = some (.slice none 0 0) := blk_cell HZ.out.res 7
        have d8 : Z.cell? ⟨w.heap.size, 8, none⟩ = some (.slice none 0 0) := blk_cell HZ.out.res 8
        simp [bodyPost, results, Tryd.results26, go_sem, d0, d1, d2, d3, d4, d5, d6, d7, d8]
        rw [hF.out]
        exact DP_err _ rfl HZ.out.low
end Go.Proofs.YtndicjikjcifaaaDoor

