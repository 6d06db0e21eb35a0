/- wire.List: texts as bytes, through a strings.Builder. -/
import Derived.Test.YtndicjikjcifaaaDoorTxchk
import Derived.Test.YtndicjikjcifaaaDoorInts
import Derived.Test.YtndicjikjcifaaaDoorPWix1
import Derived.Shelf.Strings.Builder1
namespace Go.Proofs
open Go.Shelf
def Tryd.lays166_ren : Go.Shelf.Ren := ⟨fun | 166 => 84 | 240 => 96 | 276 => 122 | n => n, fun | 0 => 0 | 3 => 3 | 4 => 4 | 5 => 5 | 9 => 9 | 20 => 20 | 37 => 104 | 70 => 106 | 72 => 108 | 75 => 110 | 80 => 79 | 164 => 151 | n => n, fun n => n⟩
theorem Tryd.lays166 : Lays.n166 Tryd.prog Tryd.lays166_ren := {
  mixed := by kernel_rfl
  f166 := Tryd.func84.trans (congrArg some (by kernel_rfl))
  f240 := Tryd.func96.trans (congrArg some (by kernel_rfl))
  f276 := Tryd.func122.trans (congrArg some (by kernel_rfl))
  t0 := Tryd.underlying0
  a0 := Tryd.isAgg0
  z0 := Tryd.sizeOf0
  v0 := Tryd.zeroValue0
  t3 := Tryd.underlying3
  a3 := Tryd.isAgg3
  z3 := Tryd.sizeOf3
  v3 := Tryd.zeroValue3
  t4 := Tryd.underlying4
  a4 := Tryd.isAgg4
  z4 := Tryd.sizeOf4
  v4 := Tryd.zeroValue4
  t9 := Tryd.underlying9
  a9 := Tryd.isAgg9
  z9 := Tryd.sizeOf9
  v9 := Tryd.zeroValue9
  t20 := Tryd.underlying20
  a20 := Tryd.isAgg20
  z20 := Tryd.sizeOf20
  v20 := Tryd.zeroValue20
  t37 := Tryd.underlying104
  a37 := Tryd.isAgg104
  z37 := Tryd.sizeOf104
  v37 := Tryd.zeroValue104
  t70 := Tryd.underlying106
  a70 := Tryd.isAgg106
  z70 := Tryd.sizeOf106
  v70 := Tryd.zeroValue106
  t72 := Tryd.underlying108
  a72 := Tryd.isAgg108
  z72 := Tryd.sizeOf108
  v72 := Tryd.zeroValue108
  t75 := Tryd.underlying110
  a75 := Tryd.isAgg110
  z75 := Tryd.sizeOf110
  v75 := Tryd.zeroValue110
  t164 := Tryd.underlying151
  a164 := Tryd.isAgg151
  z164 := Tryd.sizeOf151
  v164 := Tryd.zeroValue151 }
theorem Tryd.Builder_Extra_166 : Builder.Extra Tryd.prog Tryd.lays166_ren := {
  sizeBuilder := by kernel_rfl
  liesBuilder := by kernel_rfl
  t5 := Tryd.underlying5
  a5 := Tryd.isAgg5
  z5 := Tryd.sizeOf5
  v5 := Tryd.zeroValue5
  infoByte := by kernel_rfl
  cellsByte := by kernel_rfl
  sizeByte := by kernel_rfl
  neB5 := by decide }
def Tryd.lays169_ren : Go.Shelf.Ren := ⟨fun | 169 => 85 | n => n, fun | 70 => 106 | 9 => 9 | 0 => 0 | 72 => 108 | 37 => 104 | 127 => 123 | 3 => 3 | 5 => 5 | n => n, fun | n => n⟩
theorem Tryd.lays169 : Go.Proofs.Lays.n169 Tryd.prog Tryd.lays169_ren := {
  mixed := by kernel_rfl
  f169 := Tryd.func85.trans (congrArg some (by kernel_rfl))
  t0 := Tryd.underlying0
  a0 := Tryd.isAgg0
  z0 := Tryd.sizeOf0
  v0 := Tryd.zeroValue0
  t3 := Tryd.underlying3
  a3 := Tryd.isAgg3
  z3 := Tryd.sizeOf3
  v3 := Tryd.zeroValue3
  t9 := Tryd.underlying9
  a9 := Tryd.isAgg9
  z9 := Tryd.sizeOf9
  v9 := Tryd.zeroValue9
  t37 := Tryd.underlying104
  a37 := Tryd.isAgg104
  z37 := Tryd.sizeOf104
  v37 := Tryd.zeroValue104
  t70 := Tryd.underlying106
  a70 := Tryd.isAgg106
  z70 := Tryd.sizeOf106
  v70 := Tryd.zeroValue106
  t72 := Tryd.underlying108
  a72 := Tryd.isAgg108
  z72 := Tryd.sizeOf108
  v72 := Tryd.zeroValue108
  t127 := Tryd.underlying123
  a127 := Tryd.isAgg123
  z127 := Tryd.sizeOf123
  v127 := Tryd.zeroValue123 }
theorem Tryd.Builder_Extra_169 : Builder.Extra Tryd.prog Tryd.lays169_ren := {
  sizeBuilder := by kernel_rfl
  liesBuilder := by kernel_rfl
  t5 := Tryd.underlying5
  a5 := Tryd.isAgg5
  z5 := Tryd.sizeOf5
  v5 := Tryd.zeroValue5
  infoByte := by kernel_rfl
  cellsByte := by kernel_rfl
  sizeByte := by kernel_rfl
  neB5 := by decide }
end Go.Proofs
namespace Go.Proofs.YtndicjikjcifaaaDoor
open Go.RowKit Go.Shelf Go.Lib Go.Proofs.YtndicjikjcifaaaDoorW.PrintWords Go.Proofs.YtndicjikjcifaaaDoorW.PrintLast
set_option linter.unusedVariables false
set_option linter.unusedSimpArgs false

/-- A number's bytes; a text's bytes; texts' bytes. -/
def ib (n : Int) : ByteArray := if n < 0 ∨ n > 4611686018427387903 then ⟨#[]⟩ else strOfNums (vints n.toNat)
def tb (s : ByteArray) : ByteArray := ib s.size ++ s
def tbs : List ByteArray → List UInt8
  | [] => []
  | x :: r => (tb x).data.toList ++ tbs r
def lbL (xs : List ByteArray) : List UInt8 := (ib xs.length).data.toList ++ tbs xs
def lb (xs : List ByteArray) : ByteArray := ⟨(lbL xs).toArray⟩
theorem tbs_append (a b : List ByteArray) : tbs (a ++ b) = tbs a ++ tbs b := by
  induction a with
  | nil => rfl
  | cons x r ih => simp [tbs, ih]
theorem tb_append (a b : ByteArray) : (a ++ b).data.toList = a.data.toList ++ b.data.toList := by
  simp
theorem text_calls (x : ByteArray) (w : World) (h : (tb x).size ≤ 9223372036854775807) :
    Calls Tryd.prog 68 #[.string x] w fun e w' => e = .returned (.string (tb x)) ∧ Below w.heap.size w w' := by
  refine PWi.wire_Text.calls x (tb x) w ?_
  rw [PWi.wire_Text.f, show wire_Int.f (x.size : Int) = some (ib x.size) from rfl, Option.bind_some, if_pos]
  · rfl
  · have : (tb x).size = (ib x.size).size + x.size := ByteArray.size_append
    omega
theorem int_calls (n : Int) (w : World) : Calls Tryd.prog 62 #[.int .i64 n] w fun e w' => e = .returned (.string (ib n)) ∧ Below w.heap.size w w' :=
  wire_Int.calls n (ib n) w rfl
theorem write_calls (B b : Nat) (l : List UInt8) (s : ByteArray) (w : World) (h : Lib.IsBuilder 108 5 B b (Lib.byteCells l) w) (hlen : l.length + s.size ≤ 140737488355328) (hBw : B ≤ w.heap.size) :
    Calls Tryd.prog 84 #[.pointer (some ⟨b, 0, none⟩), .string s] w fun e w' => e = .returned (.tuple #[.int .i64 s.size, .nilIface]) ∧ Lib.IsBuilder 108 5 B b (Lib.byteCells (l ++ s.data.toList)) w' ∧ Below B w w' := by
  have := Any.Builder_WriteString Tryd.lays166 Tryd.Builder_Extra_166 B b (Lib.byteCells l) s w h (by rw [Lib.byteCells_length]; exact hlen) hBw
  refine this.mono fun e w' h => ⟨h.1, .inr ?_, h.2.2⟩
  have e1 : Lib.byteCells l ++ Lib.strCells s = Lib.byteCells (l ++ s.data.toList) := by simp [Lib.byteCells, Lib.strCells]
  rw [← e1]
  exact h.2.1
theorem string_calls (B b : Nat) (l : List UInt8) (w : World) (h : Lib.IsBuilder 108 5 B b (Lib.byteCells l) w) (hBw : B ≤ w.heap.size) :
    Calls Tryd.prog 85 #[.pointer (some ⟨b, 0, none⟩)] w fun e w' => e = .returned (.string ⟨l.toArray⟩) ∧ Below B w w' :=
  Any.Builder_String_any Tryd.lays169 Tryd.Builder_Extra_169 B b l w h hBw
theorem builder_below {B b : Nat} {l : List UInt8} {w w' : World} (h : Lib.IsBuilder 108 5 B b (Lib.byteCells l) w) (hb : Below w.heap.size w w') : Lib.IsBuilder 108 5 B b (Lib.byteCells l) w' := by
  have go : ∀ p, Lib.BuilderAt 108 5 B b p (Lib.byteCells l) w → Lib.BuilderAt 108 5 B b p (Lib.byteCells l) w' := by
    rintro p ⟨hB, v, hv, hown, hne⟩
    refine ⟨hB, v, (hb.block b (blk_lt hv)).trans hv, ?_, hne⟩
    refine own_move hown fun k hk => ?_
    obtain ⟨cells, hc⟩ := own_typed hown k hk
    exact hb.block k (blk_lt hc)
  exact h.elim (fun h => .inl (go _ h)) (fun h => .inr (go _ h))
theorem builder_new (w : World) : Lib.IsBuilder 108 5 w.heap.size w.heap.size (Lib.byteCells []) (w.alloc (.cells #[.pointer none, .slice none 0 0] 108)) :=
  .inl ⟨Nat.le_refl _, _, blk_new _ _, ⟨rfl, .inl ⟨rfl, rfl⟩⟩, by simp [Value.ownBlock]⟩

theorem tbs_len (xs : List ByteArray) (j : Nat) (hj : j < xs.length) : (tbs (xs.take j)).length + (tb (rdOf ByteArray.empty xs (j : Int))).size ≤ (tbs xs).length := by
  have e : xs = xs.take j ++ (rdOf ByteArray.empty xs (j : Int) :: xs.drop (j + 1)) := by
    have hd : xs.drop j = rdOf ByteArray.empty xs (j : Int) :: xs.drop (j + 1) := by
      rw [List.drop_eq_getElem_cons hj]
      congr 1
      simp [rdOf, hj]
    rw [← hd, List.take_append_drop]
  conv => rhs; rw [e]
  rw [tbs_append, tbs, List.length_append, List.length_append]
  have : (tb (rdOf ByteArray.empty xs (j : Int))).data.toList.length = (tb (rdOf ByteArray.empty xs (j : Int))).size := by rw [Array.length_toList]; rfl
  omega
theorem tbs_take (xs : List ByteArray) (j : Nat) (hj : j < xs.length) : tbs (xs.take (j + 1)) = tbs (xs.take j) ++ (tb (rdOf ByteArray.empty xs (j : Int))).data.toList := by
  have : xs.take (j + 1) = xs.take j ++ [rdOf ByteArray.empty xs (j : Int)] := by
    rw [List.take_succ_eq_append_getElem hj]
    congr 2
    simp [rdOf, hj]
  rw [this, tbs_append]
  simp [tbs]
set_option maxHeartbeats 8000000 in
set_option maxRecDepth 100000 in
theorem list_calls (A : Option Addr) (c : Nat) (xs : List ByteArray) (w : World) (hr : Kd.C Kd.string w A xs.length xs) (hc : xs.length ≤ c) (hb : (lbL xs).length ≤ 140737488355328) :
    Calls Tryd.prog 63 #[.slice A xs.length c] w fun e w' => e = .returned (.string (lb xs)) ∧ Below w.heap.size w w' := by
  have HR := Lib.hid hr
  have HL := Lib.hid (show (ib xs.length).size + (tbs xs).length ≤ 140737488355328 by
    have : (lbL xs).length = (ib xs.length).size + (tbs xs).length := by rw [lbL, List.length_append]; rfl
    omega)
  have HF := Lib.hid (show lb xs = ⟨((ib xs.length).data.toList ++ tbs xs).toArray⟩ from rfl)
  clear hr hb
  go_enter Tryd.func63, Tryd.ntmps63
  have HN := Lib.hid (builder_new w)
  have HB := Lib.hid ((Below.refl w.heap.size w).alloc (Nat.le_refl _) (.cells #[.pointer none, .slice none 0 0] 108))
  go_wp2_with (first
    | (go_at_call 62
       go_must (refine (int_calls _ _).mono ?_)
       rintro e w2 ⟨rfl, hB⟩
       have HN := Lib.hid (builder_below HN.out hB)
       have HB := Lib.hid (below_then HB.out HB.out.size hB)
       clear hB)
    | (go_at_call 84
       go_must (refine (write_calls w.heap.size w.heap.size [] (ib xs.length) _ HN.out (by have := HL.out; simp only [List.length_nil]; omega) HB.out.size).mono ?_)
       rintro e w2 ⟨rfl, hI, hB⟩
       have HN := Lib.hid hI
       have HB := Lib.hid (HB.out.trans hB)
       clear hB hI))
  have HN := Lib.hid (show Lib.IsBuilder 108 5 w.heap.size w.heap.size (Lib.byteCells ((ib xs.length).data.toList ++ tbs (xs.take 0))) w2 by simpa [tbs] using HN.out)
  have hl : xs.length < 9223372036854775808 := by have := Kd.C_max HR.out; omega
  go_loopg [5, 12, 13, 14, 15, 16, 17, 18, 19] xs.length (fun q v5 v12 v13 v14 v15 v16 v17 v18 v19 wr => ∃ j : Nat, v12 = .int .i64 j ∧ j ≤ xs.length ∧ q + j = xs.length ∧ Hid (Below w.heap.size w wr) ∧ Hid (Lib.IsBuilder 108 5 w.heap.size w.heap.size (Lib.byteCells ((ib xs.length).data.toList ++ tbs (xs.take j))) wr))
  case atStart => exact ⟨0, rfl, by omega, by omega, HB, HN⟩
  case round =>
    clear HN HB
    obtain ⟨j, rfl, hj, hq, HB, HN⟩ := hrel
    rcases Nat.eq_or_lt_of_le hj with hj | hj
    · have e2 : decide ((j : Int) < (xs.length : Int)) = false := by simp; omega
      subst hj
      go_wp2_with (first
        | (go_at_call 85
           go_must (refine (string_calls w.heap.size w.heap.size _ _ HN.out HB.out.size).mono ?_)
           rintro e w2 ⟨rfl, hB⟩
           have HB := Lib.hid (HB.out.trans hB)
           clear hB))
      go_ret
      exact ⟨by rw [HF.out]; rfl, HB.out⟩
    · have e2 : decide ((j : Int) < (xs.length : Int)) = true := by simp; omega
      have p1 := eq_true (show 0 ≤ (j : Int) by omega)
      have q1 := eq_true (show (j : Int) < (xs.length : Int) by omega)
      obtain ⟨ad, rfl, hx⟩ := Kd.at_string HR.out j (by omega) (by omega)
      have hx : wr.cell? (ad.add j) = some (.string (rdOf ByteArray.empty xs (j : Int))) := (HB.out.cell (World.block_lt_of_cell? w _ hx)).trans hx
      have hw : IntKind.i64.wrap ((j : Int) + 1) = ((j + 1 : Nat) : Int) := by rw [IntKind.wrap_i64]; omega
      have HT := Lib.hid (tbs_take xs j hj)
      have HS := Lib.hid (tbs_len xs j hj)
      go_wp2_with (first
        | (go_at_call 68
           go_must (refine (text_calls _ _ (by have := HS.out; have := HL.out; omega)).mono ?_)
           rintro e w2 ⟨rfl, hB⟩
           have HN := Lib.hid (builder_below HN.out hB)
           have HB := Lib.hid (below_then HB.out HB.out.size hB)
           clear hB)
        | (go_at_call 84
           go_must (refine (write_calls w.heap.size w.heap.size _ _ _ HN.out (by have := HS.out; have := HL.out; rw [List.length_append, Array.length_toList]; have e : (ib xs.length).data.size = (ib xs.length).size := rfl; omega) HB.out.size).mono ?_)
           rintro e w2 ⟨rfl, hI, hB⟩
           have HN := Lib.hid hI
           have HB := Lib.hid (HB.out.trans hB)
           clear hB hI))
      go_roundg (xs.length - (j + 1))
      case measure => omega
      case rel => exact ⟨j + 1, by simp, by omega, by omega, HB, by rw [HT.out, ← List.append_assoc]; exact HN⟩
/-- The printer's form. -/
def wire_List.f (l0 : List ByteArray) : Option ByteArray := if (lbL l0).length ≤ 140737488355328 then some (lb l0) else none
theorem wire_List.calls (A0 : Option Addr) (c0 : Nat) (l0 : List ByteArray) (r : ByteArray) (w : World) (hr0 : Kd.C Kd.string w A0 l0.length l0) (hc0 : l0.length ≤ c0) (h : wire_List.f l0 = some r) :
    Calls Tryd.prog 63 #[.slice A0 l0.length c0] w fun e w' => e = .returned (.string r) ∧ Below w.heap.size w w' := by
  unfold wire_List.f at h
  split at h
  · obtain rfl := Option.some.inj h
    exact list_calls A0 c0 l0 w hr0 hc0 (by assumption)
  · cases h
end Go.Proofs.YtndicjikjcifaaaDoor
