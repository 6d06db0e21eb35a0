/- Texts joined by wip/tools/slim2.py: Txenc, Benc, Batpl, Add, Tick, Rtick, Waits, Txdec, Inref, Refdec, Refdecb, Batpre, Batsame, Txneed, POwx0. -/
import Derived.Test.YtndicjikjcifaaaDoorJ2
import Derived.Test.YtndicjikjcifaaaDoorJ3
import Derived.Shelf.Strings.OnBuilder
import Derived.Deep.RegionHeld3
import Derived.Test.YtndicjikjcifaaaDoorJ1
import Derived.Test.YtndicjikjcifaaaDoorProg
import Derived.Shelf.Sort.Plain
import Derived.Shelf.Slices.CompactS
import Derived.Shelf.Slices.Turned
import Derived.Below
import Derived.Deep.Draws
import Derived.Deep.AppendLies
import Derived.Maps.AppendAt
import Derived.OwnWalk
import Derived.Laws.BytesArg
import Derived.Laws.MakeOwn
import Derived.Laws.OwnMore
import Derived.Deep.OwnRows
import Derived.Tactics
import Derived.Lib.ConvBytes
import Derived.Laws.Slices
import Derived.WalkKit
import Derived.KernelRfl
import Derived.RowKit3
import Derived.Deep.LoopGhost
import Derived.Deep.QuietTactic
import Derived.BigQuiet
import Derived.WideLaws
import Derived.Deep.DeepCutAuto
import Derived.Deep.CutBlock
import Derived.Laws.Rows
import Derived.Lib.AppendStr
import Derived.ArgAppend
import Derived.Laws.IdiomCopy
import Derived.OrdersHeld
import Derived.Laws.BitsLemmas
import Derived.RowKit
/- tx.Encode: a transaction's bytes. -/
namespace Go.Proofs
open Go.Shelf
theorem Tryd.Builder_Extra_156 : Builder.Extra Tryd.prog Tryd.lays156_ren := {
  sizeBuilder := by kernel_rfl
  liesBuilder := by kernel_rfl
  t5 := Tryd.underlying5
  a5 := Tryd.isAgg5
  z5 := Tryd.sizeOf5
  v5 := Tryd.zeroValue5
  infoByte := by kernel_rfl
  cellsByte := by kernel_rfl
  sizeByte := by kernel_rfl
  neB5 := by decide }
end Go.Proofs
namespace Go.Proofs.YtndicjikjcifaaaDoor
open Go.RowKit Go.Shelf Go.Lib Go.Proofs.YtndicjikjcifaaaDoorW.PrintWords Go.Proofs.YtndicjikjcifaaaDoorW.PrintLast
set_option linter.unusedVariables false
set_option linter.unusedSimpArgs false
theorem join_calls (bk c : Nat) (xs : List ByteArray) (w : World) (hcells : ∀ (j : Nat) x, xs[j]? = some x → w.cell? ⟨bk, 0 + j, none⟩ = some (.string x))
    (hbk : bk < w.heap.size) (hN : xs.length ≤ 140737488355328) (hcap : xs.length ≤ c) (hlen : (Lib.join (xs.map (·.data.toList)) []).length ≤ 140737488355328) :
    Calls Tryd.prog 69 #[.slice (some ⟨bk, 0, none⟩) xs.length c, .string ⟨#[]⟩] w fun e w' => e = .returned (.string ⟨(Lib.join (xs.map (·.data.toList)) []).toArray⟩) ∧ Below w.heap.size w w' :=
  Any.strings_Join Tryd.lays156 Tryd.Builder_Extra_156 bk 0 c xs ⟨#[]⟩ w hcells hbk hN hcap hlen
theorem vints_len : ∀ k n, n < 128 ^ (k + 1) → (vints n).length ≤ k + 1
  | 0, n, h => by
    rw [vints, dif_pos (by omega)]
    simp
  | k + 1, n, h => by
    rw [vints]
    split
    · simp
    · have := vints_len k (n / 128) (by rw [Nat.pow_succ] at h; omega)
      simp only [List.length_cons]
      omega
theorem ib_size (n : Int) : (ib n).size ≤ 9 := by
  unfold ib
  split
  · exact Nat.zero_le _
  · have h1 := vints_len 8 n.toNat (by omega)
    have h2 : (strOfNums (vints n.toNat)).size = (vints n.toNat).length := by simp [strOfNums, ByteArray.size]
    omega
theorem tb_size (x : ByteArray) : (tb x).size ≤ 9 + x.size := by
  have := ib_size x.size
  have e : (tb x).size = (ib x.size).size + x.size := ByteArray.size_append
  omega
theorem tbs_size (M : Nat) : ∀ xs : List ByteArray, (∀ x ∈ xs, x.size ≤ M) → (tbs xs).length ≤ xs.length * (9 + M)
  | [], _ => Nat.zero_le _
  | x :: r, h => by
    have h1 := tbs_size M r (fun y hy => h y (by simp [hy]))
    have h2 := tb_size x
    have h3 := h x (by simp)
    have e : (tb x).data.toList.length = (tb x).size := by rw [Array.length_toList]; rfl
    rw [tbs, List.length_append, List.length_cons, Nat.succ_mul]
    omega
theorem lb_size (M : Nat) (xs : List ByteArray) (h : ∀ x ∈ xs, x.size ≤ M) : (lbL xs).length ≤ 9 + xs.length * (9 + M) := by
  have h1 := tbs_size M xs h
  have h2 := ib_size xs.length
  have e : (ib xs.length).data.toList.length = (ib xs.length).size := by rw [Array.length_toList]; rfl
  rw [lbL, List.length_append]
  omega
theorem nm_size {s : ByteArray} (h : nm s = true) : s.size ≤ 32 := by
  have := of_decide_eq_true h
  exact this.2.1
theorem ky_size {s : ByteArray} (h : ky s = true) : s.size ≤ 34 := by
  unfold ky at h
  rw [Bool.and_eq_true, Bool.and_eq_true] at h
  have h1 := nm_size h.2
  rw [ByteArray.size_extract] at h1
  omega
theorem join_nil : ∀ l : List (List UInt8), Lib.join l [] = l.flatten
  | [] => rfl
  | [a] => by simp [Lib.join, List.intercalate]
  | a :: b :: r => by
    have := join_nil (b :: r)
    simp [Lib.join, List.intercalate, List.intersperse] at this ⊢
    exact this
theorem keL_size : ∀ p xs, keL p xs = 0 → ∀ x ∈ xs, x.size ≤ 34
  | _, [], _, x, hx => by simp at hx
  | p, s :: r, h, x, hx => by
    unfold keL at h
    cases hk : ky s with
    | false => rw [if_pos hk] at h; cases h
    | true =>
      rw [if_neg (by simp [hk])] at h
      have h2 : keL (some s) r = 0 := by
        cases p with
        | none => simpa using h
        | some q =>
          cases hl : lts q s with
          | false => simp [hl] at h
          | true => simpa [hl] using h
      rcases List.mem_cons.1 hx with rfl | hx
      · exact ky_size hk
      · exact keL_size _ _ h2 x hx
theorem ke_zero {xs : List ByteArray} (h : ke xs = 0) : xs.length ≤ 8 ∧ ∀ x ∈ xs, x.size ≤ 34 := by
  unfold ke at h
  split at h
  · exact ⟨by assumption, keL_size _ _ h⟩
  · cases h
theorem empty_size {s : ByteArray} (h : s.toList.isEmpty = true) : s.size = 0 := by
  rw [Lib.toList_data, List.isEmpty_iff] at h
  have : s.data.toList.length = 0 := by rw [h]; rfl
  rw [Array.length_toList] at this
  exact this
structure Fine (k : Int) (f t : ByteArray) (am nc : Int) (ky' vl : ByteArray) (rs ws : List ByteArray) : Prop where
  k : k = 1 ∨ k = 2
  f : f.size ≤ 32
  t : t.size ≤ 32
  am : am ≤ 4611686018427387903
  nc : nc ≤ 4611686018427387903
  ky : ky'.size ≤ 32
  vl : vl.size ≤ 64
  rs : ke rs = 0
  ws : ke ws = 0
theorem ch_fine {k : Int} {f t : ByteArray} {am nc : Int} {ky' vl : ByteArray} {rs ws : List ByteArray} (h : ch k f t am nc ky' vl rs ws = 0) : Fine k f t am nc ky' vl rs ws := by
  have hF : chF k f t ky' vl am = 0 := by
    unfold ch at h
    split at h
    · assumption
    · exact absurd h (by assumption)
  have hR : chR am nc rs ws = 0 := by rw [ch, if_pos hF] at h; exact h
  have hk : (am ≤ 4611686018427387903 ∧ nc ≤ 4611686018427387903) ∧ ke rs = 0 ∧ ke ws = 0 := by
    unfold chR at hR
    split at hR
    · split at hR
      · exact ⟨by assumption, by assumption, hR⟩
      · exact absurd hR (by assumption)
    · cases hR
  unfold chF at hF
  split at hF
  · split at hF
    · rename_i h1 h2
      simp only [Bool.and_eq_true] at h2
      have e1 := empty_size h2.1.2
      have e2 := empty_size h2.2
      exact ⟨.inl h1, nm_size h2.1.1.1, nm_size h2.1.1.2, hk.1.1, hk.1.2, by omega, by omega, hk.2.1, hk.2.2⟩
    · cases hF
  · split at hF
    · split at hF
      · rename_i h1 h2 h3
        simp only [Bool.and_eq_true, decide_eq_true_eq] at h3
        have e1 := empty_size h3.1.2
        exact ⟨.inr h2, nm_size h3.1.1.1.1, by omega, hk.1.1, hk.1.2, nm_size h3.1.1.1.2, h3.1.1.2, hk.2.1, hk.2.2⟩
      · cases hF
    · cases hF
def encL (k : Int) (f t : ByteArray) (am nc : Int) (ky' vl : ByteArray) (rs ws : List ByteArray) : List ByteArray := [ib k, tb f, tb t, ib am, ib nc, tb ky', tb vl, lb rs, lb ws]
def encB (k : Int) (f t : ByteArray) (am nc : Int) (ky' vl : ByteArray) (rs ws : List ByteArray) : ByteArray := ⟨(Lib.join ((encL k f t am nc ky' vl rs ws).map (·.data.toList)) []).toArray⟩
def enc (k : Int) (f t : ByteArray) (am nc : Int) (ky' vl : ByteArray) (rs ws : List ByteArray) : ByteArray × Int :=
  if ch k f t am nc ky' vl rs ws = 0 then (encB k f t am nc ky' vl rs ws, 0) else (⟨#[]⟩, ch k f t am nc ky' vl rs ws)
def EP (r : ByteArray × Int) (w : World) (e : Ending) (w' : World) : Prop := e = .returned (.tuple #[.string r.1, .int .i64 r.2]) ∧ Below w.heap.size w w'
set_option maxHeartbeats 8000000 in
set_option maxRecDepth 100000 in
theorem enc_no (k : Int) (f t : ByteArray) (am nc : Int) (ky' vl : ByteArray) (A B : Option Addr) (c d : Nat) (rs ws : List ByteArray) (w : World) (x : Int) (hx : ch k f t am nc ky' vl rs ws = x) (h0 : x ≠ 0)
    (hr : Kd.C Kd.string w A rs.length rs) (hc : rs.length ≤ c) (hs : Kd.C Kd.string w B ws.length ws) (hd : ws.length ≤ d) :
    Calls Tryd.prog 39 #[.agg #[.int .i64 k, .string f, .string t, .int .u64 am, .int .u64 nc, .string ky', .string vl, .slice A rs.length c, .slice B ws.length d]] w
      fun e w' => EP (⟨#[]⟩, x) w e w' := by
  have HR := Lib.hid hr
  have HC := Lib.hid hc
  have HS := Lib.hid hs
  have HD := Lib.hid hd
  clear hr hc hs hd
  have hx2 : (x != 0) = true := by simpa using h0
  have hch := Lib.hid (fun W hw => chk_calls k f t am nc ky' vl A B c d rs ws W (Kd.C_below HR.out hw) HC.out (Kd.C_below HS.out hw) HD.out)
  rw [hx] at hch
  go_enter Tryd.func39, Tryd.ntmps39
  have HX := Lib.hid (Bq.first w #[.int .i64 k, .string f, .string t, .int .u64 am, .int .u64 nc, .string ky', .string vl, .slice A rs.length c, .slice B ws.length d])
  go_wp2_with (first
    | (go_at_call 41
       go_must (refine (hch.out _ HX.out.low).mono ?_)
       rintro e w2 ⟨rfl, hB⟩
       have HX := Lib.hid (HX.out.step hB)
       clear hB))
  go_ret2
  exact ⟨rfl, HX.out.low⟩
set_option maxHeartbeats 8000000 in
set_option maxRecDepth 100000 in
theorem enc_ok (k : Int) (f t : ByteArray) (am nc : Int) (ky' vl : ByteArray) (A B : Option Addr) (c d : Nat) (rs ws : List ByteArray) (w : World) (hx : ch k f t am nc ky' vl rs ws = 0)
    (hr : Kd.C Kd.string w A rs.length rs) (hc : rs.length ≤ c) (hs : Kd.C Kd.string w B ws.length ws) (hd : ws.length ≤ d) (ha : 0 ≤ am) (hn : 0 ≤ nc) :
    Calls Tryd.prog 39 #[.agg #[.int .i64 k, .string f, .string t, .int .u64 am, .int .u64 nc, .string ky', .string vl, .slice A rs.length c, .slice B ws.length d]] w
      fun e w' => EP (encB k f t am nc ky' vl rs ws, 0) w e w' := by
  have hf := ch_fine hx
  have HR := Lib.hid hr
  have HC := Lib.hid hc
  have HS := Lib.hid hs
  have HD := Lib.hid hd
  have hr1 := ke_zero hf.rs
  have hs1 := ke_zero hf.ws
  have L1 := lb_size 34 rs hr1.2
  have L2 := lb_size 34 ws hs1.2
  have S1 : (lb rs).size = (lbL rs).length := by simp [lb, ByteArray.size]
  have S2 : (lb ws).size = (lbL ws).length := by simp [lb, ByteArray.size]
  have L1 : (lbL rs).length ≤ 353 := by have := hr1.1; omega
  have L2 : (lbL ws).length ≤ 353 := by have := hs1.1; omega
  have T1 := tb_size f
  have T2 := tb_size t
  have T3 := tb_size ky'
  have T4 := tb_size vl
  have Q1 := hf.f
  have Q2 := hf.t
  have Q3 := hf.ky
  have Q4 := hf.vl
  have HT := Lib.hid (show (tb f).size ≤ 9223372036854775807 ∧ (tb t).size ≤ 9223372036854775807 ∧ (tb ky').size ≤ 9223372036854775807 ∧ (tb vl).size ≤ 9223372036854775807 from ⟨by omega, by omega, by omega, by omega⟩)
  have HL := Lib.hid (show (lbL rs).length ≤ 140737488355328 ∧ (lbL ws).length ≤ 140737488355328 from ⟨by omega, by omega⟩)
  have HJ := Lib.hid (show (Lib.join ((encL k f t am nc ky' vl rs ws).map (·.data.toList)) []).length ≤ 140737488355328 by
    have I1 := ib_size k
    have I2 := ib_size am
    have I3 := ib_size nc
    have e : ∀ s : ByteArray, s.data.toList.length = s.size := fun s => by rw [Array.length_toList]; rfl
    rw [join_nil]
    simp only [encL, List.map_cons, List.map_nil, List.flatten_cons, List.flatten_nil, List.length_append, e, List.length_nil]
    omega)
  have wa : IntKind.i64.wrap am = am := by have := hf.am; rw [IntKind.wrap_i64]; omega
  have wn : IntKind.i64.wrap nc = nc := by have := hf.nc; rw [IntKind.wrap_i64]; omega
  have hch := Lib.hid (fun W hw => chk_calls k f t am nc ky' vl A B c d rs ws W (Kd.C_below HR.out hw) HC.out (Kd.C_below HS.out hw) HD.out)
  rw [hx] at hch
  clear hr hc hs hd hx ha hn hf hr1 hs1 L1 L2 T1 T2 T3 T4 Q1 Q2 Q3 Q4 S1 S2
  go_enter Tryd.func39, Tryd.ntmps39
  have HX := Lib.hid (Bq.first w #[.int .i64 k, .string f, .string t, .int .u64 am, .int .u64 nc, .string ky', .string vl, .slice A rs.length c, .slice B ws.length d])
  go_wp2_with (first
    | (go_at_call 41
       go_must (refine (hch.out _ HX.out.low).mono ?_)
       rintro e w2 ⟨rfl, hB⟩
       have HX := Lib.hid (HX.out.step hB)
       clear hB))
  have hq : ∀ W, Bq w #[.int .i64 k, .string f, .string t, .int .u64 am, .int .u64 nc, .string ky', .string vl, .slice A rs.length c, .slice B ws.length d] W →
      Bq w #[.int .i64 k, .string f, .string t, .int .u64 am, .int .u64 nc, .string ky', .string vl, .slice A rs.length c, .slice B ws.length d] W ∧
      W.cell? ⟨w.heap.size, 0, none⟩ = some (.int .i64 k) ∧ W.cell? ⟨w.heap.size, 1, none⟩ = some (.string f) ∧ W.cell? ⟨w.heap.size, 2, none⟩ = some (.string t) ∧ W.cell? ⟨w.heap.size, 3, none⟩ = some (.int .u64 am) ∧ W.cell? ⟨w.heap.size, 4, none⟩ = some (.int .u64 nc) ∧ W.cell? ⟨w.heap.size, 5, none⟩ = some (.string ky') ∧ W.cell? ⟨w.heap.size, 6, none⟩ = some (.string vl) ∧ W.cell? ⟨w.heap.size, 7, none⟩ = some (.slice A rs.length c) ∧ W.cell? ⟨w.heap.size, 8, none⟩ = some (.slice B ws.length d) :=
    fun W h => ⟨h, blk_cell h.box 0, blk_cell h.box 1, blk_cell h.box 2, blk_cell h.box 3, blk_cell h.box 4, blk_cell h.box 5, blk_cell h.box 6, blk_cell h.box 7, blk_cell h.box 8⟩
  have hq0 := hq _ HX.out
  have hq := Lib.hid hq
  obtain ⟨B0, q0, q1, q2, q3, q4, q5, q6, q7, q8⟩ := hq0
  go_region_held3 (fun W => Bq w #[.int .i64 k, .string f, .string t, .int .u64 am, .int .u64 nc, .string ky', .string vl, .slice A rs.length c, .slice B ws.length d] W ∧
      W.cell? ⟨w.heap.size, 0, none⟩ = some (.int .i64 k) ∧ W.cell? ⟨w.heap.size, 1, none⟩ = some (.string f) ∧ W.cell? ⟨w.heap.size, 2, none⟩ = some (.string t) ∧ W.cell? ⟨w.heap.size, 3, none⟩ = some (.int .u64 am) ∧ W.cell? ⟨w.heap.size, 4, none⟩ = some (.int .u64 nc) ∧ W.cell? ⟨w.heap.size, 5, none⟩ = some (.string ky') ∧ W.cell? ⟨w.heap.size, 6, none⟩ = some (.string vl) ∧ W.cell? ⟨w.heap.size, 7, none⟩ = some (.slice A rs.length c) ∧ W.cell? ⟨w.heap.size, 8, none⟩ = some (.slice B ws.length d))
    (first
      | exact hq.out _ HX.out
      | exact hq.out _ (HX.out.step ((Below.refl _ _).drew))
      | exact hq.out _ (HX.out.step ((Below.refl _ _).alloc (Nat.le_refl _) _)))
    (first
      | (go_at_call 62; refine (int_calls _ _).mono ?_; rintro e w2 ⟨rfl, hB⟩; first | have HX := Lib.hid (HX.out.step hB) | have HX := Lib.hid ((HX.out.step ((Below.refl _ _).drew)).step hB))
      | (go_at_call 68; first | with_reducible refine (text_calls f _ HT.out.1).mono ?_ | with_reducible refine (text_calls t _ HT.out.2.1).mono ?_ | with_reducible refine (text_calls ky' _ HT.out.2.2.1).mono ?_ | with_reducible refine (text_calls vl _ HT.out.2.2.2).mono ?_
         rintro e w2 ⟨rfl, hB⟩; first | have HX := Lib.hid (HX.out.step hB) | have HX := Lib.hid ((HX.out.step ((Below.refl _ _).drew)).step hB))
      | (go_at_call 63; first | with_reducible refine Calls.mono (list_calls A c rs _ ?_ HC.out HL.out.1) ?_ | with_reducible refine Calls.mono (list_calls B d ws _ ?_ HD.out HL.out.2) ?_
         · first | exact Kd.C_below HR.out (Bq.low (And.left (by assumption))) | exact Kd.C_below HS.out (Bq.low (And.left (by assumption)))
         rintro e w2 ⟨rfl, hB⟩; first | have HX := Lib.hid (HX.out.step hB) | have HX := Lib.hid ((HX.out.step ((Below.refl _ _).drew)).step hB)))
  have hbl := blk_new w2 (.cells #[.string (ib k), .string (tb f), .string (tb t), .string (ib am), .string (ib nc), .string (tb ky'), .string (tb vl), .string (lb rs), .string (lb ws)] 9)
  have HA := Lib.hid ((Below.refl w2.heap.size w2).alloc (Nat.le_refl _) (.cells #[.string (ib k), .string (tb f), .string (tb t), .string (ib am), .string (ib nc), .string (tb ky'), .string (tb vl), .string (lb rs), .string (lb ws)] 9))
  have HX := Lib.hid (HX.out.step HA.out)
  generalize w2.alloc (.cells #[.string (ib k), .string (tb f), .string (tb t), .string (ib am), .string (ib nc), .string (tb ky'), .string (tb vl), .string (lb rs), .string (lb ws)] 9) = W at hbl HX ⊢
  have hcell := Lib.hid (show ∀ (j : Nat) x, (encL k f t am nc ky' vl rs ws)[j]? = some x → W.cell? ⟨w2.heap.size, 0 + j, none⟩ = some (.string x) by
    intro j x hx
    rw [Nat.zero_add]
    refine (blk_cell hbl j).trans ?_
    have e : (#[.string (ib k), .string (tb f), .string (tb t), .string (ib am), .string (ib nc), .string (tb ky'), .string (tb vl), .string (lb rs), .string (lb ws)] : Array Value) = ((encL k f t am nc ky' vl rs ws).map Value.string).toArray := rfl
    rw [e, List.getElem?_toArray, List.getElem?_map, hx]
    rfl)
  have hlt := Lib.hid (blk_lt hbl)
  clear hbl
  go_wp2_with (first
    | (go_at_call 69
       go_must (refine (join_calls w2.heap.size 9 (encL k f t am nc ky' vl rs ws) W hcell.out hlt.out (by simp [encL]) (by simp [encL]) HJ.out).mono ?_)
       rintro e w3 ⟨rfl, hB⟩
       have HX := Lib.hid (HX.out.step hB)
       clear hB))
  go_ret2
  exact ⟨rfl, HX.out.low⟩
theorem enc_calls (k : Int) (f t : ByteArray) (am nc : Int) (ky' vl : ByteArray) (A B : Option Addr) (c d : Nat) (rs ws : List ByteArray) (w : World)
    (hr : Kd.C Kd.string w A rs.length rs) (hc : rs.length ≤ c) (hs : Kd.C Kd.string w B ws.length ws) (hd : ws.length ≤ d) (ha : 0 ≤ am) (hn : 0 ≤ nc) :
    Calls Tryd.prog 39 #[.agg #[.int .i64 k, .string f, .string t, .int .u64 am, .int .u64 nc, .string ky', .string vl, .slice A rs.length c, .slice B ws.length d]] w
      fun e w' => EP (enc k f t am nc ky' vl rs ws) w e w' := by
  unfold enc
  split
  · exact enc_ok k f t am nc ky' vl A B c d rs ws w (by assumption) hr hc hs hd ha hn
  · exact enc_no k f t am nc ky' vl A B c d rs ws w _ rfl (by assumption) hr hc hs hd
end Go.Proofs.YtndicjikjcifaaaDoor

/- batch.Encode. -/
namespace Go.Proofs.YtndicjikjcifaaaDoor
open Go.RowKit Go.Proofs.YtndicjikjcifaaaDoorW.PrintWords Go.Proofs.YtndicjikjcifaaaDoorW.PrintLast
set_option linter.unusedVariables false
set_option linter.unusedSimpArgs false
set_option maxRecDepth 100000
open PB (S33 k33)
theorem k33_heap : Kd.Heap k33 := Kd.heap_iso _ (Kd.heap_pair (Kd.heap_int _) (Kd.heap_pair Kd.heap_string (Kd.heap_pair Kd.heap_string (Kd.heap_pair (Kd.heap_int _) (Kd.heap_pair (Kd.heap_int _) (Kd.heap_pair Kd.heap_string (Kd.heap_pair Kd.heap_string (Kd.heap_pair (Kd.heap_slice _ Kd.heap_string) (Kd.heap_slice _ Kd.heap_string)))))))))
theorem k33_old {w : World} {A : Option Addr} {n : Nat} {l : List S33} (h : k33.C w A n l) : Foot (fun W => k33.C W A n l) w (fun k => k < w.heap.size) := fun W' hW => k33_heap.C (fun k hk => hW k hk hk) h
theorem St.addStr {w W : World} {S R : Nat → Prop} {M : List Asn} (H : St w S R M W) (b : ByteArray) : St w S R (M ++ [Asn.fk Kd.string (fun _ => False) b [.string b]]) W :=
  H.add _ (fun W' _ => rfl) (fun k hk => by rcases hk with hk | hk <;> exact hk.elim) (fun k hk => hk.elim) (fun k hk => hk.elim)
theorem St.oldAt {w W : World} {M : List Asn} (H : St w (fun _ => False) (fun _ => True) M W) (p : World → Prop) (hp : Foot p W (fun k => k < w.heap.size)) : St w (fun _ => False) (fun _ => True) (M ++ [Asn.ft p (fun k => k < w.heap.size)]) W :=
  H.old p (Foot.step hp (fun k hk _ => (H.low.block k hk (fun h => h)).symm)) (fun B hB k hk => ((H.has B hB).2.2.1 k hk).elim (fun q => q.elim) id)
theorem k33_parts2 {w : World} {t : S33} {A7 A8 : Option Addr} {c7 c8 : Nat} (h : k33.K w t (txc t A7 c7 A8 c8)) : t.f7.length ≤ c7 ∧ Kd.string.C w A7 t.f7.length t.f7 ∧ t.f8.length ≤ c8 ∧ Kd.string.C w A8 t.f8.length t.f8 := by
  obtain ⟨B7, d7, B8, d8, e, l7, g7, l8, g8⟩ := PB.k33_open h
  simp only [List.cons.injEq, Value.slice.injEq, true_and, and_true] at e
  obtain ⟨⟨rfl, rfl⟩, rfl, rfl⟩ := e
  exact ⟨l7, g7, l8, g8⟩
theorem add_add (q : Addr) (x y : Nat) : (q.add x).add y = q.add (x + y) := by
  rcases q with ⟨_, _, _ | _⟩ <;> by_cases hx : x = 0 <;> by_cases hy : y = 0 <;> simp [Addr.add, hx, hy, Nat.add_assoc]
theorem x_cat {P : Program} {a : Act} {W : World} {x y : Operand} {t yt ty : TypeId} {p q : ByteArray} (hx : a.eval x = .string p) (hy : a.eval y = .string q) (h : (p.size : Int) + q.size ≤ 9223372036854775807) : (ex a (.binOp .add t x y yt) ty).run P W = .ok (.value (.string (p ++ q))) W := by
  simp [ex, execOp, hx, hy, eqGuard, binOp, Op.stringOp, h]
def encT (t : S33) : ByteArray := (enc t.f0 t.f1 t.f2 t.f3 t.f4 t.f5 t.f6 t.f7 t.f8).1
def wI (a : Int) : ByteArray := (wire_Int.f a).getD ⟨#[]⟩
def bencB (a n : Int) (l : List S33) : ByteArray := wI a ++ wI n ++ lb (l.map encT)
def benc (a n : Int) (l : List S33) : ByteArray × Int := if bchk a n l = 0 then (bencB a n l, 0) else (⟨#[]⟩, bchk a n l)
set_option maxHeartbeats 1000000 in
theorem benc_calls (au n : Int) (A : Option Addr) (c : Nat) (l : List S33) (w : World) (hr : k33.C w A l.length l) (hc : l.length ≤ c) (hl : l.length < 4611686018427387904) (hp : ∀ t ∈ l, 0 ≤ t.f3 ∧ 0 ≤ t.f4) (hsz : bchk au n l = 0 → (lbL (l.map encT)).length ≤ 140737488355328) (h16 : bchk au n l = 0 → l.length ≤ 16) (hw : (wI au).size ≤ 100 ∧ (wI n).size ≤ 100) :
    Calls Tryd.prog 31 #[.agg #[.int .i64 au, .int .i64 n, .slice A l.length c]] w fun e w' => e = .returned (.tuple #[.string (benc au n l).1, .int .i64 (benc au n l).2]) ∧ Below w.heap.size w w' := by
  have H0 : St w (fun _ => False) (fun _ => True) [Asn.ft (fun W => k33.C W A l.length l) (fun k => k < w.heap.size)] w := (St.first w _ _).old _ (k33_old hr) (fun B hB => by cases hB)
  refine c_enter2 (args := [.agg #[.int .i64 au, .int .i64 n, .slice A l.length c]]) (S := (fun _ => False)) (R := (fun _ => True)) (M := [Asn.ft (fun W => k33.C W A l.length l) (fun k => k < w.heap.size)]) Tryd.func31 (by kernel_rfl) 42 Tryd.ntmps31 (Nat.le_of_ble_eq_true rfl) (H0) (fun a W F H => ?_)
  have F := F.less [(0, .agg #[.int .i64 au, .int .i64 n, .slice A l.length c])] (subc rfl sub0)
  refine c_seq (by kernel_rfl) ?_
  refine c_text (id := 0) (by kernel_rfl) [(0, 2), (1, 2), (2, 2)] (by kernel_rfl) ?_
  refine sq_new (o_s 1 (.box 40 (.tmp 0)) 0 (by kernel_rfl)) trivial F (by decide) H [.int .i64 au, .int .i64 n, .slice A l.length c] 40 (x_box (F.slot rfl) rfl) ?_
  intro g1 W a hg1 H F
  refine ⟨(fun _ => trivial), ?_⟩
  refine q2 (o_s 2 (.assign (.const (.string { data := #[] }))) 9 (by kernel_rfl)) F (by decide) (v := .string ⟨#[]⟩) (x_assign rfl) (fun a F => ?_)
  refine q2 (o_s 3 (.assign (.const (.int .i64 0))) 24 (by kernel_rfl)) F (by decide) (v := .int .i64 0) (x_assign rfl) (fun a F => ?_)
  unfold wpSeq
  have H : St w (fun _ => False) (fun _ => True) [Asn.ft (fun W => k33.C W A l.length l) (fun k => k < w.heap.size), Asn.blk g1 [.int .i64 au, .int .i64 n, .slice A l.length c] 40] W := H
  refine t_normal ?_
  refine c_seq (by kernel_rfl) ?_
  refine c_seq (by kernel_rfl) ?_
  refine c_text (id := 1) (by kernel_rfl) [(0, 2), (1, 2), (2, 2)] (by kernel_rfl) ?_
  refine q2 (o_s 10 (.load 40 (.tmp 1)) 40 (by kernel_rfl)) F (by decide) (v := .agg #[.int .i64 au, .int .i64 n, .slice A l.length c]) (x_loadB (Tryd.isAgg40 W) [.int .i64 au, .int .i64 n, .slice A l.length c] (Tryd.sizeOf40 W) (F.slot rfl) (H.blk 1 rfl)) (fun a F => ?_)
  obtain ⟨z, hz⟩ : ∃ z, bchk au n l = z := ⟨_, rfl⟩
  have HK := bchk_calls au n A c l W hl (H.rd 0 rfl) hc
  rw [hz] at HK
  refine sqc (o_s 11 (.call { callee := (.value (.func 33)), args := #[(.tmp 10)], argTypes := #[40] }) 24 (by kernel_rfl)) trivial F (by decide) (x_call Tryd.func33 (by kernel_rfl) rfl (args_1 (F.slot rfl))) (HK) ?_
  rintro e W ⟨rfl, hB⟩
  refine ⟨_, rfl, fun a F => ?_⟩
  have H := H.below hB
  refine ⟨(fun _ => trivial), ?_⟩
  refine q2 (o_s 4 (.assign (.tmp 11)) 24 (by kernel_rfl)) F (by decide) (v := .int .i64 z) (x_assign (F.slot rfl)) (fun a F => ?_)
  unfold wpSeq
  refine t_normal ?_
  refine c_seq (by kernel_rfl) ?_
  refine c_text (id := 2) (by kernel_rfl) [(0, 2), (1, 2)] (by kernel_rfl) ?_
  refine q2 (o_s 12 (.move (.tmp 4)) 24 (by kernel_rfl)) F (by decide) (x_move (F.slot rfl)) (fun a F => ?_)
  refine q2 (o_s 13 (.binOp .neq 24 (.tmp 12) (.const (.int .i64 0)) 24) 4 (by kernel_rfl)) F (by decide) (v := .bool (z != (0 : Int))) (x_int (F.slot rfl) rfl rfl) (fun a F => ?_)
  unfold wpSeq
  refine t_normal ?_
  rcases bool_or (z != (0 : Int)) with hb2 | hb2
  · have F := F.at 13 rfl (v' := .bool true) (congrArg Value.bool hb2)
    refine c_yes (c := .tmp 13) (by kernel_rfl) (F.slot rfl) ?_
    refine c_seq (by kernel_rfl) ?_
    refine c_text (id := 3) (by kernel_rfl) [(0, 2), (1, 2), (2, 2)] (by kernel_rfl) ?_
    refine q2 (o_s 14 (.move (.tmp 4)) 24 (by kernel_rfl)) F (by decide) (x_move (F.slot rfl)) (fun a F => ?_)
    refine q2 (o_s 2 (.assign (.const (.string { data := #[] }))) 9 (by kernel_rfl)) F (by decide) (v := .string ⟨#[]⟩) (x_assign rfl) (fun a F => ?_)
    refine q2 (o_s 3 (.assign (.tmp 14)) 24 (by kernel_rfl)) F (by decide) (v := .int .i64 z) (x_assign (F.slot rfl)) (fun a F => ?_)
    unfold wpSeq
    refine t_normal ?_
    refine c_ret (by kernel_rfl) ?_
    refine t_ret ?_
    refine p_list (rs := [.tmp 2, .tmp 3]) (vs := [.string ⟨#[]⟩, .int .i64 z]) Tryd.results31 (by simp) F (Vals.tmp' F rfl (Vals.tmp' F rfl .nil)) ?_
    have hx : z ≠ 0 := by simpa using hb2
    rw [show benc au n l = (⟨#[]⟩, z) from (if_neg (by rw [hz]; exact hx)).trans (by rw [hz])]
    exact ⟨rfl, H.ends⟩
  · have F := F.at 13 rfl (v' := .bool false) (congrArg Value.bool hb2)
    refine c_no (c := .tmp 13) (by kernel_rfl) (F.slot rfl) ?_
    refine c_skip (by kernel_rfl) ?_
    refine t_normal ?_
    refine c_seq (by kernel_rfl) ?_
    refine c_text (id := 4) (by kernel_rfl) [(0, 2)] (by kernel_rfl) ?_
    refine q2 (o_s 5 (.assign (.const (.slice none 0 0))) 31 (by kernel_rfl)) F (by decide) (v := .slice none 0 0) (x_assign rfl) (fun a F => ?_)
    unfold wpSeq
    refine t_normal ?_
    refine c_seq (by kernel_rfl) ?_
    refine c_seq (by kernel_rfl) ?_
    obtain rfl : z = 0 := by simpa using hb2
    have hsz := hsz hz
    have h16 := h16 hz
    have H := H.quNil Kd.string 9
    have H : St w (fun _ => False) (fun _ => True) [Asn.ft (fun W => k33.C W A l.length l) (fun k => k < w.heap.size), Asn.blk g1 [.int .i64 au, .int .i64 n, .slice A l.length c] 40, Asn.qu Kd.string 9 (.slice none 0 0) ([] : List ByteArray) (fun _ => False)] W := H
    refine c_text (id := 5) (by kernel_rfl) [(0, 2), (1, 2), (2, 2), (3, 2)] (by kernel_rfl) ?_
    refine q2 (o_s 15 (.fieldAddr 40 (.tmp 1) 2) 0 (by kernel_rfl)) F (by decide) (v := .pointer (some ⟨g1, 2, none⟩)) (x_field0 Tryd.underlying40 rfl rfl (Tryd.sizeOf38 W) (F.slot rfl)) (fun a F => ?_)
    refine q2 (o_s 16 (.load 38 (.tmp 15)) 38 (by kernel_rfl)) F (by decide) (v := .slice A l.length c) (x_load1 (Tryd.isAgg38 W) (F.slot rfl) (H.cell 1 rfl rfl)) (fun a F => ?_)
    refine q2 (o_s 17 (.call { callee := (.builtin .len), args := #[(.tmp 16)], argTypes := #[38] }) 3 (by kernel_rfl)) F (by decide) (v := .int .i64 (l.length : Int)) (x_lenL Tryd.underlying38 (F.slot rfl)) (fun a F => ?_)
    refine q2 (o_s 18 (.move (.const (.int .i64 0))) 3 (by kernel_rfl)) F (by decide) (v := .int .i64 0) (x_move rfl) (fun a F => ?_)
    unfold wpSeq
    refine t_normal ?_
    refine c_block (id := 0) (by kernel_rfl) ?_
    refine c_loop (by kernel_rfl) (fun k a W => ∃ (j : Nat) (B1 : Option Addr) (d1 : Nat) (ok2 : Nat → Prop), Fr 42 [(0, .agg #[.int .i64 au, .int .i64 n, .slice A l.length c]), (1, .pointer (some ⟨g1, 0, none⟩)), (2, .string ⟨#[]⟩), (3, .int .i64 0), (10, .agg #[.int .i64 au, .int .i64 n, .slice A l.length c]), (11, .int .i64 0), (4, .int .i64 0), (12, .int .i64 0), (13, .bool false), (15, .pointer (some ⟨g1, 2, none⟩)), (16, .slice A l.length c), (17, .int .i64 (l.length : Int)), (18, .int .i64 (j : Int)), (5, .slice B1 (((l.take j).map encT).length) d1)] a ∧ St w (fun _ => False) (fun _ => True) [Asn.ft (fun W => k33.C W A l.length l) (fun k => k < w.heap.size), Asn.blk g1 [.int .i64 au, .int .i64 n, .slice A l.length c] 40, Asn.qu Kd.string 9 (.slice B1 ((l.take j).map encT).length d1) ((l.take j).map encT) ok2] W ∧ (j ≤ l.length) ∧ (k + j = l.length)) l.length ⟨0, none, 0, (fun _ => False), F.less _ (subc rfl (subc rfl (subc rfl (subc rfl (subc rfl (subc rfl (subc rfl (subc rfl (subc rfl (subc rfl (subc rfl (subc rfl (subc rfl (subc rfl sub0)))))))))))))), H, (Nat.zero_le _), rfl⟩ ?_
    rintro k a W ⟨j, B1, d1, ok2, F, H, hj, hkj⟩
    refine c_seq (by kernel_rfl) ?_
    refine c_text (id := 6) (by kernel_rfl) [(0, 2)] (by kernel_rfl) ?_
    refine q2 (o_s 19 (.binOp .lss 3 (.tmp 18) (.tmp 17) 3) 0 (by kernel_rfl)) F (by decide) (v := .bool (decide ((j : Int) < (l.length : Int)))) (x_int (F.slot rfl) (F.slot rfl) rfl) (fun a F => ?_)
    unfold wpSeq
    have H : St w (fun _ => False) (fun _ => True) [Asn.ft (fun W => k33.C W A l.length l) (fun k => k < w.heap.size), Asn.blk g1 [.int .i64 au, .int .i64 n, .slice A l.length c] 40, Asn.qu Kd.string 9 (.slice B1 ((l.take j).map encT).length d1) ((l.take j).map encT) ok2] W := H
    refine t_normal ?_
    refine c_seq (by kernel_rfl) ?_
    rcases bool_or (decide ((j : Int) < (l.length : Int))) with hb3 | hb3
    · have hb3d := of_decide_eq_true hb3
      have F := F.at 19 rfl (v' := .bool true) (congrArg Value.bool hb3)
      refine c_yes (c := .tmp 19) (by kernel_rfl) (F.slot rfl) ?_
      refine c_skip (by kernel_rfl) ?_
      refine t_normal ?_
      refine c_seq (by kernel_rfl) ?_
      refine c_block (id := 1) (by kernel_rfl) ?_
      refine c_seq (by kernel_rfl) ?_
      refine c_text (id := 7) (by kernel_rfl) [(0, 2), (1, 2), (2, 2), (3, 2)] (by kernel_rfl) ?_
      obtain ⟨ad, cs, hA, hcl, hFK, hcc, -⟩ := Kd.F_get (H.get 0 rfl) PB.z33 (j : Int) (by omega) (by omega)
      have hd := drop_rd l j (by omega)
      have htm : PB.rd_T33 l (j : Int) ∈ l := List.mem_of_mem_drop (i := j) (by rw [hd]; exact List.mem_cons_self)
      have htk : l.take (j + 1) = l.take j ++ [PB.rd_T33 l (j : Int)] := by
        have := List.take_append_drop j l
        rw [List.take_add_one]
        congr 1
        have h2 : l[j]? = (l.drop j)[0]? := by rw [List.getElem?_drop]; simp
        rw [h2, hd]; rfl
      obtain ⟨t, ht⟩ : ∃ t, PB.rd_T33 l (j : Int) = t := ⟨_, rfl⟩
      rw [show l.getD (j : Int).toNat PB.z33 = t from ht] at hFK
      rw [ht] at htm htk
      obtain ⟨A7, c7, A8, c8, rfl, l7, g7, l8, g8⟩ := PB.k33_open (Foot.now hFK)
      have H := H.oldAt _ hFK
      have H : St w (fun _ => False) (fun _ => True) [Asn.ft (fun W => k33.C W A l.length l) (fun k => k < w.heap.size), Asn.blk g1 [.int .i64 au, .int .i64 n, .slice A l.length c] 40, Asn.qu Kd.string 9 (.slice B1 ((l.take j).map encT).length d1) ((l.take j).map encT) ok2, Asn.ft (fun W => k33.K W t (txc t A7 c7 A8 c8)) (fun k => k < w.heap.size)] W := H
      have hnx : (l.take (j + 1)).map encT = (l.take j).map encT ++ [encT t] := by rw [htk, List.map_append]; rfl
      have F := F.at 16 rfl (v' := .slice (some ad) l.length c) (by rw [hA])
      have hcs : ∀ i v, (txc t A7 c7 A8 c8)[i]? = some v → W.cell? ((ad.add (j * 9)).add i) = some v := by
        intro i v hi
        rw [add_add]
        exact hcc i v hi
      refine q2 (o_s 20 (.indexAddr 38 (.tmp 16) (.tmp 18)) 0 (by kernel_rfl)) F (by decide) (v := .pointer (some (ad.add (j * 9)))) (x_indexSl (n := l.length) (c := c) (ad := ad) (i := (j : Int)) Tryd.underlying38 (Tryd.sizeOf33 W) (F.slot rfl) (F.slot rfl) (by omega) (by omega)) (fun a F => ?_)
      refine q2 (o_s 21 (.load 33 (.tmp 20)) 33 (by kernel_rfl)) F (by decide) (v := .agg (txc t A7 c7 A8 c8).toArray) (x_loadN (Tryd.isAgg33 W) (txc t A7 c7 A8 c8) (Tryd.sizeOf33 W) (F.slot rfl) hcs) (fun a F => ?_)
      refine sq_new (o_s 7 (.alloc 33) 0 (by kernel_rfl)) trivial F (by decide) H [.int .i64 0, .string ⟨#[]⟩, .string ⟨#[]⟩, .int .u64 0, .int .u64 0, .string ⟨#[]⟩, .string ⟨#[]⟩, .slice none 0 0, .slice none 0 0] 33 (x_alloc Tryd.zeroValue33 rfl) ?_
      intro g4 W a hg4 H F
      refine ⟨(fun _ => trivial), ?_⟩
      refine sq_put (M := [Asn.ft (fun W => k33.C W A l.length l) (fun k => k < w.heap.size), Asn.blk g1 [.int .i64 au, .int .i64 n, .slice A l.length c] 40, Asn.qu Kd.string 9 (.slice B1 ((l.take j).map encT).length d1) ((l.take j).map encT) ok2, Asn.ft (fun W => k33.K W t (txc t A7 c7 A8 c8)) (fun k => k < w.heap.size), Asn.blk g4 (txc t A7 c7 A8 c8) 33]) (o_n (.store 33 (.tmp 7) (.tmp 21)) 0 (by kernel_rfl)) trivial F (x_store H (k := 4) (cs' := (txc t A7 c7 A8 c8)) rfl (Tryd.sizeOf33 W) (F.slot rfl) (F.slot rfl) rfl (Nat.le_of_ble_eq_true rfl) rfl rfl) ?_
      intro W H
      refine ⟨(fun _ => trivial), ?_⟩
      unfold wpSeq
      refine t_normal ?_
      refine c_seq (by kernel_rfl) ?_
      refine c_text (id := 8) (by kernel_rfl) [(0, 2), (1, 2), (2, 2), (3, 2), (4, 2), (5, 2), (6, 2)] (by kernel_rfl) ?_
      refine q2 (o_s 23 (.load 33 (.tmp 7)) 33 (by kernel_rfl)) F (by decide) (v := .agg (txc t A7 c7 A8 c8).toArray) (x_loadB (Tryd.isAgg33 W) (txc t A7 c7 A8 c8) (Tryd.sizeOf33 W) (F.slot rfl) (H.blk 4 rfl)) (fun a F => ?_)
      obtain ⟨l7, g7, l8, g8⟩ := k33_parts2 (H.rd 3 rfl)
      obtain ⟨b, x, he⟩ : ∃ b x, enc t.f0 t.f1 t.f2 t.f3 t.f4 t.f5 t.f6 t.f7 t.f8 = (b, x) := ⟨_, _, rfl⟩
      have hb : encT t = b := by unfold encT; rw [he]
      have HK := enc_calls t.f0 t.f1 t.f2 t.f3 t.f4 t.f5 t.f6 A7 A8 c7 c8 t.f7 t.f8 W g7 l7 g8 l8 (hp t htm).1 (hp t htm).2
      rw [he] at HK
      rw [hb] at hnx
      refine sqc (o_s 24 (.call { callee := (.value (.func 39)), args := #[(.tmp 23)], argTypes := #[33] }) 55 (by kernel_rfl)) trivial F (by decide) (x_call Tryd.func39 (by kernel_rfl) rfl (args_1 (F.slot rfl))) (HK) ?_
      rintro e W ⟨rfl, hB⟩
      refine ⟨_, rfl, fun a F => ?_⟩
      have H := H.below hB
      refine ⟨(fun _ => trivial), ?_⟩
      refine q2 (o_s 22 (.move (.tmp 24)) 55 (by kernel_rfl)) F (by decide) (x_move (F.slot rfl)) (fun a F => ?_)
      refine q2 (o_s 25 (.extract (.tmp 22) 0) 9 (by kernel_rfl)) F (by decide) (v := .string b) (x_extract (F.slot rfl) rfl) (fun a F => ?_)
      refine q2 (o_s 26 (.extract (.tmp 22) 1) 24 (by kernel_rfl)) F (by decide) (v := .int .i64 x) (x_extract (F.slot rfl) rfl) (fun a F => ?_)
      refine q2 (o_s 8 (.assign (.tmp 25)) 9 (by kernel_rfl)) F (by decide) (v := .string b) (x_assign (F.slot rfl)) (fun a F => ?_)
      refine q2 (o_s 9 (.assign (.tmp 26)) 24 (by kernel_rfl)) F (by decide) (v := .int .i64 x) (x_assign (F.slot rfl)) (fun a F => ?_)
      unfold wpSeq
      refine t_normal ?_
      have H := H.addStr b
      have H : St w (fun _ => False) (fun _ => True) [Asn.ft (fun W => k33.C W A l.length l) (fun k => k < w.heap.size), Asn.blk g1 [.int .i64 au, .int .i64 n, .slice A l.length c] 40, Asn.qu Kd.string 9 (.slice B1 ((l.take j).map encT).length d1) ((l.take j).map encT) ok2, Asn.ft (fun W => k33.K W t (txc t A7 c7 A8 c8)) (fun k => k < w.heap.size), Asn.blk g4 (txc t A7 c7 A8 c8) 33, Asn.fk Kd.string (fun _ => False) b [.string b]] W := H
      refine c_text (id := 9) (by kernel_rfl) [(0, 2), (1, 2), (2, 2), (3, 2), (4, 2)] (by kernel_rfl) ?_
      refine q2 (o_s 27 (.move (.tmp 5)) 31 (by kernel_rfl)) F (by decide) (x_move (F.slot rfl)) (fun a F => ?_)
      refine q2 (o_s 28 (.move (.tmp 8)) 9 (by kernel_rfl)) F (by decide) (x_move (F.slot rfl)) (fun a F => ?_)
      refine sq_bapp Kd.string 2 5 (by decide) (o_s 29 (.buildSlice 31 1 #[(0, (.tmp 28))]) 31 (by kernel_rfl)) trivial (o_s 30 (.call { callee := (.builtin .append), args := #[(.tmp 27), (.tmp 29)], argTypes := #[31, 31] }) 31 (by kernel_rfl)) (fun _ => trivial) F (by decide) (by decide) rfl (fun a F => F.slot rfl) (F.slot rfl) rfl Tryd.underlying31 PB.info9 rfl (by decide) (by decide) (by decide) H rfl rfl (by rw [List.length_map, List.length_take]; omega) (fun W H => (fun _ => trivial)) ?_
      intro v_ W a H F
      obtain ⟨A2, c2, rfl, hc2⟩ := (H.qu 2 rfl).form
      have H : St w (fun _ => False) (fun _ => True) [Asn.ft (fun W => k33.C W A l.length l) (fun k => k < w.heap.size), Asn.blk g1 [.int .i64 au, .int .i64 n, .slice A l.length c] 40, Asn.qu Kd.string 9 (.slice A2 (((l.take j).map encT ++ [b]).length) c2) ((l.take j).map encT ++ [b]) _, Asn.ft (fun W => k33.K W t (txc t A7 c7 A8 c8)) (fun k => k < w.heap.size), Asn.blk g4 (txc t A7 c7 A8 c8) 33, Asn.fk Kd.string (fun _ => False) b [.string b]] W := H
      refine ⟨(fun _ => trivial), ?_⟩
      refine q2 (o_s 5 (.assign (.tmp 30)) 31 (by kernel_rfl)) F (by decide) (v := .slice A2 (((l.take j).map encT ++ [b]).length) c2) (x_assign (F.slot rfl)) (fun a F => ?_)
      unfold wpSeq
      refine b_normal ?_
      refine t_normal ?_
      refine c_text (id := 10) (by kernel_rfl) [(0, 2), (1, 2)] (by kernel_rfl) ?_
      refine q2 (o_s 31 (.binOp .add 3 (.tmp 18) (.const (.int .i64 1)) 3) 3 (by kernel_rfl)) F (by decide) (v := .int .i64 (IntKind.i64.wrap ((j : Int) + 1))) (x_int (F.slot rfl) rfl rfl) (fun a F => ?_)
      refine q2 (o_s 18 (.move (.tmp 31)) 3 (by kernel_rfl)) F (by decide) (x_move (F.slot rfl)) (fun a F => ?_)
      unfold wpSeq
      refine t_normal ?_
      have F_ := F
      have H := H.front 3
      have F := F.at 18 rfl (v' := .int .i64 ((j + 1 : Nat) : Int)) (congrArg (Value.int .i64) ((wrap_i64 _ (by omega) (by omega)).trans (by omega)))
      have F := F.at 16 rfl (v' := .slice A l.length c) (by rw [hA])
      rw [← hnx] at H
      have F := F.at 5 rfl (v' := .slice A2 ((l.take (j + 1)).map encT).length c2) (by rw [hnx])
      exact ⟨k - 1, by omega, j + 1, _, _, _, F.less _ (subc rfl (subc rfl (subc rfl (subc rfl (subc rfl (subc rfl (subc rfl (subc rfl (subc rfl (subc rfl (subc rfl (subc rfl (subc rfl (subc rfl sub0)))))))))))))), H, (by omega), (by omega)⟩
    · have hb3d := of_decide_eq_false hb3
      have F := F.at 19 rfl (v' := .bool false) (congrArg Value.bool hb3)
      refine c_no (c := .tmp 19) (by kernel_rfl) (F.slot rfl) ?_
      refine c_exit (id := 0) (by kernel_rfl) ?_
      refine t_exit ?_
      refine t_exit ?_
      refine b_here ?_
      refine t_normal ?_
      refine c_seq (by kernel_rfl) ?_
      obtain rfl : j = l.length := by omega
      rw [List.take_length] at H F
      have H : St w (fun _ => False) (fun _ => True) [Asn.ft (fun W => k33.C W A l.length l) (fun k => k < w.heap.size), Asn.blk g1 [.int .i64 au, .int .i64 n, .slice A l.length c] 40, Asn.qu Kd.string 9 (.slice B1 (l.map encT).length d1) (l.map encT) ok2] W := H
      refine c_drawn (id := 11) (by kernel_rfl) (by kernel_rfl) (Vs [Asn.blk g1 [.int .i64 au, .int .i64 n, .slice A l.length c] 40]) [0, 1, 3, 0, 8, 31, 63, 0, 191, 511, 1023, 2047] [] [(0, 0), (3, 0), (7, 0), (1, 1), (4, 1), (2, 2), (5, 2), (6, 0), (8, 2), (9, 0), (10, 0), (11, 0)] (by kernel_rfl) (fun _ _ d _ _ h => by cases d <;> exact h) (Vs.drew ⟨H.get 1 rfl, trivial⟩) ?_
      have H := H.drew
      generalize World.drew W = W at H ⊢
      refine q0 (o_s 32 (.fieldAddr 40 (.tmp 1) 0) 0 (by kernel_rfl)) F (by decide) (v := .pointer (some ⟨g1, 0, none⟩)) (fun W_ => x_field0 Tryd.underlying40 rfl rfl (Tryd.sizeOf3 W_) (F.slot rfl)) (fun a F => ?_)
      refine q0 (o_s 35 (.fieldAddr 40 (.tmp 1) 1) 0 (by kernel_rfl)) F (by decide) (v := .pointer (some ⟨g1, 1, none⟩)) (fun W_ => x_field0 Tryd.underlying40 rfl rfl (Tryd.sizeOf3 W_) (F.slot rfl)) (fun a F => ?_)
      refine q0 (o_s 39 (.move (.tmp 5)) 31 (by kernel_rfl)) F (by decide) (fun W_ => x_move (F.slot rfl)) (fun a F => ?_)
      refine q1 (o_s 33 (.load 3 (.tmp 32)) 3 (by kernel_rfl)) F (by decide) (⟨H.get 1 rfl, trivial⟩) (v := .int .i64 au) (fun W_ hV => x_load1 (Tryd.isAgg3 W_) (F.slot rfl) (bcell hV.1 rfl)) (fun a F => ?_)
      refine q1 (o_s 36 (.load 3 (.tmp 35)) 3 (by kernel_rfl)) F (by decide) (⟨H.get 1 rfl, trivial⟩) (v := .int .i64 n) (fun W_ hV => x_load1 (Tryd.isAgg3 W_) (F.slot rfl) (bcell hV.1 rfl)) (fun a F => ?_)
      refine sqc (o_s 34 (.call { callee := (.value (.func 62)), args := #[(.tmp 33)], argTypes := #[2] }) 9 (by kernel_rfl)) trivial F (by decide) (x_call Tryd.func62 (by kernel_rfl) rfl (args_1 (F.slot rfl))) (wire_Int.calls au (wI au) W rfl) ?_
      rintro e W ⟨rfl, hB⟩
      refine ⟨_, rfl, fun a F => ?_⟩
      have H := H.below hB
      refine ⟨(fun _ => ⟨H.get 1 rfl, trivial⟩), ?_⟩
      refine sqc (o_s 37 (.call { callee := (.value (.func 62)), args := #[(.tmp 36)], argTypes := #[2] }) 9 (by kernel_rfl)) trivial F (by decide) (x_call Tryd.func62 (by kernel_rfl) rfl (args_1 (F.slot rfl))) (wire_Int.calls n (wI n) W rfl) ?_
      rintro e W ⟨rfl, hB⟩
      refine ⟨_, rfl, fun a F => ?_⟩
      have H := H.below hB
      refine ⟨(fun _ => ⟨H.get 1 rfl, trivial⟩), ?_⟩
      refine q0 (o_s 38 (.binOp .add 9 (.tmp 34) (.tmp 37) 9) 9 (by kernel_rfl)) F (by decide) (v := .string ((wI au) ++ (wI n))) (fun W_ => x_cat (F.slot rfl) (F.slot rfl) (by have := hw; have : (lb (l.map encT)).size = (lbL (l.map encT)).length := rfl; (try simp only [ByteArray.size_append]); omega)) (fun a F => ?_)
      refine sqc (o_s 40 (.call { callee := (.value (.func 63)), args := #[(.tmp 39)], argTypes := #[31] }) 9 (by kernel_rfl)) trivial F (by decide) (x_call Tryd.func63 (by kernel_rfl) rfl (args_1 (F.slot rfl))) (wire_List.calls B1 d1 (l.map encT) (lb (l.map encT)) W (H.qu 2 rfl).read.2.2 (H.qu 2 rfl).read.2.1 (if_pos hsz)) ?_
      rintro e W ⟨rfl, hB⟩
      refine ⟨_, rfl, fun a F => ?_⟩
      have H := H.below hB
      refine ⟨(fun _ => ⟨H.get 1 rfl, trivial⟩), ?_⟩
      refine q0 (o_s 41 (.binOp .add 9 (.tmp 38) (.tmp 40) 9) 9 (by kernel_rfl)) F (by decide) (v := .string (((wI au) ++ (wI n)) ++ (lb (l.map encT)))) (fun W_ => x_cat (F.slot rfl) (F.slot rfl) (by have := hw; have : (lb (l.map encT)).size = (lbL (l.map encT)).length := rfl; (try simp only [ByteArray.size_append]); omega)) (fun a F => ?_)
      refine q0 (o_s 2 (.assign (.tmp 41)) 9 (by kernel_rfl)) F (by decide) (v := .string (((wI au) ++ (wI n)) ++ (lb (l.map encT)))) (fun W_ => x_assign (F.slot rfl)) (fun a F => ?_)
      refine q0 (o_s 3 (.assign (.const (.int .i64 0))) 24 (by kernel_rfl)) F (by decide) (v := .int .i64 0) (fun W_ => x_assign rfl) (fun a F => ?_)
      unfold wpSeq
      refine t_normal ?_
      refine c_ret (by kernel_rfl) ?_
      refine p_list (rs := [.tmp 2, .tmp 3]) (vs := [.string (((wI au) ++ (wI n)) ++ (lb (l.map encT))), .int .i64 0]) Tryd.results31 (by simp) F (Vals.tmp' F rfl (Vals.tmp' F rfl .nil)) ?_
      rw [show benc au n l = (bencB au n l, 0) from if_pos hz]
      exact ⟨rfl, H.ends⟩
end Go.Proofs.YtndicjikjcifaaaDoor

/- A batch that the check lets pass: what follows for its parts. Plain lemmas. -/
namespace Go.Proofs.YtndicjikjcifaaaDoor
open Go.RowKit Go.Shelf Go.Lib Go.Proofs.YtndicjikjcifaaaDoorW.PrintWords Go.Proofs.YtndicjikjcifaaaDoorW.PrintLast
open PB (S33 k33)
set_option linter.unusedVariables false
set_option linter.unusedSimpArgs false
theorem bchL_ok : ∀ l : List S33, bchL l = 0 → ∀ t ∈ l, chT t = 0
  | [], _, t, ht => by cases ht
  | x :: r, h, t, ht => by
    rw [bchL] at h
    by_cases hx : chT x = 0
    · rw [if_pos hx] at h
      rcases List.mem_cons.1 ht with rfl | ht
      · exact hx
      · exact bchL_ok r h t ht
    · rw [if_neg hx] at h
      exact absurd h hx
theorem bchk_ok {a n : Int} {l : List S33} (h : bchk a n l = 0) : 0 ≤ a ∧ a ≤ 6 ∧ 1 ≤ n ∧ n ≤ 4611686018427387903 ∧ l.length ≠ 0 ∧ l.length ≤ 16 ∧ ∀ t ∈ l, chT t = 0 := by
  unfold bchk at h
  by_cases h1 : a < 0 ∨ 6 < a ∨ n < 1 ∨ 4611686018427387903 < n
  · rw [if_pos h1] at h; exact absurd h (by decide)
  rw [if_neg h1] at h
  by_cases h2 : l.length = 0
  · rw [if_pos h2] at h; exact absurd h (by decide)
  rw [if_neg h2] at h
  by_cases h3 : 16 < l.length
  · rw [if_pos h3] at h; exact absurd h (by decide)
  rw [if_neg h3] at h
  exact ⟨by omega, by omega, by omega, by omega, h2, by omega, bchL_ok l h⟩
theorem wI_size (a : Int) : (wI a).size ≤ 100 := by
  unfold wI wire_Int.f
  rw [Option.getD_some]
  split
  · exact Nat.zero_le _
  · rename_i h
    have e9 : (128 : Nat) ^ (8 + 1) = 9223372036854775808 := by decide
    have h1 := vints_len 8 a.toNat (by rw [e9]; omega)
    have e : (strOfNums (vints a.toNat)).size = (vints a.toNat).length := by simp [strOfNums, ByteArray.size]
    omega
theorem encB_size {k : Int} {f t : ByteArray} {am nc : Int} {ky' vl : ByteArray} {rs ws : List ByteArray} (h : Fine k f t am nc ky' vl rs ws) : (encB k f t am nc ky' vl rs ws).size ≤ 1000 := by
  have h1 := ib_size k
  have h2 := tb_size f
  have h3 := tb_size t
  have h4 := ib_size am
  have h5 := ib_size nc
  have h6 := tb_size ky'
  have h7 := tb_size vl
  obtain ⟨r1, r2⟩ := ke_zero h.rs
  obtain ⟨w1, w2⟩ := ke_zero h.ws
  have h8 := lb_size 34 rs r2
  have h9 := lb_size 34 ws w2
  have a2 := h.f
  have a3 := h.t
  have a6 := h.ky
  have a7 := h.vl
  have e8 : (lb rs).data.toList.length = (lbL rs).length := by simp [lb]
  have e9 : (lb ws).data.toList.length = (lbL ws).length := by simp [lb]
  have e0 : ∀ x : ByteArray, x.data.toList.length = x.size := fun x => by rw [Array.length_toList]; rfl
  unfold encB
  show (Lib.join _ _).toArray.size ≤ 1000
  rw [e0] at e8 e9
  simp only [encL, List.map_cons, List.map_nil, Lib.join, List.size_toArray, List.intercalate, List.intersperse, List.flatten_cons, List.flatten_nil, List.length_append, List.append_assoc, List.nil_append, List.length_nil, List.append_nil, e0]
  omega
theorem batch_size {a n : Int} {l : List S33} (h : bchk a n l = 0) : (lbL (l.map encT)).length ≤ 20000 := by
  obtain ⟨_, _, _, _, _, h16, hc⟩ := bchk_ok h
  have hx : ∀ x ∈ l.map encT, x.size ≤ 1000 := by
    intro x hx
    obtain ⟨t, ht, rfl⟩ := List.mem_map.1 hx
    have h0 : ch t.f0 t.f1 t.f2 t.f3 t.f4 t.f5 t.f6 t.f7 t.f8 = 0 := hc t ht
    unfold encT enc
    rw [if_pos h0]
    exact encB_size (ch_fine h0)
  have := lb_size 1000 _ hx
  rw [List.length_map] at this
  have h2 : l.length * (9 + 1000) ≤ 16 * (9 + 1000) := Nat.mul_le_mul_right _ h16
  omega
theorem benc_calls' (au n : Int) (A : Option Addr) (c : Nat) (l : List S33) (w : World) (hr : k33.C w A l.length l) (hc : l.length ≤ c) (hl : l.length < 4611686018427387904) (hp : ∀ t ∈ l, 0 ≤ t.f3 ∧ 0 ≤ t.f4) :
    Calls Tryd.prog 31 #[.agg #[.int .i64 au, .int .i64 n, .slice A l.length c]] w fun e w' => e = .returned (.tuple #[.string (benc au n l).1, .int .i64 (benc au n l).2]) ∧ Below w.heap.size w w' :=
  benc_calls au n A c l w hr hc hl hp (fun h => Nat.le_trans (batch_size h) (by decide)) (fun h => (bchk_ok h).2.2.2.2.2.1) ⟨wI_size au, wI_size n⟩
theorem benc_size (a n : Int) (l : List S33) : (benc a n l).1.size ≤ 30000 := by
  unfold benc
  by_cases h : bchk a n l = 0
  · rw [if_pos h]
    have h1 := wI_size a
    have h2 := wI_size n
    have h3 := batch_size h
    have h4 : (lb (l.map encT)).size = (lbL (l.map encT)).length := rfl
    show (wI a ++ wI n ++ lb (l.map encT)).size ≤ 30000
    simp only [ByteArray.size_append]
    omega
  · rw [if_neg h]; exact Nat.zero_le _
end Go.Proofs.YtndicjikjcifaaaDoor

/- The program's sealer: Add. -/
namespace Go.Proofs.YtndicjikjcifaaaDoor
open Go.RowKit Go.Proofs.YtndicjikjcifaaaDoorW.PrintWords Go.Proofs.YtndicjikjcifaaaDoorW.PrintLast
set_option linter.unusedVariables false
set_option linter.unusedSimpArgs false
set_option maxRecDepth 100000
open PB (S33 k33)
def AddP (T : TypeId) (z : Int) (g : Nat) (a0 s0 t0 k0 n0 : Int) (A : Option Addr) (c : Nat) (xs : List S33) (ok : Nat → Prop) (t : S33) (w : World) (Sf Rf : Nat → Prop) (M : List Asn) (e : Ending) (W : World) : Prop :=
  (z ≠ 0 ∧ e = .returned (.int .i64 z) ∧ St w Sf Rf (Asn.blk g [.int .i64 a0, .int .i64 s0, .int .i64 t0, .slice A xs.length c, .int .i64 k0, .int .i64 n0] T :: Asn.qu k33 33 (.slice A xs.length c) xs ok :: M) W) ∨
  (z = 0 ∧ (xs.length : Int) ≥ 4 * s0 ∧ e = .returned (.int .i64 4) ∧ St w Sf Rf (Asn.blk g [.int .i64 a0, .int .i64 s0, .int .i64 t0, .slice A xs.length c, .int .i64 k0, .int .i64 n0] T :: Asn.qu k33 33 (.slice A xs.length c) xs ok :: M) W) ∨
  (z = 0 ∧ ¬ (xs.length : Int) ≥ 4 * s0 ∧ e = .returned (.int .i64 0) ∧ ∃ A' c' ok', St w Sf Rf (Asn.blk g [.int .i64 a0, .int .i64 s0, .int .i64 t0, .slice A' (xs ++ [t]).length c', .int .i64 k0, .int .i64 n0] T :: Asn.qu k33 33 (.slice A' (xs ++ [t]).length c') (xs ++ [t]) ok' :: M) W)
set_option maxHeartbeats 1000000 in
theorem add_calls (g : Nat) (a0 s0 t0 k0 n0 : Int) (A : Option Addr) (c : Nat) (xs : List S33) (ok ok2 : Nat → Prop) (t : S33) (A7 A8 : Option Addr) (c7 c8 : Nat) (w : World) {Sf Rf : Nat → Prop} (hs0 : 1 ≤ s0) (hs1 : s0 ≤ 16)
    (H : St w Sf Rf [Asn.blk g [.int .i64 a0, .int .i64 s0, .int .i64 t0, .slice A xs.length c, .int .i64 k0, .int .i64 n0] 72, Asn.qu k33 33 (.slice A xs.length c) xs ok, Asn.fk k33 ok2 t (txc t A7 c7 A8 c8)] w) : Calls Tryd.prog 18 #[.pointer (some ⟨g, 0, none⟩), .agg (txc t A7 c7 A8 c8).toArray] w (AddP 72 (chT t) g a0 s0 t0 k0 n0 A c xs ok t w Sf Rf [Asn.fk k33 ok2 t (txc t A7 c7 A8 c8)]) := by
  refine c_enter2 (args := [.pointer (some ⟨g, 0, none⟩), .agg (txc t A7 c7 A8 c8).toArray]) (S := Sf) (R := Rf) (M := [Asn.blk g [.int .i64 a0, .int .i64 s0, .int .i64 t0, .slice A xs.length c, .int .i64 k0, .int .i64 n0] 72, Asn.qu k33 33 (.slice A xs.length c) xs ok, Asn.fk k33 ok2 t (txc t A7 c7 A8 c8)]) Tryd.func18 (by kernel_rfl) 42 Tryd.ntmps18 (Nat.le_of_ble_eq_true rfl) (H) (fun a W F H => ?_)
  have F := F.less [(0, .pointer (some ⟨g, 0, none⟩)), (1, .agg (txc t A7 c7 A8 c8).toArray)] (subc rfl (subc rfl sub0))
  refine c_seq (by kernel_rfl) ?_
  refine c_text (id := 0) (by kernel_rfl) [(0, 2), (1, 2)] (by kernel_rfl) ?_
  refine sq_new (o_s 3 (.box 33 (.tmp 1)) 0 (by kernel_rfl)) trivial F (by decide) H (txc t A7 c7 A8 c8) 33 (x_box (F.slot rfl) rfl) ?_
  intro g1 W a hg1 H F
  refine ⟨(fun _ => trivial), ?_⟩
  refine q2 (o_s 4 (.assign (.const (.int .i64 0))) 24 (by kernel_rfl)) F (by decide) (v := .int .i64 0) (x_assign rfl) (fun a F => ?_)
  unfold wpSeq
  have H : St w Sf Rf [Asn.blk g [.int .i64 a0, .int .i64 s0, .int .i64 t0, .slice A xs.length c, .int .i64 k0, .int .i64 n0] 72, Asn.qu k33 33 (.slice A xs.length c) xs ok, Asn.fk k33 ok2 t (txc t A7 c7 A8 c8), Asn.blk g1 (txc t A7 c7 A8 c8) 33] W := H
  refine t_normal ?_
  refine c_seq (by kernel_rfl) ?_
  refine c_seq (by kernel_rfl) ?_
  refine c_text (id := 1) (by kernel_rfl) [(0, 2), (1, 2), (2, 2)] (by kernel_rfl) ?_
  refine q2 (o_s 6 (.load 33 (.tmp 3)) 33 (by kernel_rfl)) F (by decide) (v := .agg (txc t A7 c7 A8 c8).toArray) (x_loadB (Tryd.isAgg33 W) (txc t A7 c7 A8 c8) (Tryd.sizeOf33 W) (F.slot rfl) (H.blk 3 rfl)) (fun a F => ?_)
  obtain ⟨l7, g7, l8, g8⟩ := k33_parts (H.rd 2 rfl)
  obtain ⟨z, hz⟩ : ∃ z, chT t = z := ⟨_, rfl⟩
  refine sqc (o_s 7 (.call { callee := (.value (.func 41)), args := #[(.tmp 6)], argTypes := #[33] }) 24 (by kernel_rfl)) trivial F (by decide) (x_call Tryd.func41 (by kernel_rfl) rfl (args_1 (F.slot rfl))) (tx_Check.calls t.f0 t.f1 t.f2 t.f3 t.f4 t.f5 t.f6 A7 c7 t.f7 A8 c8 t.f8 z W g7 l7 g8 l8 (congrArg some hz)) ?_
  rintro e W ⟨rfl, hB⟩
  refine ⟨_, rfl, fun a F => ?_⟩
  have H := H.below hB
  refine ⟨(fun _ => trivial), ?_⟩
  refine q2 (o_s 5 (.assign (.tmp 7)) 24 (by kernel_rfl)) F (by decide) (v := .int .i64 z) (x_assign (F.slot rfl)) (fun a F => ?_)
  unfold wpSeq
  refine t_normal ?_
  refine c_seq (by kernel_rfl) ?_
  refine c_text (id := 2) (by kernel_rfl) [(0, 2), (1, 2)] (by kernel_rfl) ?_
  refine q2 (o_s 8 (.move (.tmp 5)) 24 (by kernel_rfl)) F (by decide) (x_move (F.slot rfl)) (fun a F => ?_)
  refine q2 (o_s 9 (.binOp .neq 24 (.tmp 8) (.const (.int .i64 0)) 24) 4 (by kernel_rfl)) F (by decide) (v := .bool (z != (0 : Int))) (x_int (F.slot rfl) rfl rfl) (fun a F => ?_)
  unfold wpSeq
  refine t_normal ?_
  rcases bool_or (z != (0 : Int)) with hb2 | hb2
  · have F := F.at 9 rfl (v' := .bool true) (congrArg Value.bool hb2)
    refine c_yes (c := .tmp 9) (by kernel_rfl) (F.slot rfl) ?_
    refine c_seq (by kernel_rfl) ?_
    refine c_text (id := 3) (by kernel_rfl) [(0, 2), (1, 2)] (by kernel_rfl) ?_
    refine q2 (o_s 10 (.move (.tmp 5)) 24 (by kernel_rfl)) F (by decide) (x_move (F.slot rfl)) (fun a F => ?_)
    refine q2 (o_s 4 (.assign (.tmp 10)) 24 (by kernel_rfl)) F (by decide) (v := .int .i64 z) (x_assign (F.slot rfl)) (fun a F => ?_)
    unfold wpSeq
    refine t_normal ?_
    refine c_ret (by kernel_rfl) ?_
    refine t_ret ?_
    refine p_tmp Tryd.results18 F rfl ?_
    exact .inl ⟨by rw [hz]; simpa using hb2, by rw [hz], H.front 3⟩
  · have F := F.at 9 rfl (v' := .bool false) (congrArg Value.bool hb2)
    refine c_no (c := .tmp 9) (by kernel_rfl) (F.slot rfl) ?_
    refine c_skip (by kernel_rfl) ?_
    refine t_normal ?_
    refine c_seq (by kernel_rfl) ?_
    refine c_seq (by kernel_rfl) ?_
    refine c_drawn (id := 4) (by kernel_rfl) (by kernel_rfl) (Vs [Asn.blk g [.int .i64 a0, .int .i64 s0, .int .i64 t0, .slice A xs.length c, .int .i64 k0, .int .i64 n0] 72]) [0, 1, 3, 7, 15, 0, 32, 96, 224, 480, 1023] [] [(0, 0), (1, 0), (2, 0), (5, 0), (6, 0), (7, 0), (3, 1), (4, 0), (8, 1), (9, 0), (10, 0)] (by kernel_rfl) (fun _ _ d _ _ h => by cases d <;> exact h) (Vs.drew ⟨H.get 0 rfl, trivial⟩) ?_
    have H := H.drew
    generalize World.drew W = W at H ⊢
    refine q0 (o_s 11 (.move (.tmp 0)) 23 (by kernel_rfl)) F (by decide) (fun W_ => x_move (F.slot rfl)) (fun a F => ?_)
    refine q0 (o_s 12 (.nilCheck (.tmp 11)) 0 (by kernel_rfl)) F (by decide) (v := .pointer (some ⟨g, 0, none⟩)) (fun W_ => x_nil (F.slot rfl)) (fun a F => ?_)
    refine q0 (o_s 13 (.fieldAddr 72 (.tmp 12) 3) 0 (by kernel_rfl)) F (by decide) (v := .pointer (some ⟨g, 3, none⟩)) (fun W_ => x_field0 Tryd.underlying72 rfl rfl (Tryd.sizeOf38 W_) (F.slot rfl)) (fun a F => ?_)
    refine q0 (o_s 16 (.move (.tmp 0)) 23 (by kernel_rfl)) F (by decide) (fun W_ => x_move (F.slot rfl)) (fun a F => ?_)
    refine q0 (o_s 17 (.nilCheck (.tmp 16)) 0 (by kernel_rfl)) F (by decide) (v := .pointer (some ⟨g, 0, none⟩)) (fun W_ => x_nil (F.slot rfl)) (fun a F => ?_)
    refine q0 (o_s 18 (.fieldAddr 72 (.tmp 17) 1) 0 (by kernel_rfl)) F (by decide) (v := .pointer (some ⟨g, 1, none⟩)) (fun W_ => x_field0 Tryd.underlying72 rfl rfl (Tryd.sizeOf3 W_) (F.slot rfl)) (fun a F => ?_)
    refine q1 (o_s 14 (.load 38 (.tmp 13)) 38 (by kernel_rfl)) F (by decide) (⟨H.get 0 rfl, trivial⟩) (v := .slice A xs.length c) (fun W_ hV => x_load1 (Tryd.isAgg38 W_) (F.slot rfl) (bcell hV.1 rfl)) (fun a F => ?_)
    refine q0 (o_s 15 (.call { callee := (.builtin .len), args := #[(.tmp 14)], argTypes := #[38] }) 3 (by kernel_rfl)) F (by decide) (v := .int .i64 (xs.length : Int)) (fun W_ => x_lenL Tryd.underlying38 (F.slot rfl)) (fun a F => ?_)
    refine q1 (o_s 19 (.load 3 (.tmp 18)) 3 (by kernel_rfl)) F (by decide) (⟨H.get 0 rfl, trivial⟩) (v := .int .i64 s0) (fun W_ hV => x_load1 (Tryd.isAgg3 W_) (F.slot rfl) (bcell hV.1 rfl)) (fun a F => ?_)
    refine q0 (o_s 20 (.binOp .mul 3 (.const (.int .i64 4)) (.tmp 19) 3) 3 (by kernel_rfl)) F (by decide) (v := .int .i64 (IntKind.i64.wrap (4 * s0))) (fun W_ => x_int rfl (F.slot rfl) rfl) (fun a F => ?_)
    have F := F.conv (v' := .int .i64 (4 * s0)) (congrArg (Value.int .i64) (wrap_i64 _ (by omega) (by omega)))
    refine q0 (o_s 21 (.binOp .geq 3 (.tmp 15) (.tmp 20) 3) 4 (by kernel_rfl)) F (by decide) (v := .bool (decide ((xs.length : Int) ≥ (4 * s0)))) (fun W_ => x_int (F.slot rfl) (F.slot rfl) rfl) (fun a F => ?_)
    unfold wpSeq
    refine t_normal ?_
    rcases bool_or (decide ((xs.length : Int) ≥ (4 * s0))) with hb4 | hb4
    · have hb4d := of_decide_eq_true hb4
      have F := F.at 21 rfl (v' := .bool true) (congrArg Value.bool hb4)
      refine c_yes (c := .tmp 21) (by kernel_rfl) (F.slot rfl) ?_
      refine c_seq (by kernel_rfl) ?_
      refine c_text (id := 5) (by kernel_rfl) [(0, 2)] (by kernel_rfl) ?_
      refine q2 (o_s 4 (.assign (.const (.int .i64 4))) 24 (by kernel_rfl)) F (by decide) (v := .int .i64 4) (x_assign rfl) (fun a F => ?_)
      unfold wpSeq
      refine t_normal ?_
      refine c_ret (by kernel_rfl) ?_
      refine t_ret ?_
      refine p_tmp Tryd.results18 F rfl ?_
      exact .inr (.inl ⟨by rw [hz]; simpa using hb2, by omega, rfl, H.front 3⟩)
    · have hb4d := of_decide_eq_false hb4
      have F := F.at 21 rfl (v' := .bool false) (congrArg Value.bool hb4)
      refine c_no (c := .tmp 21) (by kernel_rfl) (F.slot rfl) ?_
      refine c_skip (by kernel_rfl) ?_
      refine t_normal ?_
      refine c_cut (by kernel_rfl) (fun a W => ∃ (A6_3 : Option Addr) (c6_3 : Nat) (A6_7 : Option Addr) (c6_7 : Nat), Fr 42 [(0, .pointer (some ⟨g, 0, none⟩)), (1, .agg (txc t A7 c7 A8 c8).toArray), (3, .pointer (some ⟨g1, 0, none⟩)), (4, .int .i64 0), (6, .agg (txc t A7 c7 A8 c8).toArray), (7, .int .i64 z), (5, .int .i64 z), (8, .int .i64 z), (9, .bool false), (11, .pointer (some ⟨g, 0, none⟩)), (12, .pointer (some ⟨g, 0, none⟩)), (13, .pointer (some ⟨g, 3, none⟩)), (16, .pointer (some ⟨g, 0, none⟩)), (17, .pointer (some ⟨g, 0, none⟩)), (18, .pointer (some ⟨g, 1, none⟩)), (14, .slice A xs.length c), (15, .int .i64 (xs.length : Int)), (19, .int .i64 s0), (20, .int .i64 (4 * s0)), (21, .bool false)] a ∧ St w Sf Rf [Asn.blk g [.int .i64 a0, .int .i64 s0, .int .i64 t0, .slice A xs.length c, .int .i64 k0, .int .i64 n0] 72, Asn.qu k33 33 (.slice A xs.length c) xs ok, Asn.fk k33 ok2 t (txc t A7 c7 A8 c8), Asn.blk g1 [.int .i64 t.f0, .string t.f1, .string t.f2, .int .u64 t.f3, .int .u64 t.f4, .string t.f5, .string t.f6, .slice A6_3 ((t.f7).length) c6_3, .slice A6_7 ((t.f8).length) c6_7] 33, Asn.rd Kd.string ok2 A7 t.f7.length t.f7, Asn.rd Kd.string ok2 A8 t.f8.length t.f8, Asn.qu Kd.string 9 (.slice A6_3 ((t.f7).length) c6_3) t.f7 (fun _ => False), Asn.qu Kd.string 9 (.slice A6_7 ((t.f8).length) c6_7) t.f8 (fun _ => False)] W ∧ ((t.f7).length ≤ c6_3) ∧ ((t.f8).length ≤ c6_7)) ?_ ?_
      · have hF := ch_fine (show chT t = 0 from hz.trans (by simpa using hb2))
        have hr7 := (ke_zero hF.rs).1
        have hr8 := (ke_zero hF.ws).1
        have H := H.addF1 2 rfl (fun _ h => h) (fun W => Kd.string.C W A7 t.f7.length t.f7) ok2 (fun _ h => h) (Foot.imp (H.get 2 rfl) (fun W' h => (k33_parts h).2.1))
        have H := H.addF1 2 rfl (fun _ h => h) (fun W => Kd.string.C W A8 t.f8.length t.f8) ok2 (fun _ h => h) (Foot.imp (H.get 2 rfl) (fun W' h => (k33_parts h).2.2.2))
        have H : St w Sf Rf [Asn.blk g [.int .i64 a0, .int .i64 s0, .int .i64 t0, .slice A xs.length c, .int .i64 k0, .int .i64 n0] 72, Asn.qu k33 33 (.slice A xs.length c) xs ok, Asn.fk k33 ok2 t (txc t A7 c7 A8 c8), Asn.blk g1 (txc t A7 c7 A8 c8) 33, Asn.rd Kd.string ok2 A7 t.f7.length t.f7, Asn.rd Kd.string ok2 A8 t.f8.length t.f8] W := H
        refine c_drawnT (id := 6) (by kernel_rfl) (by kernel_rfl) (Vs [Asn.blk g1 (txc t A7 c7 A8 c8) 33]) [0, 0, 2, 7, 0, 0, 32, 127, 111, 511, 1023, 2047] [9, 11] (.two [(1, 0), (5, 0), (2, 1), (6, 1)] 0 (.two [] 3 (.line [(8, 0), (4, 2), (7, 2), (9, 2), (10, 0), (11, 2)]) 4 (.line [(3, 2), (8, 0), (7, 2), (9, 2), (10, 0), (11, 2)])) 4 (.line [(0, 2), (3, 2), (8, 0), (7, 2), (9, 2), (10, 0), (11, 2)])) (by kernel_rfl) (fun _ _ d _ _ h => by cases d <;> exact h) (Vs.drew ⟨H.get 3 rfl, trivial⟩) ?_
        have H := H.drew
        generalize World.drew W = W at H ⊢
        refine t_two ?_
        refine q0 (o_s 23 (.fieldAddr 33 (.tmp 3) 7) 0 (by kernel_rfl)) F (by decide) (v := .pointer (some ⟨g1, 7, none⟩)) (fun W_ => x_field0 Tryd.underlying33 rfl rfl (Tryd.sizeOf31 W_) (F.slot rfl)) (fun a F => ?_)
        refine q0 (o_s 27 (.fieldAddr 33 (.tmp 3) 8) 0 (by kernel_rfl)) F (by decide) (v := .pointer (some ⟨g1, 8, none⟩)) (fun W_ => x_field0 Tryd.underlying33 rfl rfl (Tryd.sizeOf31 W_) (F.slot rfl)) (fun a F => ?_)
        refine q1 (o_s 24 (.load 31 (.tmp 23)) 31 (by kernel_rfl)) F (by decide) (⟨H.get 3 rfl, trivial⟩) (v := .slice A7 t.f7.length c7) (fun W_ hV => x_load1 (Tryd.isAgg31 W_) (F.slot rfl) (bcell hV.1 rfl)) (fun a F => ?_)
        refine q1 (o_s 28 (.load 31 (.tmp 27)) 31 (by kernel_rfl)) F (by decide) (⟨H.get 3 rfl, trivial⟩) (v := .slice A8 t.f8.length c8) (fun W_ hV => x_load1 (Tryd.isAgg31 W_) (F.slot rfl) (bcell hV.1 rfl)) (fun a F => ?_)
        refine sq_nil ?_
        refine f_two ?_ ?_
        · refine sq_lit0 Kd.string (o_s 22 (.buildSlice 31 0 #[]) 31 (by kernel_rfl)) trivial F (by decide) Tryd.underlying31 (show (Tryd.prog.info? 9).map (fun i => (i.zero, i.size, i.bytes)) = some (some (.string ⟨#[]⟩), 1, 16) by kernel_rfl) H ?_
          intro A6_0 W a H F
          refine ⟨(fun _ => ⟨H.get 3 rfl, trivial⟩), ?_⟩
          refine sq_nil ?_
          refine t_normal ?_
          refine t_two ?_
          refine sq_nil ?_
          refine f_two ?_ ?_
          · refine sq_rapp Kd.string 6 4 (by decide) (o_s 25 (.call { callee := (.builtin .append), args := #[(.tmp 22), (.tmp 24)], argTypes := #[31, 31] }) 31 (by kernel_rfl)) trivial F (by decide) (F.slot rfl) (F.slot rfl) (rfl) Tryd.underlying31 (show (Tryd.prog.info? 9).map (fun i => (i.zero, i.size, i.bytes)) = some (some (.string ⟨#[]⟩), 1, 16) by kernel_rfl) rfl (by decide) (by decide) H rfl rfl (by simp only [List.length_nil]; omega) ?_
            intro v_ W a H F
            rw [List.nil_append] at H
            have H := H.quFlat 6 string_flat rfl
            obtain ⟨A6_3, c6_3, rfl, hc6_3⟩ := (H.qu 6 rfl).form
            have H : St w Sf Rf [Asn.blk g [.int .i64 a0, .int .i64 s0, .int .i64 t0, .slice A xs.length c, .int .i64 k0, .int .i64 n0] 72, Asn.qu k33 33 (.slice A xs.length c) xs ok, Asn.fk k33 ok2 t (txc t A7 c7 A8 c8), Asn.blk g1 (txc t A7 c7 A8 c8) 33, Asn.rd Kd.string ok2 A7 t.f7.length t.f7, Asn.rd Kd.string ok2 A8 t.f8.length t.f8, Asn.qu Kd.string 9 (.slice A6_3 ((t.f7).length) c6_3) t.f7 (fun _ => False)] W := H
            refine ⟨(fun _ => ⟨H.get 3 rfl, trivial⟩), ?_⟩
            refine sq_nil ?_
            refine t_normal ?_
            refine t_line ?_
            refine q0 (o_s 30 (.fieldAddr 33 (.tmp 3) 7) 0 (by kernel_rfl)) F (by decide) (v := .pointer (some ⟨g1, 7, none⟩)) (fun W_ => x_field0 Tryd.underlying33 rfl rfl (Tryd.sizeOf31 W_) (F.slot rfl)) (fun a F => ?_)
            refine sq_lit0 Kd.string (o_s 26 (.buildSlice 31 0 #[]) 31 (by kernel_rfl)) trivial F (by decide) Tryd.underlying31 (show (Tryd.prog.info? 9).map (fun i => (i.zero, i.size, i.bytes)) = some (some (.string ⟨#[]⟩), 1, 16) by kernel_rfl) H ?_
            intro A6_4 W a H F
            refine ⟨(fun _ => ⟨H.get 3 rfl, trivial⟩), ?_⟩
            refine sq_rapp Kd.string 7 5 (by decide) (o_s 29 (.call { callee := (.builtin .append), args := #[(.tmp 26), (.tmp 28)], argTypes := #[31, 31] }) 31 (by kernel_rfl)) trivial F (by decide) (F.slot rfl) (F.slot rfl) (rfl) Tryd.underlying31 (show (Tryd.prog.info? 9).map (fun i => (i.zero, i.size, i.bytes)) = some (some (.string ⟨#[]⟩), 1, 16) by kernel_rfl) rfl (by decide) (by decide) H rfl rfl (by simp only [List.length_nil]; omega) ?_
            intro v_ W a H F
            rw [List.nil_append] at H
            have H := H.quFlat 7 string_flat rfl
            obtain ⟨A6_7, c6_7, rfl, hc6_7⟩ := (H.qu 7 rfl).form
            have H : St w Sf Rf [Asn.blk g [.int .i64 a0, .int .i64 s0, .int .i64 t0, .slice A xs.length c, .int .i64 k0, .int .i64 n0] 72, Asn.qu k33 33 (.slice A xs.length c) xs ok, Asn.fk k33 ok2 t (txc t A7 c7 A8 c8), Asn.blk g1 (txc t A7 c7 A8 c8) 33, Asn.rd Kd.string ok2 A7 t.f7.length t.f7, Asn.rd Kd.string ok2 A8 t.f8.length t.f8, Asn.qu Kd.string 9 (.slice A6_3 ((t.f7).length) c6_3) t.f7 (fun _ => False), Asn.qu Kd.string 9 (.slice A6_7 ((t.f8).length) c6_7) t.f8 (fun _ => False)] W := H
            refine ⟨(fun _ => ⟨H.get 3 rfl, trivial⟩), ?_⟩
            refine sq_put (M := [Asn.blk g [.int .i64 a0, .int .i64 s0, .int .i64 t0, .slice A xs.length c, .int .i64 k0, .int .i64 n0] 72, Asn.qu k33 33 (.slice A xs.length c) xs ok, Asn.fk k33 ok2 t (txc t A7 c7 A8 c8), Asn.blk g1 [.int .i64 t.f0, .string t.f1, .string t.f2, .int .u64 t.f3, .int .u64 t.f4, .string t.f5, .string t.f6, .slice A6_3 ((t.f7).length) c6_3, .slice A8 t.f8.length c8] 33, Asn.rd Kd.string ok2 A7 t.f7.length t.f7, Asn.rd Kd.string ok2 A8 t.f8.length t.f8, Asn.qu Kd.string 9 (.slice A6_3 ((t.f7).length) c6_3) t.f7 (fun _ => False), Asn.qu Kd.string 9 (.slice A6_7 ((t.f8).length) c6_7) t.f8 (fun _ => False)]) (o_n (.store 31 (.tmp 30) (.tmp 25)) 0 (by kernel_rfl)) trivial F (x_store H (k := 3) (cs' := [.int .i64 t.f0, .string t.f1, .string t.f2, .int .u64 t.f3, .int .u64 t.f4, .string t.f5, .string t.f6, .slice A6_3 ((t.f7).length) c6_3, .slice A8 t.f8.length c8]) rfl (Tryd.sizeOf31 W) (F.slot rfl) (F.slot rfl) rfl (Nat.le_of_ble_eq_true rfl) rfl rfl) ?_
            intro W H
            refine ⟨(fun h => absurd (by decide) h), ?_⟩
            refine q0 (o_s 31 (.fieldAddr 33 (.tmp 3) 8) 0 (by kernel_rfl)) F (by decide) (v := .pointer (some ⟨g1, 8, none⟩)) (fun W_ => x_field0 Tryd.underlying33 rfl rfl (Tryd.sizeOf31 W_) (F.slot rfl)) (fun a F => ?_)
            refine sq_put (M := [Asn.blk g [.int .i64 a0, .int .i64 s0, .int .i64 t0, .slice A xs.length c, .int .i64 k0, .int .i64 n0] 72, Asn.qu k33 33 (.slice A xs.length c) xs ok, Asn.fk k33 ok2 t (txc t A7 c7 A8 c8), Asn.blk g1 [.int .i64 t.f0, .string t.f1, .string t.f2, .int .u64 t.f3, .int .u64 t.f4, .string t.f5, .string t.f6, .slice A6_3 ((t.f7).length) c6_3, .slice A6_7 ((t.f8).length) c6_7] 33, Asn.rd Kd.string ok2 A7 t.f7.length t.f7, Asn.rd Kd.string ok2 A8 t.f8.length t.f8, Asn.qu Kd.string 9 (.slice A6_3 ((t.f7).length) c6_3) t.f7 (fun _ => False), Asn.qu Kd.string 9 (.slice A6_7 ((t.f8).length) c6_7) t.f8 (fun _ => False)]) (o_n (.store 31 (.tmp 31) (.tmp 29)) 0 (by kernel_rfl)) trivial F (x_store H (k := 3) (cs' := [.int .i64 t.f0, .string t.f1, .string t.f2, .int .u64 t.f3, .int .u64 t.f4, .string t.f5, .string t.f6, .slice A6_3 ((t.f7).length) c6_3, .slice A6_7 ((t.f8).length) c6_7]) rfl (Tryd.sizeOf31 W) (F.slot rfl) (F.slot rfl) rfl (Nat.le_of_ble_eq_true rfl) rfl rfl) ?_
            intro W H
            refine ⟨(fun h => absurd (by decide) h), ?_⟩
            refine sq_nil ?_
            refine t_normal ?_
            exact ⟨A6_3, c6_3, A6_7, c6_7, F.less _ (subc rfl (subc rfl (subc rfl (subc rfl (subc rfl (subc rfl (subc rfl (subc rfl (subc rfl (subc rfl (subc rfl (subc rfl (subc rfl (subc rfl (subc rfl (subc rfl (subc rfl (subc rfl (subc rfl (subc rfl sub0)))))))))))))))))))), H, hc6_3, hc6_7⟩
          · refine sq_lit0 Kd.string (o_s 26 (.buildSlice 31 0 #[]) 31 (by kernel_rfl)) trivial F (by decide) Tryd.underlying31 (show (Tryd.prog.info? 9).map (fun i => (i.zero, i.size, i.bytes)) = some (some (.string ⟨#[]⟩), 1, 16) by kernel_rfl) H ?_
            intro A6_4 W a H F
            refine ⟨(fun _ => ⟨H.get 3 rfl, trivial⟩), ?_⟩
            refine sq_nil ?_
            refine t_normal ?_
            refine t_line ?_
            refine sq_rapp Kd.string 6 4 (by decide) (o_s 25 (.call { callee := (.builtin .append), args := #[(.tmp 22), (.tmp 24)], argTypes := #[31, 31] }) 31 (by kernel_rfl)) trivial F (by decide) (F.slot rfl) (F.slot rfl) (rfl) Tryd.underlying31 (show (Tryd.prog.info? 9).map (fun i => (i.zero, i.size, i.bytes)) = some (some (.string ⟨#[]⟩), 1, 16) by kernel_rfl) rfl (by decide) (by decide) H rfl rfl (by simp only [List.length_nil]; omega) ?_
            intro v_ W a H F
            rw [List.nil_append] at H
            have H := H.quFlat 6 string_flat rfl
            obtain ⟨A6_3, c6_3, rfl, hc6_3⟩ := (H.qu 6 rfl).form
            have H : St w Sf Rf [Asn.blk g [.int .i64 a0, .int .i64 s0, .int .i64 t0, .slice A xs.length c, .int .i64 k0, .int .i64 n0] 72, Asn.qu k33 33 (.slice A xs.length c) xs ok, Asn.fk k33 ok2 t (txc t A7 c7 A8 c8), Asn.blk g1 (txc t A7 c7 A8 c8) 33, Asn.rd Kd.string ok2 A7 t.f7.length t.f7, Asn.rd Kd.string ok2 A8 t.f8.length t.f8, Asn.qu Kd.string 9 (.slice A6_3 ((t.f7).length) c6_3) t.f7 (fun _ => False), Asn.qu Kd.string 9 (.slice A6_4 0 0) [] (fun _ => False)] W := H
            refine ⟨(fun _ => ⟨H.get 3 rfl, trivial⟩), ?_⟩
            refine q0 (o_s 30 (.fieldAddr 33 (.tmp 3) 7) 0 (by kernel_rfl)) F (by decide) (v := .pointer (some ⟨g1, 7, none⟩)) (fun W_ => x_field0 Tryd.underlying33 rfl rfl (Tryd.sizeOf31 W_) (F.slot rfl)) (fun a F => ?_)
            refine sq_rapp Kd.string 7 5 (by decide) (o_s 29 (.call { callee := (.builtin .append), args := #[(.tmp 26), (.tmp 28)], argTypes := #[31, 31] }) 31 (by kernel_rfl)) trivial F (by decide) (F.slot rfl) (F.slot rfl) (rfl) Tryd.underlying31 (show (Tryd.prog.info? 9).map (fun i => (i.zero, i.size, i.bytes)) = some (some (.string ⟨#[]⟩), 1, 16) by kernel_rfl) rfl (by decide) (by decide) H rfl rfl (by simp only [List.length_nil]; omega) ?_
            intro v_ W a H F
            rw [List.nil_append] at H
            have H := H.quFlat 7 string_flat rfl
            obtain ⟨A6_7, c6_7, rfl, hc6_7⟩ := (H.qu 7 rfl).form
            have H : St w Sf Rf [Asn.blk g [.int .i64 a0, .int .i64 s0, .int .i64 t0, .slice A xs.length c, .int .i64 k0, .int .i64 n0] 72, Asn.qu k33 33 (.slice A xs.length c) xs ok, Asn.fk k33 ok2 t (txc t A7 c7 A8 c8), Asn.blk g1 (txc t A7 c7 A8 c8) 33, Asn.rd Kd.string ok2 A7 t.f7.length t.f7, Asn.rd Kd.string ok2 A8 t.f8.length t.f8, Asn.qu Kd.string 9 (.slice A6_3 ((t.f7).length) c6_3) t.f7 (fun _ => False), Asn.qu Kd.string 9 (.slice A6_7 ((t.f8).length) c6_7) t.f8 (fun _ => False)] W := H
            refine ⟨(fun _ => ⟨H.get 3 rfl, trivial⟩), ?_⟩
            refine sq_put (M := [Asn.blk g [.int .i64 a0, .int .i64 s0, .int .i64 t0, .slice A xs.length c, .int .i64 k0, .int .i64 n0] 72, Asn.qu k33 33 (.slice A xs.length c) xs ok, Asn.fk k33 ok2 t (txc t A7 c7 A8 c8), Asn.blk g1 [.int .i64 t.f0, .string t.f1, .string t.f2, .int .u64 t.f3, .int .u64 t.f4, .string t.f5, .string t.f6, .slice A6_3 ((t.f7).length) c6_3, .slice A8 t.f8.length c8] 33, Asn.rd Kd.string ok2 A7 t.f7.length t.f7, Asn.rd Kd.string ok2 A8 t.f8.length t.f8, Asn.qu Kd.string 9 (.slice A6_3 ((t.f7).length) c6_3) t.f7 (fun _ => False), Asn.qu Kd.string 9 (.slice A6_7 ((t.f8).length) c6_7) t.f8 (fun _ => False)]) (o_n (.store 31 (.tmp 30) (.tmp 25)) 0 (by kernel_rfl)) trivial F (x_store H (k := 3) (cs' := [.int .i64 t.f0, .string t.f1, .string t.f2, .int .u64 t.f3, .int .u64 t.f4, .string t.f5, .string t.f6, .slice A6_3 ((t.f7).length) c6_3, .slice A8 t.f8.length c8]) rfl (Tryd.sizeOf31 W) (F.slot rfl) (F.slot rfl) rfl (Nat.le_of_ble_eq_true rfl) rfl rfl) ?_
            intro W H
            refine ⟨(fun h => absurd (by decide) h), ?_⟩
            refine q0 (o_s 31 (.fieldAddr 33 (.tmp 3) 8) 0 (by kernel_rfl)) F (by decide) (v := .pointer (some ⟨g1, 8, none⟩)) (fun W_ => x_field0 Tryd.underlying33 rfl rfl (Tryd.sizeOf31 W_) (F.slot rfl)) (fun a F => ?_)
            refine sq_put (M := [Asn.blk g [.int .i64 a0, .int .i64 s0, .int .i64 t0, .slice A xs.length c, .int .i64 k0, .int .i64 n0] 72, Asn.qu k33 33 (.slice A xs.length c) xs ok, Asn.fk k33 ok2 t (txc t A7 c7 A8 c8), Asn.blk g1 [.int .i64 t.f0, .string t.f1, .string t.f2, .int .u64 t.f3, .int .u64 t.f4, .string t.f5, .string t.f6, .slice A6_3 ((t.f7).length) c6_3, .slice A6_7 ((t.f8).length) c6_7] 33, Asn.rd Kd.string ok2 A7 t.f7.length t.f7, Asn.rd Kd.string ok2 A8 t.f8.length t.f8, Asn.qu Kd.string 9 (.slice A6_3 ((t.f7).length) c6_3) t.f7 (fun _ => False), Asn.qu Kd.string 9 (.slice A6_7 ((t.f8).length) c6_7) t.f8 (fun _ => False)]) (o_n (.store 31 (.tmp 31) (.tmp 29)) 0 (by kernel_rfl)) trivial F (x_store H (k := 3) (cs' := [.int .i64 t.f0, .string t.f1, .string t.f2, .int .u64 t.f3, .int .u64 t.f4, .string t.f5, .string t.f6, .slice A6_3 ((t.f7).length) c6_3, .slice A6_7 ((t.f8).length) c6_7]) rfl (Tryd.sizeOf31 W) (F.slot rfl) (F.slot rfl) rfl (Nat.le_of_ble_eq_true rfl) rfl rfl) ?_
            intro W H
            refine ⟨(fun h => absurd (by decide) h), ?_⟩
            refine sq_nil ?_
            refine t_normal ?_
            exact ⟨A6_3, c6_3, A6_7, c6_7, F.less _ (subc rfl (subc rfl (subc rfl (subc rfl (subc rfl (subc rfl (subc rfl (subc rfl (subc rfl (subc rfl (subc rfl (subc rfl (subc rfl (subc rfl (subc rfl (subc rfl (subc rfl (subc rfl (subc rfl (subc rfl sub0)))))))))))))))))))), H, hc6_3, hc6_7⟩
        · refine sq_lit0 Kd.string (o_s 26 (.buildSlice 31 0 #[]) 31 (by kernel_rfl)) trivial F (by decide) Tryd.underlying31 (show (Tryd.prog.info? 9).map (fun i => (i.zero, i.size, i.bytes)) = some (some (.string ⟨#[]⟩), 1, 16) by kernel_rfl) H ?_
          intro A6_4 W a H F
          refine ⟨(fun _ => ⟨H.get 3 rfl, trivial⟩), ?_⟩
          refine sq_nil ?_
          refine t_normal ?_
          refine t_line ?_
          refine sq_lit0 Kd.string (o_s 22 (.buildSlice 31 0 #[]) 31 (by kernel_rfl)) trivial F (by decide) Tryd.underlying31 (show (Tryd.prog.info? 9).map (fun i => (i.zero, i.size, i.bytes)) = some (some (.string ⟨#[]⟩), 1, 16) by kernel_rfl) H ?_
          intro A6_0 W a H F
          refine ⟨(fun _ => ⟨H.get 3 rfl, trivial⟩), ?_⟩
          refine sq_rapp Kd.string 7 4 (by decide) (o_s 25 (.call { callee := (.builtin .append), args := #[(.tmp 22), (.tmp 24)], argTypes := #[31, 31] }) 31 (by kernel_rfl)) trivial F (by decide) (F.slot rfl) (F.slot rfl) (rfl) Tryd.underlying31 (show (Tryd.prog.info? 9).map (fun i => (i.zero, i.size, i.bytes)) = some (some (.string ⟨#[]⟩), 1, 16) by kernel_rfl) rfl (by decide) (by decide) H rfl rfl (by simp only [List.length_nil]; omega) ?_
          intro v_ W a H F
          rw [List.nil_append] at H
          have H := H.quFlat 7 string_flat rfl
          obtain ⟨A6_3, c6_3, rfl, hc6_3⟩ := (H.qu 7 rfl).form
          have H : St w Sf Rf [Asn.blk g [.int .i64 a0, .int .i64 s0, .int .i64 t0, .slice A xs.length c, .int .i64 k0, .int .i64 n0] 72, Asn.qu k33 33 (.slice A xs.length c) xs ok, Asn.fk k33 ok2 t (txc t A7 c7 A8 c8), Asn.blk g1 (txc t A7 c7 A8 c8) 33, Asn.rd Kd.string ok2 A7 t.f7.length t.f7, Asn.rd Kd.string ok2 A8 t.f8.length t.f8, Asn.qu Kd.string 9 (.slice A6_4 0 0) [] (fun _ => False), Asn.qu Kd.string 9 (.slice A6_3 ((t.f7).length) c6_3) t.f7 (fun _ => False)] W := H
          refine ⟨(fun _ => ⟨H.get 3 rfl, trivial⟩), ?_⟩
          refine q0 (o_s 30 (.fieldAddr 33 (.tmp 3) 7) 0 (by kernel_rfl)) F (by decide) (v := .pointer (some ⟨g1, 7, none⟩)) (fun W_ => x_field0 Tryd.underlying33 rfl rfl (Tryd.sizeOf31 W_) (F.slot rfl)) (fun a F => ?_)
          refine sq_rapp Kd.string 6 5 (by decide) (o_s 29 (.call { callee := (.builtin .append), args := #[(.tmp 26), (.tmp 28)], argTypes := #[31, 31] }) 31 (by kernel_rfl)) trivial F (by decide) (F.slot rfl) (F.slot rfl) (rfl) Tryd.underlying31 (show (Tryd.prog.info? 9).map (fun i => (i.zero, i.size, i.bytes)) = some (some (.string ⟨#[]⟩), 1, 16) by kernel_rfl) rfl (by decide) (by decide) H rfl rfl (by simp only [List.length_nil]; omega) ?_
          intro v_ W a H F
          rw [List.nil_append] at H
          have H := H.quFlat 6 string_flat rfl
          obtain ⟨A6_7, c6_7, rfl, hc6_7⟩ := (H.qu 6 rfl).form
          have H : St w Sf Rf [Asn.blk g [.int .i64 a0, .int .i64 s0, .int .i64 t0, .slice A xs.length c, .int .i64 k0, .int .i64 n0] 72, Asn.qu k33 33 (.slice A xs.length c) xs ok, Asn.fk k33 ok2 t (txc t A7 c7 A8 c8), Asn.blk g1 (txc t A7 c7 A8 c8) 33, Asn.rd Kd.string ok2 A7 t.f7.length t.f7, Asn.rd Kd.string ok2 A8 t.f8.length t.f8, Asn.qu Kd.string 9 (.slice A6_7 ((t.f8).length) c6_7) t.f8 (fun _ => False), Asn.qu Kd.string 9 (.slice A6_3 ((t.f7).length) c6_3) t.f7 (fun _ => False)] W := H
          refine ⟨(fun _ => ⟨H.get 3 rfl, trivial⟩), ?_⟩
          refine sq_put (M := [Asn.blk g [.int .i64 a0, .int .i64 s0, .int .i64 t0, .slice A xs.length c, .int .i64 k0, .int .i64 n0] 72, Asn.qu k33 33 (.slice A xs.length c) xs ok, Asn.fk k33 ok2 t (txc t A7 c7 A8 c8), Asn.blk g1 [.int .i64 t.f0, .string t.f1, .string t.f2, .int .u64 t.f3, .int .u64 t.f4, .string t.f5, .string t.f6, .slice A6_3 ((t.f7).length) c6_3, .slice A8 t.f8.length c8] 33, Asn.rd Kd.string ok2 A7 t.f7.length t.f7, Asn.rd Kd.string ok2 A8 t.f8.length t.f8, Asn.qu Kd.string 9 (.slice A6_7 ((t.f8).length) c6_7) t.f8 (fun _ => False), Asn.qu Kd.string 9 (.slice A6_3 ((t.f7).length) c6_3) t.f7 (fun _ => False)]) (o_n (.store 31 (.tmp 30) (.tmp 25)) 0 (by kernel_rfl)) trivial F (x_store H (k := 3) (cs' := [.int .i64 t.f0, .string t.f1, .string t.f2, .int .u64 t.f3, .int .u64 t.f4, .string t.f5, .string t.f6, .slice A6_3 ((t.f7).length) c6_3, .slice A8 t.f8.length c8]) rfl (Tryd.sizeOf31 W) (F.slot rfl) (F.slot rfl) rfl (Nat.le_of_ble_eq_true rfl) rfl rfl) ?_
          intro W H
          refine ⟨(fun h => absurd (by decide) h), ?_⟩
          refine q0 (o_s 31 (.fieldAddr 33 (.tmp 3) 8) 0 (by kernel_rfl)) F (by decide) (v := .pointer (some ⟨g1, 8, none⟩)) (fun W_ => x_field0 Tryd.underlying33 rfl rfl (Tryd.sizeOf31 W_) (F.slot rfl)) (fun a F => ?_)
          refine sq_put (M := [Asn.blk g [.int .i64 a0, .int .i64 s0, .int .i64 t0, .slice A xs.length c, .int .i64 k0, .int .i64 n0] 72, Asn.qu k33 33 (.slice A xs.length c) xs ok, Asn.fk k33 ok2 t (txc t A7 c7 A8 c8), Asn.blk g1 [.int .i64 t.f0, .string t.f1, .string t.f2, .int .u64 t.f3, .int .u64 t.f4, .string t.f5, .string t.f6, .slice A6_3 ((t.f7).length) c6_3, .slice A6_7 ((t.f8).length) c6_7] 33, Asn.rd Kd.string ok2 A7 t.f7.length t.f7, Asn.rd Kd.string ok2 A8 t.f8.length t.f8, Asn.qu Kd.string 9 (.slice A6_7 ((t.f8).length) c6_7) t.f8 (fun _ => False), Asn.qu Kd.string 9 (.slice A6_3 ((t.f7).length) c6_3) t.f7 (fun _ => False)]) (o_n (.store 31 (.tmp 31) (.tmp 29)) 0 (by kernel_rfl)) trivial F (x_store H (k := 3) (cs' := [.int .i64 t.f0, .string t.f1, .string t.f2, .int .u64 t.f3, .int .u64 t.f4, .string t.f5, .string t.f6, .slice A6_3 ((t.f7).length) c6_3, .slice A6_7 ((t.f8).length) c6_7]) rfl (Tryd.sizeOf31 W) (F.slot rfl) (F.slot rfl) rfl (Nat.le_of_ble_eq_true rfl) rfl rfl) ?_
          intro W H
          refine ⟨(fun h => absurd (by decide) h), ?_⟩
          refine sq_nil ?_
          refine t_normal ?_
          exact ⟨A6_3, c6_3, A6_7, c6_7, F.less _ (subc rfl (subc rfl (subc rfl (subc rfl (subc rfl (subc rfl (subc rfl (subc rfl (subc rfl (subc rfl (subc rfl (subc rfl (subc rfl (subc rfl (subc rfl (subc rfl (subc rfl (subc rfl (subc rfl (subc rfl sub0)))))))))))))))))))), H.perm [0, 1, 2, 3, 4, 5, 7, 6] rfl (by decide), hc6_3, hc6_7⟩
      · rintro a W ⟨A6_3, c6_3, A6_7, c6_7, F, H, hc6_3, hc6_7⟩
        refine c_seq (by kernel_rfl) ?_
        have H := (H.quRd 6 rfl).quRd 7 rfl
        have H := H.addF 6 7 rfl rfl (fun _ h => h) (fun _ h => h) _ (fk_tx t hc6_3 (Foot.mono (H.get 6 rfl) (fun j h => .inl h)) hc6_7 (Foot.mono (H.get 7 rfl) (fun j h => .inr h)))
        have H : St w Sf Rf [Asn.blk g [.int .i64 a0, .int .i64 s0, .int .i64 t0, .slice A xs.length c, .int .i64 k0, .int .i64 n0] 72, Asn.qu k33 33 (.slice A xs.length c) xs ok, Asn.fk k33 ok2 t (txc t A7 c7 A8 c8), Asn.blk g1 [.int .i64 t.f0, .string t.f1, .string t.f2, .int .u64 t.f3, .int .u64 t.f4, .string t.f5, .string t.f6, .slice A6_3 ((t.f7).length) c6_3, .slice A6_7 ((t.f8).length) c6_7] 33, Asn.rd Kd.string ok2 A7 t.f7.length t.f7, Asn.rd Kd.string ok2 A8 t.f8.length t.f8, Asn.rd Kd.string _ A6_3 ((t.f7).length) t.f7, Asn.rd Kd.string _ A6_7 ((t.f8).length) t.f8, Asn.fk k33 _ t (txc t A6_3 c6_3 A6_7 c6_7)] W := H
        refine c_drawn (id := 7) (by kernel_rfl) (by kernel_rfl) (Vs [Asn.blk g [.int .i64 a0, .int .i64 s0, .int .i64 t0, .slice A xs.length c, .int .i64 k0, .int .i64 n0] 72, Asn.blk g1 [.int .i64 t.f0, .string t.f1, .string t.f2, .int .u64 t.f3, .int .u64 t.f4, .string t.f5, .string t.f6, .slice A6_3 ((t.f7).length) c6_3, .slice A6_7 ((t.f8).length) c6_7] 33]) [0, 0, 2, 6, 14, 0, 32, 126, 255, 511, 1023] [10] [(0, 0), (1, 0), (2, 0), (3, 0), (4, 1), (5, 1), (6, 2), (7, 2), (8, 0), (9, 0), (10, 2)] (by kernel_rfl) (fun _ _ d _ _ h => by cases d <;> exact h) (Vs.drew ⟨H.get 0 rfl, H.get 3 rfl, trivial⟩) ?_
        have H := H.drew
        generalize World.drew W = W at H ⊢
        refine q0 (o_s 32 (.move (.tmp 0)) 23 (by kernel_rfl)) F (by decide) (fun W_ => x_move (F.slot rfl)) (fun a F => ?_)
        refine q0 (o_s 33 (.move (.tmp 0)) 23 (by kernel_rfl)) F (by decide) (fun W_ => x_move (F.slot rfl)) (fun a F => ?_)
        refine q0 (o_s 34 (.nilCheck (.tmp 33)) 0 (by kernel_rfl)) F (by decide) (v := .pointer (some ⟨g, 0, none⟩)) (fun W_ => x_nil (F.slot rfl)) (fun a F => ?_)
        refine q0 (o_s 35 (.fieldAddr 72 (.tmp 34) 3) 0 (by kernel_rfl)) F (by decide) (v := .pointer (some ⟨g, 3, none⟩)) (fun W_ => x_field0 Tryd.underlying72 rfl rfl (Tryd.sizeOf38 W_) (F.slot rfl)) (fun a F => ?_)
        refine q1 (o_s 36 (.load 38 (.tmp 35)) 38 (by kernel_rfl)) F (by decide) (⟨H.get 0 rfl, H.get 3 rfl, trivial⟩) (v := .slice A xs.length c) (fun W_ hV => x_load1 (Tryd.isAgg38 W_) (F.slot rfl) (bcell hV.1 rfl)) (fun a F => ?_)
        refine q1 (o_s 37 (.load 33 (.tmp 3)) 33 (by kernel_rfl)) F (by decide) (⟨H.get 0 rfl, H.get 3 rfl, trivial⟩) (v := .agg #[.int .i64 t.f0, .string t.f1, .string t.f2, .int .u64 t.f3, .int .u64 t.f4, .string t.f5, .string t.f6, .slice A6_3 ((t.f7).length) c6_3, .slice A6_7 ((t.f8).length) c6_7]) (fun W_ hV => x_loadB (Tryd.isAgg33 W_) [.int .i64 t.f0, .string t.f1, .string t.f2, .int .u64 t.f3, .int .u64 t.f4, .string t.f5, .string t.f6, .slice A6_3 ((t.f7).length) c6_3, .slice A6_7 ((t.f8).length) c6_7] (Tryd.sizeOf33 W_) (F.slot rfl) (hV.2.1)) (fun a F => ?_)
        refine sq_bapp k33 1 8 (by decide) (o_s 38 (.buildSlice 38 1 #[(0, (.tmp 37))]) 38 (by kernel_rfl)) trivial (o_s 39 (.call { callee := (.builtin .append), args := #[(.tmp 36), (.tmp 38)], argTypes := #[38, 38] }) 38 (by kernel_rfl)) (fun _ => trivial) F (by decide) (by decide) rfl (fun a F => F.slot rfl) (F.slot rfl) rfl Tryd.underlying38 PB.info33 rfl (by decide) (by decide) (by decide) H rfl rfl (by omega) (fun W H => (fun _ => ⟨H.get 0 rfl, H.get 3 rfl, trivial⟩)) ?_
        intro v_ W a H F
        obtain ⟨AQ, cQ, rfl, hcQ⟩ := (H.qu 1 rfl).form
        have H : St w Sf Rf [Asn.blk g [.int .i64 a0, .int .i64 s0, .int .i64 t0, .slice A xs.length c, .int .i64 k0, .int .i64 n0] 72, Asn.qu k33 33 (.slice AQ ((xs ++ [t]).length) cQ) (xs ++ [t]) _, Asn.fk k33 ok2 t (txc t A7 c7 A8 c8), Asn.blk g1 [.int .i64 t.f0, .string t.f1, .string t.f2, .int .u64 t.f3, .int .u64 t.f4, .string t.f5, .string t.f6, .slice A6_3 ((t.f7).length) c6_3, .slice A6_7 ((t.f8).length) c6_7] 33, Asn.rd Kd.string ok2 A7 t.f7.length t.f7, Asn.rd Kd.string ok2 A8 t.f8.length t.f8, Asn.rd Kd.string _ A6_3 ((t.f7).length) t.f7, Asn.rd Kd.string _ A6_7 ((t.f8).length) t.f8, Asn.fk k33 _ t (txc t A6_3 c6_3 A6_7 c6_7)] W := H
        refine ⟨(fun _ => ⟨H.get 0 rfl, H.get 3 rfl, trivial⟩), ?_⟩
        refine q0 (o_s 40 (.nilCheck (.tmp 32)) 0 (by kernel_rfl)) F (by decide) (v := .pointer (some ⟨g, 0, none⟩)) (fun W_ => x_nil (F.slot rfl)) (fun a F => ?_)
        refine q0 (o_s 41 (.fieldAddr 72 (.tmp 40) 3) 0 (by kernel_rfl)) F (by decide) (v := .pointer (some ⟨g, 3, none⟩)) (fun W_ => x_field0 Tryd.underlying72 rfl rfl (Tryd.sizeOf38 W_) (F.slot rfl)) (fun a F => ?_)
        refine sq_put (M := [Asn.blk g [.int .i64 a0, .int .i64 s0, .int .i64 t0, .slice AQ ((xs ++ [t]).length) cQ, .int .i64 k0, .int .i64 n0] 72, Asn.qu k33 33 (.slice AQ ((xs ++ [t]).length) cQ) (xs ++ [t]) _, Asn.fk k33 ok2 t (txc t A7 c7 A8 c8), Asn.blk g1 [.int .i64 t.f0, .string t.f1, .string t.f2, .int .u64 t.f3, .int .u64 t.f4, .string t.f5, .string t.f6, .slice A6_3 ((t.f7).length) c6_3, .slice A6_7 ((t.f8).length) c6_7] 33, Asn.rd Kd.string ok2 A7 t.f7.length t.f7, Asn.rd Kd.string ok2 A8 t.f8.length t.f8, Asn.rd Kd.string _ A6_3 ((t.f7).length) t.f7, Asn.rd Kd.string _ A6_7 ((t.f8).length) t.f8, Asn.fk k33 _ t (txc t A6_3 c6_3 A6_7 c6_7)]) (o_n (.store 38 (.tmp 41) (.tmp 39)) 0 (by kernel_rfl)) trivial F (x_store H (k := 0) (cs' := [.int .i64 a0, .int .i64 s0, .int .i64 t0, .slice AQ ((xs ++ [t]).length) cQ, .int .i64 k0, .int .i64 n0]) rfl (Tryd.sizeOf38 W) (F.slot rfl) (F.slot rfl) rfl (Nat.le_of_ble_eq_true rfl) rfl rfl) ?_
        intro W H
        refine ⟨(fun h => absurd (by decide) h), ?_⟩
        unfold wpSeq
        refine t_normal ?_
        refine c_seq (by kernel_rfl) ?_
        refine c_text (id := 8) (by kernel_rfl) [(0, 2)] (by kernel_rfl) ?_
        refine q2 (o_s 4 (.assign (.const (.int .i64 0))) 24 (by kernel_rfl)) F (by decide) (v := .int .i64 0) (x_assign rfl) (fun a F => ?_)
        unfold wpSeq
        refine t_normal ?_
        refine c_ret (by kernel_rfl) ?_
        refine p_tmp Tryd.results18 F rfl ?_
        exact .inr (.inr ⟨by rw [hz]; simpa using hb2, by omega, rfl, _, _, _, H.front 3⟩)
end Go.Proofs.YtndicjikjcifaaaDoor

/- The program's sealer: Tick. -/
namespace Go.Proofs.YtndicjikjcifaaaDoor
open Go.RowKit Go.Proofs.YtndicjikjcifaaaDoorW.PrintWords Go.Proofs.YtndicjikjcifaaaDoorW.PrintLast
set_option linter.unusedVariables false
set_option linter.unusedSimpArgs false
set_option maxRecDepth 100000
open PB (S33 k33)
def Ticked (g : Nat) (a0 s0 t0 k0 n0 : Int) (A : Option Addr) (c : Nat) (xs : List S33) (ok : Nat → Prop) (w : World) (Sf Rf : Nat → Prop) (e : Ending) (W : World) : Prop :=
  (xs.length = 0 ∧ e = .returned (.tuple #[.agg #[.int .i64 0, .int .i64 0, .slice none 0 0], .bool false]) ∧ St w Sf Rf [Asn.blk g [.int .i64 a0, .int .i64 s0, .int .i64 t0, .slice A xs.length c, .int .i64 k0, .int .i64 n0] 72, Asn.qu k33 33 (.slice A xs.length c) xs ok] W) ∨
  (xs.length ≠ 0 ∧ (xs.length : Int) < s0 ∧ k0 + 1 < t0 ∧ e = .returned (.tuple #[.agg #[.int .i64 0, .int .i64 0, .slice none 0 0], .bool false]) ∧ St w Sf Rf [Asn.blk g [.int .i64 a0, .int .i64 s0, .int .i64 t0, .slice A xs.length c, .int .i64 (k0 + 1), .int .i64 n0] 72, Asn.qu k33 33 (.slice A xs.length c) xs ok] W) ∨
  (xs.length ≠ 0 ∧ ¬ ((xs.length : Int) < s0 ∧ k0 + 1 < t0) ∧ ∃ m : Nat, (m : Int) = min s0 (xs.length : Int) ∧ e = .returned (.tuple #[.agg #[.int .i64 a0, .int .i64 (n0 + 1), .slice A m m], .bool true]) ∧ St w Sf Rf [Asn.blk g [.int .i64 a0, .int .i64 s0, .int .i64 t0, .slice (if c = m then A else A.map (·.add (m * 9))) (xs.length - m) (c - m), .int .i64 0, .int .i64 (n0 + 1)] 72, Asn.qf k33 33 (.slice (if c = m then A else A.map (·.add (m * 9))) (xs.length - m) (c - m)) (xs.drop m) ok A m (xs.take m)] W)
theorem x_min {P : Program} {a : Act} {W : World} {x y : Operand} {ty s : TypeId} {p q : Int} (hx : a.eval x = .int .i64 p) (hy : a.eval y = .int .i64 q) : (ex a (.call { callee := .builtin .min, args := #[x, y], argTypes := #[s, s] }) ty).run P W = .ok (.value (.int .i64 (min p q))) W := by
  have : (Builtin.min2 (.int .i64 p) (.int .i64 q)).run P W = .ok (.int .i64 (min p q)) W := by
    simp only [Builtin.min2]
    have e : (if q < p then q else p) = min p q := by split <;> omega
    rw [e]; rfl
  simp [ex, execOp, resolve, invoke, builtin, hx, hy, Builtin.min_, this]
set_option maxHeartbeats 1000000 in
theorem tick_calls (g : Nat) (a0 s0 t0 k0 n0 : Int) (A : Option Addr) (c : Nat) (xs : List S33) (ok : Nat → Prop) (w : World) {Sf Rf : Nat → Prop} (hs0 : 1 ≤ s0) (hs1 : s0 ≤ 16) (hk0 : 0 ≤ k0) (hk1 : k0 < 4611686018427387904) (hn0 : 0 ≤ n0) (hn1 : n0 < 4611686018427387904) (hxl : xs.length < 4611686018427387904)
    (H : St w Sf Rf [Asn.blk g [.int .i64 a0, .int .i64 s0, .int .i64 t0, .slice A xs.length c, .int .i64 k0, .int .i64 n0] 72, Asn.qu k33 33 (.slice A xs.length c) xs ok] w) : Calls Tryd.prog 21 #[.pointer (some ⟨g, 0, none⟩)] w (Ticked g a0 s0 t0 k0 n0 A c xs ok w Sf Rf) := by
  refine c_enter2 (args := [.pointer (some ⟨g, 0, none⟩)]) (S := Sf) (R := Rf) (M := [Asn.blk g [.int .i64 a0, .int .i64 s0, .int .i64 t0, .slice A xs.length c, .int .i64 k0, .int .i64 n0] 72, Asn.qu k33 33 (.slice A xs.length c) xs ok]) Tryd.func21 (by kernel_rfl) 88 Tryd.ntmps21 (Nat.le_of_ble_eq_true rfl) (H) (fun a W F H => ?_)
  have F := F.less [(0, .pointer (some ⟨g, 0, none⟩))] (subc rfl sub0)
  refine c_seq (by kernel_rfl) ?_
  refine c_text (id := 0) (by kernel_rfl) [(0, 2), (1, 2)] (by kernel_rfl) ?_
  refine sq_new (o_s 2 (.alloc 40) 0 (by kernel_rfl)) trivial F (by decide) H [.int .i64 0, .int .i64 0, .slice none 0 0] 40 (x_alloc Tryd.zeroValue40 rfl) ?_
  intro g1 W a hg1 H F
  refine ⟨(fun _ => trivial), ?_⟩
  refine q2 (o_s 3 (.assign (.const (.bool false))) 4 (by kernel_rfl)) F (by decide) (v := .bool false) (x_assign rfl) (fun a F => ?_)
  unfold wpSeq
  have H : St w Sf Rf [Asn.blk g [.int .i64 a0, .int .i64 s0, .int .i64 t0, .slice A xs.length c, .int .i64 k0, .int .i64 n0] 72, Asn.qu k33 33 (.slice A xs.length c) xs ok, Asn.blk g1 [.int .i64 0, .int .i64 0, .slice none 0 0] 40] W := H
  refine t_normal ?_
  refine c_seq (by kernel_rfl) ?_
  refine c_seq (by kernel_rfl) ?_
  refine c_text (id := 1) (by kernel_rfl) [(0, 2), (1, 2), (2, 2), (3, 2), (4, 2), (5, 2)] (by kernel_rfl) ?_
  refine q2 (o_s 6 (.move (.tmp 0)) 23 (by kernel_rfl)) F (by decide) (x_move (F.slot rfl)) (fun a F => ?_)
  refine q2 (o_s 7 (.nilCheck (.tmp 6)) 0 (by kernel_rfl)) F (by decide) (v := .pointer (some ⟨g, 0, none⟩)) (x_nil (F.slot rfl)) (fun a F => ?_)
  refine q2 (o_s 8 (.fieldAddr 72 (.tmp 7) 3) 0 (by kernel_rfl)) F (by decide) (v := .pointer (some ⟨g, 3, none⟩)) (x_field0 Tryd.underlying72 rfl rfl (Tryd.sizeOf38 W) (F.slot rfl)) (fun a F => ?_)
  refine q2 (o_s 9 (.load 38 (.tmp 8)) 38 (by kernel_rfl)) F (by decide) (v := .slice A xs.length c) (x_load1 (Tryd.isAgg38 W) (F.slot rfl) (H.cell 0 rfl rfl)) (fun a F => ?_)
  refine q2 (o_s 10 (.call { callee := (.builtin .len), args := #[(.tmp 9)], argTypes := #[38] }) 3 (by kernel_rfl)) F (by decide) (v := .int .i64 (xs.length : Int)) (x_lenL Tryd.underlying38 (F.slot rfl)) (fun a F => ?_)
  refine q2 (o_s 11 (.binOp .eql 3 (.tmp 10) (.const (.int .i64 0)) 3) 4 (by kernel_rfl)) F (by decide) (v := .bool ((xs.length : Int) == (0 : Int))) (x_int (F.slot rfl) rfl rfl) (fun a F => ?_)
  unfold wpSeq
  refine t_normal ?_
  rcases bool_or ((xs.length : Int) == (0 : Int)) with hb2 | hb2
  · have hb2d := eq_of_beq hb2
    have F := F.at 11 rfl (v' := .bool true) (congrArg Value.bool hb2)
    refine c_yes (c := .tmp 11) (by kernel_rfl) (F.slot rfl) ?_
    refine c_seq (by kernel_rfl) ?_
    refine c_text (id := 2) (by kernel_rfl) [(0, 2), (1, 2), (2, 2)] (by kernel_rfl) ?_
    refine q2 (o_s 12 (.build 40 #[]) 40 (by kernel_rfl)) F (by decide) (v := .agg #[.int .i64 0, .int .i64 0, .slice none 0 0]) (by simp [ex, execOp, Instr.build, Tryd.zeroValue40, run_underlying Tryd.underlying40, Instr.fill, Value.cells, Tryd.sizeOf3, Tryd.sizeOf38]) (fun a F => ?_)
    refine sq_put (M := [Asn.blk g [.int .i64 a0, .int .i64 s0, .int .i64 t0, .slice A xs.length c, .int .i64 k0, .int .i64 n0] 72, Asn.qu k33 33 (.slice A xs.length c) xs ok, Asn.blk g1 [.int .i64 0, .int .i64 0, .slice none 0 0] 40]) (o_n (.store 40 (.tmp 2) (.tmp 12)) 0 (by kernel_rfl)) trivial F (x_store H (k := 2) (cs' := [.int .i64 0, .int .i64 0, .slice none 0 0]) rfl (Tryd.sizeOf40 W) (F.slot rfl) (F.slot rfl) rfl (Nat.le_of_ble_eq_true rfl) rfl rfl) ?_
    intro W H
    refine ⟨(fun _ => trivial), ?_⟩
    refine q2 (o_s 3 (.assign (.const (.bool false))) 4 (by kernel_rfl)) F (by decide) (v := .bool false) (x_assign rfl) (fun a F => ?_)
    unfold wpSeq
    refine t_normal ?_
    refine c_ret (by kernel_rfl) ?_
    refine t_ret ?_
    refine p_list (rs := [.cell 2 40, .tmp 3]) (vs := [.agg #[.int .i64 0, .int .i64 0, .slice none 0 0], .bool false]) Tryd.results21 (by simp) F (Vals.cell' F rfl (H.blk 2 rfl) Tryd.underlying40 rfl (by kernel_rfl) (Vals.tmp' F rfl .nil)) ?_
    exact .inl ⟨by omega, rfl, H.front 2⟩
  · have hb2d := ne_of_beq_false hb2
    have F := F.at 11 rfl (v' := .bool false) (congrArg Value.bool hb2)
    refine c_no (c := .tmp 11) (by kernel_rfl) (F.slot rfl) ?_
    refine c_skip (by kernel_rfl) ?_
    refine t_normal ?_
    refine c_seq (by kernel_rfl) ?_
    refine c_text (id := 3) (by kernel_rfl) [(0, 2), (1, 2), (2, 2), (3, 2), (4, 2), (5, 2), (6, 2), (7, 2)] (by kernel_rfl) ?_
    refine q2 (o_s 13 (.move (.tmp 0)) 23 (by kernel_rfl)) F (by decide) (x_move (F.slot rfl)) (fun a F => ?_)
    refine q2 (o_s 14 (.nilCheck (.tmp 13)) 0 (by kernel_rfl)) F (by decide) (v := .pointer (some ⟨g, 0, none⟩)) (x_nil (F.slot rfl)) (fun a F => ?_)
    refine q2 (o_s 15 (.fieldAddr 72 (.tmp 14) 4) 0 (by kernel_rfl)) F (by decide) (v := .pointer (some ⟨g, 4, none⟩)) (x_field0 Tryd.underlying72 rfl rfl (Tryd.sizeOf3 W) (F.slot rfl)) (fun a F => ?_)
    refine q2 (o_s 16 (.load 3 (.tmp 15)) 3 (by kernel_rfl)) F (by decide) (v := .int .i64 k0) (x_load1 (Tryd.isAgg3 W) (F.slot rfl) (H.cell 0 rfl rfl)) (fun a F => ?_)
    refine q2 (o_s 17 (.binOp .add 3 (.tmp 16) (.const (.int .i64 1)) 3) 3 (by kernel_rfl)) F (by decide) (v := .int .i64 (IntKind.i64.wrap (k0 + 1))) (x_int (F.slot rfl) rfl rfl) (fun a F => ?_)
    have F := F.conv (v' := .int .i64 (k0 + 1)) (congrArg (Value.int .i64) (wrap_i64 _ (by omega) (by omega)))
    refine q2 (o_s 18 (.nilCheck (.tmp 13)) 0 (by kernel_rfl)) F (by decide) (v := .pointer (some ⟨g, 0, none⟩)) (x_nil (F.slot rfl)) (fun a F => ?_)
    refine q2 (o_s 19 (.fieldAddr 72 (.tmp 18) 4) 0 (by kernel_rfl)) F (by decide) (v := .pointer (some ⟨g, 4, none⟩)) (x_field0 Tryd.underlying72 rfl rfl (Tryd.sizeOf3 W) (F.slot rfl)) (fun a F => ?_)
    refine sq_put (M := [Asn.blk g [.int .i64 a0, .int .i64 s0, .int .i64 t0, .slice A xs.length c, .int .i64 (k0 + 1), .int .i64 n0] 72, Asn.qu k33 33 (.slice A xs.length c) xs ok, Asn.blk g1 [.int .i64 0, .int .i64 0, .slice none 0 0] 40]) (o_n (.store 3 (.tmp 19) (.tmp 17)) 0 (by kernel_rfl)) trivial F (x_store H (k := 0) (cs' := [.int .i64 a0, .int .i64 s0, .int .i64 t0, .slice A xs.length c, .int .i64 (k0 + 1), .int .i64 n0]) rfl (Tryd.sizeOf3 W) (F.slot rfl) (F.slot rfl) rfl (Nat.le_of_ble_eq_true rfl) rfl rfl) ?_
    intro W H
    refine ⟨(fun _ => trivial), ?_⟩
    unfold wpSeq
    refine t_normal ?_
    refine c_seq (by kernel_rfl) ?_
    refine c_seq (by kernel_rfl) ?_
    refine c_drawn (id := 4) (by kernel_rfl) (by kernel_rfl) (Vs [Asn.blk g [.int .i64 a0, .int .i64 s0, .int .i64 t0, .slice A xs.length c, .int .i64 (k0 + 1), .int .i64 n0] 72]) [0, 1, 3, 7, 15, 0, 32, 96, 224, 511, 1023, 2047, 4095, 8191, 16383, 2047, 34815, 100351, 231423, 524287, 1048575] [] [(0, 0), (1, 0), (2, 0), (5, 0), (6, 0), (7, 0), (3, 1), (4, 0), (8, 1), (9, 0), (10, 0), (11, 0), (12, 0), (13, 0), (15, 0), (16, 0), (17, 0), (14, 1), (18, 1), (19, 0), (20, 0)] (by kernel_rfl) (fun _ _ d _ _ h => by cases d <;> exact h) (Vs.drew ⟨H.get 0 rfl, trivial⟩) ?_
    have H := H.drew
    generalize World.drew W = W at H ⊢
    refine q0 (o_s 20 (.move (.tmp 0)) 23 (by kernel_rfl)) F (by decide) (fun W_ => x_move (F.slot rfl)) (fun a F => ?_)
    refine q0 (o_s 21 (.nilCheck (.tmp 20)) 0 (by kernel_rfl)) F (by decide) (v := .pointer (some ⟨g, 0, none⟩)) (fun W_ => x_nil (F.slot rfl)) (fun a F => ?_)
    refine q0 (o_s 22 (.fieldAddr 72 (.tmp 21) 3) 0 (by kernel_rfl)) F (by decide) (v := .pointer (some ⟨g, 3, none⟩)) (fun W_ => x_field0 Tryd.underlying72 rfl rfl (Tryd.sizeOf38 W_) (F.slot rfl)) (fun a F => ?_)
    refine q0 (o_s 25 (.move (.tmp 0)) 23 (by kernel_rfl)) F (by decide) (fun W_ => x_move (F.slot rfl)) (fun a F => ?_)
    refine q0 (o_s 26 (.nilCheck (.tmp 25)) 0 (by kernel_rfl)) F (by decide) (v := .pointer (some ⟨g, 0, none⟩)) (fun W_ => x_nil (F.slot rfl)) (fun a F => ?_)
    refine q0 (o_s 27 (.fieldAddr 72 (.tmp 26) 1) 0 (by kernel_rfl)) F (by decide) (v := .pointer (some ⟨g, 1, none⟩)) (fun W_ => x_field0 Tryd.underlying72 rfl rfl (Tryd.sizeOf3 W_) (F.slot rfl)) (fun a F => ?_)
    refine q1 (o_s 23 (.load 38 (.tmp 22)) 38 (by kernel_rfl)) F (by decide) (⟨H.get 0 rfl, trivial⟩) (v := .slice A xs.length c) (fun W_ hV => x_load1 (Tryd.isAgg38 W_) (F.slot rfl) (bcell hV.1 rfl)) (fun a F => ?_)
    refine q0 (o_s 24 (.call { callee := (.builtin .len), args := #[(.tmp 23)], argTypes := #[38] }) 3 (by kernel_rfl)) F (by decide) (v := .int .i64 (xs.length : Int)) (fun W_ => x_lenL Tryd.underlying38 (F.slot rfl)) (fun a F => ?_)
    refine q1 (o_s 28 (.load 3 (.tmp 27)) 3 (by kernel_rfl)) F (by decide) (⟨H.get 0 rfl, trivial⟩) (v := .int .i64 s0) (fun W_ hV => x_load1 (Tryd.isAgg3 W_) (F.slot rfl) (bcell hV.1 rfl)) (fun a F => ?_)
    refine q0 (o_s 29 (.binOp .lss 3 (.tmp 24) (.tmp 28) 3) 4 (by kernel_rfl)) F (by decide) (v := .bool (decide ((xs.length : Int) < s0))) (fun W_ => x_int (F.slot rfl) (F.slot rfl) rfl) (fun a F => ?_)
    refine q0 (o_s 30 (.move (.tmp 29)) 4 (by kernel_rfl)) F (by decide) (fun W_ => x_move (F.slot rfl)) (fun a F => ?_)
    rcases bool_or (decide ((xs.length : Int) < s0)) with hb4 | hb4
    · have hb4d := of_decide_eq_true hb4
      have F := F.at 30 rfl (v' := .bool true) (congrArg Value.bool hb4)
      refine sq0 (o_g 31 (.move (.tmp 0)) 23 10 true (by kernel_rfl)) ⟨30, by kernel_rfl, rfl⟩ F (by decide) (v := .pointer (some ⟨g, 0, none⟩)) (fun W_ => x_move (F.slot rfl)) (fun a F => ?_)
      refine sq0 (o_g 32 (.nilCheck (.tmp 31)) 0 10 true (by kernel_rfl)) ⟨30, by kernel_rfl, rfl⟩ F (by decide) (v := .pointer (some ⟨g, 0, none⟩)) (fun W_ => x_nil (F.slot rfl)) (fun a F => ?_)
      refine sq0 (o_g 33 (.fieldAddr 72 (.tmp 32) 4) 0 10 true (by kernel_rfl)) ⟨30, by kernel_rfl, rfl⟩ F (by decide) (v := .pointer (some ⟨g, 4, none⟩)) (fun W_ => x_field0 Tryd.underlying72 rfl rfl (Tryd.sizeOf3 W_) (F.slot rfl)) (fun a F => ?_)
      refine sq0 (o_g 35 (.move (.tmp 0)) 23 10 true (by kernel_rfl)) ⟨30, by kernel_rfl, rfl⟩ F (by decide) (v := .pointer (some ⟨g, 0, none⟩)) (fun W_ => x_move (F.slot rfl)) (fun a F => ?_)
      refine sq0 (o_g 36 (.nilCheck (.tmp 35)) 0 10 true (by kernel_rfl)) ⟨30, by kernel_rfl, rfl⟩ F (by decide) (v := .pointer (some ⟨g, 0, none⟩)) (fun W_ => x_nil (F.slot rfl)) (fun a F => ?_)
      refine sq0 (o_g 37 (.fieldAddr 72 (.tmp 36) 2) 0 10 true (by kernel_rfl)) ⟨30, by kernel_rfl, rfl⟩ F (by decide) (v := .pointer (some ⟨g, 2, none⟩)) (fun W_ => x_field0 Tryd.underlying72 rfl rfl (Tryd.sizeOf3 W_) (F.slot rfl)) (fun a F => ?_)
      refine sq1 (o_g 34 (.load 3 (.tmp 33)) 3 10 true (by kernel_rfl)) ⟨30, by kernel_rfl, rfl⟩ F (by decide) (⟨H.get 0 rfl, trivial⟩) (v := .int .i64 (k0 + 1)) (fun W_ hV => x_load1 (Tryd.isAgg3 W_) (F.slot rfl) (bcell hV.1 rfl)) (fun a F => ?_)
      refine sq1 (o_g 38 (.load 3 (.tmp 37)) 3 10 true (by kernel_rfl)) ⟨30, by kernel_rfl, rfl⟩ F (by decide) (⟨H.get 0 rfl, trivial⟩) (v := .int .i64 t0) (fun W_ hV => x_load1 (Tryd.isAgg3 W_) (F.slot rfl) (bcell hV.1 rfl)) (fun a F => ?_)
      refine sq0 (o_g 39 (.binOp .lss 3 (.tmp 34) (.tmp 38) 3) 4 10 true (by kernel_rfl)) ⟨30, by kernel_rfl, rfl⟩ F (by decide) (v := .bool (decide ((k0 + 1) < t0))) (fun W_ => x_int (F.slot rfl) (F.slot rfl) rfl) (fun a F => ?_)
      refine q0 (o_s 40 (.pick (.tmp 30) (.tmp 39) (.const (.bool false))) 4 (by kernel_rfl)) F (by decide) (v := .bool (decide ((k0 + 1) < t0))) (fun W_ => x_pickT (F.slot rfl) (F.slot rfl)) (fun a F => ?_)
      unfold wpSeq
      refine t_normal ?_
      rcases bool_or (decide ((k0 + 1) < t0)) with hb5 | hb5
      · have hb5d := of_decide_eq_true hb5
        have F := F.at 40 rfl (v' := .bool true) (congrArg Value.bool hb5)
        refine c_yes (c := .tmp 40) (by kernel_rfl) (F.slot rfl) ?_
        refine c_seq (by kernel_rfl) ?_
        refine c_text (id := 5) (by kernel_rfl) [(0, 2), (1, 2), (2, 2)] (by kernel_rfl) ?_
        refine q2 (o_s 41 (.build 40 #[]) 40 (by kernel_rfl)) F (by decide) (v := .agg #[.int .i64 0, .int .i64 0, .slice none 0 0]) (by simp [ex, execOp, Instr.build, Tryd.zeroValue40, run_underlying Tryd.underlying40, Instr.fill, Value.cells, Tryd.sizeOf3, Tryd.sizeOf38]) (fun a F => ?_)
        refine sq_put (M := [Asn.blk g [.int .i64 a0, .int .i64 s0, .int .i64 t0, .slice A xs.length c, .int .i64 (k0 + 1), .int .i64 n0] 72, Asn.qu k33 33 (.slice A xs.length c) xs ok, Asn.blk g1 [.int .i64 0, .int .i64 0, .slice none 0 0] 40]) (o_n (.store 40 (.tmp 2) (.tmp 41)) 0 (by kernel_rfl)) trivial F (x_store H (k := 2) (cs' := [.int .i64 0, .int .i64 0, .slice none 0 0]) rfl (Tryd.sizeOf40 W) (F.slot rfl) (F.slot rfl) rfl (Nat.le_of_ble_eq_true rfl) rfl rfl) ?_
        intro W H
        refine ⟨(fun _ => trivial), ?_⟩
        refine q2 (o_s 3 (.assign (.const (.bool false))) 4 (by kernel_rfl)) F (by decide) (v := .bool false) (x_assign rfl) (fun a F => ?_)
        unfold wpSeq
        refine t_normal ?_
        refine c_ret (by kernel_rfl) ?_
        refine t_ret ?_
        refine p_list (rs := [.cell 2 40, .tmp 3]) (vs := [.agg #[.int .i64 0, .int .i64 0, .slice none 0 0], .bool false]) Tryd.results21 (by simp) F (Vals.cell' F rfl (H.blk 2 rfl) Tryd.underlying40 rfl (by kernel_rfl) (Vals.tmp' F rfl .nil)) ?_
        exact .inr (.inl ⟨by omega, by omega, by omega, rfl, H.front 2⟩)
      · have hb5d := of_decide_eq_false hb5
        have F := F.at 40 rfl (v' := .bool false) (congrArg Value.bool hb5)
        refine c_no (c := .tmp 40) (by kernel_rfl) (F.slot rfl) ?_
        refine c_skip (by kernel_rfl) ?_
        refine t_normal ?_
        refine c_seq (by kernel_rfl) ?_
        refine c_drawn (id := 6) (by kernel_rfl) (by kernel_rfl) (Vs [Asn.blk g [.int .i64 a0, .int .i64 s0, .int .i64 t0, .slice A xs.length c, .int .i64 (k0 + 1), .int .i64 n0] 72]) [0, 1, 3, 7, 0, 16, 48, 112, 240, 511, 1023] [] [(0, 0), (1, 0), (2, 0), (4, 0), (5, 0), (6, 0), (3, 1), (7, 1), (8, 0), (9, 0), (10, 0)] (by kernel_rfl) (fun _ _ d _ _ h => by cases d <;> exact h) (Vs.drew ⟨H.get 0 rfl, trivial⟩) ?_
        have H := H.drew
        generalize World.drew W = W at H ⊢
        refine q0 (o_s 42 (.move (.tmp 0)) 23 (by kernel_rfl)) F (by decide) (fun W_ => x_move (F.slot rfl)) (fun a F => ?_)
        refine q0 (o_s 43 (.nilCheck (.tmp 42)) 0 (by kernel_rfl)) F (by decide) (v := .pointer (some ⟨g, 0, none⟩)) (fun W_ => x_nil (F.slot rfl)) (fun a F => ?_)
        refine q0 (o_s 44 (.fieldAddr 72 (.tmp 43) 1) 0 (by kernel_rfl)) F (by decide) (v := .pointer (some ⟨g, 1, none⟩)) (fun W_ => x_field0 Tryd.underlying72 rfl rfl (Tryd.sizeOf3 W_) (F.slot rfl)) (fun a F => ?_)
        refine q0 (o_s 46 (.move (.tmp 0)) 23 (by kernel_rfl)) F (by decide) (fun W_ => x_move (F.slot rfl)) (fun a F => ?_)
        refine q0 (o_s 47 (.nilCheck (.tmp 46)) 0 (by kernel_rfl)) F (by decide) (v := .pointer (some ⟨g, 0, none⟩)) (fun W_ => x_nil (F.slot rfl)) (fun a F => ?_)
        refine q0 (o_s 48 (.fieldAddr 72 (.tmp 47) 3) 0 (by kernel_rfl)) F (by decide) (v := .pointer (some ⟨g, 3, none⟩)) (fun W_ => x_field0 Tryd.underlying72 rfl rfl (Tryd.sizeOf38 W_) (F.slot rfl)) (fun a F => ?_)
        refine q1 (o_s 45 (.load 3 (.tmp 44)) 3 (by kernel_rfl)) F (by decide) (⟨H.get 0 rfl, trivial⟩) (v := .int .i64 s0) (fun W_ hV => x_load1 (Tryd.isAgg3 W_) (F.slot rfl) (bcell hV.1 rfl)) (fun a F => ?_)
        refine q1 (o_s 49 (.load 38 (.tmp 48)) 38 (by kernel_rfl)) F (by decide) (⟨H.get 0 rfl, trivial⟩) (v := .slice A xs.length c) (fun W_ hV => x_load1 (Tryd.isAgg38 W_) (F.slot rfl) (bcell hV.1 rfl)) (fun a F => ?_)
        refine q0 (o_s 50 (.call { callee := (.builtin .len), args := #[(.tmp 49)], argTypes := #[38] }) 3 (by kernel_rfl)) F (by decide) (v := .int .i64 (xs.length : Int)) (fun W_ => x_lenL Tryd.underlying38 (F.slot rfl)) (fun a F => ?_)
        refine q0 (o_s 51 (.call { callee := (.builtin .min), args := #[(.tmp 45), (.tmp 50)], argTypes := #[3, 3] }) 3 (by kernel_rfl)) F (by decide) (v := .int .i64 (min s0 (xs.length : Int))) (fun W_ => x_min (F.slot rfl) (F.slot rfl)) (fun a F => ?_)
        refine q0 (o_s 4 (.assign (.tmp 51)) 3 (by kernel_rfl)) F (by decide) (v := .int .i64 (min s0 (xs.length : Int))) (fun W_ => x_assign (F.slot rfl)) (fun a F => ?_)
        unfold wpSeq
        refine t_normal ?_
        refine c_seq (by kernel_rfl) ?_
        obtain ⟨m, hm⟩ : ∃ m : Nat, (m : Int) = min s0 (xs.length : Int) := ⟨(min s0 (xs.length : Int)).toNat, by omega⟩
        have F := F.at 51 rfl (v' := .int .i64 (m : Int)) (congrArg (Value.int .i64) hm.symm)
        have F := F.at 4 rfl (v' := .int .i64 (m : Int)) (congrArg (Value.int .i64) hm.symm)
        have hcl := (H.qu 1 rfl).read.2.1
        refine c_text (id := 7) (by kernel_rfl) [(0, 2), (1, 2), (2, 2), (3, 2), (4, 2), (5, 2), (6, 2), (7, 2)] (by kernel_rfl) ?_
        refine q2 (o_s 52 (.move (.tmp 0)) 23 (by kernel_rfl)) F (by decide) (x_move (F.slot rfl)) (fun a F => ?_)
        refine q2 (o_s 53 (.nilCheck (.tmp 52)) 0 (by kernel_rfl)) F (by decide) (v := .pointer (some ⟨g, 0, none⟩)) (x_nil (F.slot rfl)) (fun a F => ?_)
        refine q2 (o_s 54 (.fieldAddr 72 (.tmp 53) 5) 0 (by kernel_rfl)) F (by decide) (v := .pointer (some ⟨g, 5, none⟩)) (x_field0 Tryd.underlying72 rfl rfl (Tryd.sizeOf3 W) (F.slot rfl)) (fun a F => ?_)
        refine q2 (o_s 55 (.load 3 (.tmp 54)) 3 (by kernel_rfl)) F (by decide) (v := .int .i64 n0) (x_load1 (Tryd.isAgg3 W) (F.slot rfl) (H.cell 0 rfl rfl)) (fun a F => ?_)
        refine q2 (o_s 56 (.binOp .add 3 (.tmp 55) (.const (.int .i64 1)) 3) 3 (by kernel_rfl)) F (by decide) (v := .int .i64 (IntKind.i64.wrap (n0 + 1))) (x_int (F.slot rfl) rfl rfl) (fun a F => ?_)
        have F := F.conv (v' := .int .i64 (n0 + 1)) (congrArg (Value.int .i64) (wrap_i64 _ (by omega) (by omega)))
        refine q2 (o_s 57 (.nilCheck (.tmp 52)) 0 (by kernel_rfl)) F (by decide) (v := .pointer (some ⟨g, 0, none⟩)) (x_nil (F.slot rfl)) (fun a F => ?_)
        refine q2 (o_s 58 (.fieldAddr 72 (.tmp 57) 5) 0 (by kernel_rfl)) F (by decide) (v := .pointer (some ⟨g, 5, none⟩)) (x_field0 Tryd.underlying72 rfl rfl (Tryd.sizeOf3 W) (F.slot rfl)) (fun a F => ?_)
        refine sq_put (M := [Asn.blk g [.int .i64 a0, .int .i64 s0, .int .i64 t0, .slice A xs.length c, .int .i64 (k0 + 1), .int .i64 (n0 + 1)] 72, Asn.qu k33 33 (.slice A xs.length c) xs ok, Asn.blk g1 [.int .i64 0, .int .i64 0, .slice none 0 0] 40]) (o_n (.store 3 (.tmp 58) (.tmp 56)) 0 (by kernel_rfl)) trivial F (x_store H (k := 0) (cs' := [.int .i64 a0, .int .i64 s0, .int .i64 t0, .slice A xs.length c, .int .i64 (k0 + 1), .int .i64 (n0 + 1)]) rfl (Tryd.sizeOf3 W) (F.slot rfl) (F.slot rfl) rfl (Nat.le_of_ble_eq_true rfl) rfl rfl) ?_
        intro W H
        refine ⟨(fun _ => trivial), ?_⟩
        unfold wpSeq
        refine t_normal ?_
        refine c_seq (by kernel_rfl) ?_
        refine c_drawn (id := 8) (by kernel_rfl) (by kernel_rfl) (Vs [Asn.blk g [.int .i64 a0, .int .i64 s0, .int .i64 t0, .slice A xs.length c, .int .i64 (k0 + 1), .int .i64 (n0 + 1)] 72]) [0, 1, 3, 7, 0, 16, 48, 112, 0, 256, 768, 1792, 0, 0, 16128, 32767, 0, 131071] [17] [(0, 0), (1, 0), (2, 0), (4, 0), (5, 0), (6, 0), (8, 0), (9, 0), (10, 0), (12, 0), (13, 0), (3, 1), (7, 1), (11, 1), (14, 0), (15, 0), (16, 2), (17, 2)] (by kernel_rfl) (fun _ _ d _ _ h => by cases d <;> exact h) (Vs.drew ⟨H.get 0 rfl, trivial⟩) ?_
        have H := H.drew
        generalize World.drew W = W at H ⊢
        refine q0 (o_s 59 (.move (.tmp 0)) 23 (by kernel_rfl)) F (by decide) (fun W_ => x_move (F.slot rfl)) (fun a F => ?_)
        refine q0 (o_s 60 (.nilCheck (.tmp 59)) 0 (by kernel_rfl)) F (by decide) (v := .pointer (some ⟨g, 0, none⟩)) (fun W_ => x_nil (F.slot rfl)) (fun a F => ?_)
        refine q0 (o_s 61 (.fieldAddr 72 (.tmp 60) 0) 0 (by kernel_rfl)) F (by decide) (v := .pointer (some ⟨g, 0, none⟩)) (fun W_ => x_field0 Tryd.underlying72 rfl rfl (Tryd.sizeOf3 W_) (F.slot rfl)) (fun a F => ?_)
        refine q0 (o_s 63 (.move (.tmp 0)) 23 (by kernel_rfl)) F (by decide) (fun W_ => x_move (F.slot rfl)) (fun a F => ?_)
        refine q0 (o_s 64 (.nilCheck (.tmp 63)) 0 (by kernel_rfl)) F (by decide) (v := .pointer (some ⟨g, 0, none⟩)) (fun W_ => x_nil (F.slot rfl)) (fun a F => ?_)
        refine q0 (o_s 65 (.fieldAddr 72 (.tmp 64) 5) 0 (by kernel_rfl)) F (by decide) (v := .pointer (some ⟨g, 5, none⟩)) (fun W_ => x_field0 Tryd.underlying72 rfl rfl (Tryd.sizeOf3 W_) (F.slot rfl)) (fun a F => ?_)
        refine q0 (o_s 67 (.move (.tmp 0)) 23 (by kernel_rfl)) F (by decide) (fun W_ => x_move (F.slot rfl)) (fun a F => ?_)
        refine q0 (o_s 68 (.nilCheck (.tmp 67)) 0 (by kernel_rfl)) F (by decide) (v := .pointer (some ⟨g, 0, none⟩)) (fun W_ => x_nil (F.slot rfl)) (fun a F => ?_)
        refine q0 (o_s 69 (.fieldAddr 72 (.tmp 68) 3) 0 (by kernel_rfl)) F (by decide) (v := .pointer (some ⟨g, 3, none⟩)) (fun W_ => x_field0 Tryd.underlying72 rfl rfl (Tryd.sizeOf38 W_) (F.slot rfl)) (fun a F => ?_)
        refine q0 (o_s 71 (.move (.tmp 4)) 3 (by kernel_rfl)) F (by decide) (fun W_ => x_move (F.slot rfl)) (fun a F => ?_)
        refine q0 (o_s 72 (.move (.tmp 4)) 3 (by kernel_rfl)) F (by decide) (fun W_ => x_move (F.slot rfl)) (fun a F => ?_)
        refine q1 (o_s 62 (.load 3 (.tmp 61)) 3 (by kernel_rfl)) F (by decide) (⟨H.get 0 rfl, trivial⟩) (v := .int .i64 a0) (fun W_ hV => x_load1 (Tryd.isAgg3 W_) (F.slot rfl) (bcell hV.1 rfl)) (fun a F => ?_)
        refine q1 (o_s 66 (.load 3 (.tmp 65)) 3 (by kernel_rfl)) F (by decide) (⟨H.get 0 rfl, trivial⟩) (v := .int .i64 (n0 + 1)) (fun W_ hV => x_load1 (Tryd.isAgg3 W_) (F.slot rfl) (bcell hV.1 rfl)) (fun a F => ?_)
        refine q1 (o_s 70 (.load 38 (.tmp 69)) 38 (by kernel_rfl)) F (by decide) (⟨H.get 0 rfl, trivial⟩) (v := .slice A xs.length c) (fun W_ hV => x_load1 (Tryd.isAgg38 W_) (F.slot rfl) (bcell hV.1 rfl)) (fun a F => ?_)
        refine q0 (o_s 73 (.slice 38 (.tmp 70) none (some (.tmp 71)) (some (.tmp 72))) 38 (by kernel_rfl)) F (by decide) (v := .slice A m m) (fun W_ => x_sliceLm Tryd.underlying38 (Tryd.sizeOf33 W_) (F.slot rfl) (F.slot rfl) (F.slot rfl) (by omega)) (fun a F => ?_)
        refine q0 (o_s 74 (.build 40 #[(0, (.tmp 62)), (1, (.tmp 66)), (2, (.tmp 73))]) 40 (by kernel_rfl)) F (by decide) (v := .agg #[.int .i64 a0, .int .i64 (n0 + 1), .slice A m m]) (fun W_ => by simp [ex, execOp, Instr.build, Tryd.zeroValue40, run_underlying Tryd.underlying40, Instr.fill, Value.cells, F.slot (i := 62) rfl, F.slot (i := 66) rfl, F.slot (i := 73) rfl, Tryd.sizeOf3, Tryd.sizeOf38]) (fun a F => ?_)
        refine sq_new (o_s 5 (.alloc 40) 0 (by kernel_rfl)) trivial F (by decide) H [.int .i64 0, .int .i64 0, .slice none 0 0] 40 (x_alloc Tryd.zeroValue40 rfl) ?_
        intro g8 W a hg8 H F
        refine ⟨(fun _ => ⟨H.get 0 rfl, trivial⟩), ?_⟩
        refine sq_put (M := [Asn.blk g [.int .i64 a0, .int .i64 s0, .int .i64 t0, .slice A xs.length c, .int .i64 (k0 + 1), .int .i64 (n0 + 1)] 72, Asn.qu k33 33 (.slice A xs.length c) xs ok, Asn.blk g1 [.int .i64 0, .int .i64 0, .slice none 0 0] 40, Asn.blk g8 [.int .i64 a0, .int .i64 (n0 + 1), .slice A m m] 40]) (o_n (.store 40 (.tmp 5) (.tmp 74)) 0 (by kernel_rfl)) trivial F (x_store H (k := 3) (cs' := [.int .i64 a0, .int .i64 (n0 + 1), .slice A m m]) rfl (Tryd.sizeOf40 W) (F.slot rfl) (F.slot rfl) rfl (Nat.le_of_ble_eq_true rfl) rfl rfl) ?_
        intro W H
        refine ⟨(fun h => absurd (by decide) h), ?_⟩
        unfold wpSeq
        refine t_normal ?_
        refine c_seq (by kernel_rfl) ?_
        refine c_text (id := 9) (by kernel_rfl) [(0, 2), (1, 2), (2, 2), (3, 2), (4, 2), (5, 2), (6, 2), (7, 2), (8, 2), (9, 2), (10, 2), (11, 2), (12, 2), (13, 2)] (by kernel_rfl) ?_
        refine q2 (o_s 75 (.move (.tmp 0)) 23 (by kernel_rfl)) F (by decide) (x_move (F.slot rfl)) (fun a F => ?_)
        refine q2 (o_s 76 (.move (.tmp 0)) 23 (by kernel_rfl)) F (by decide) (x_move (F.slot rfl)) (fun a F => ?_)
        refine q2 (o_s 77 (.move (.tmp 0)) 23 (by kernel_rfl)) F (by decide) (x_move (F.slot rfl)) (fun a F => ?_)
        refine q2 (o_s 78 (.nilCheck (.tmp 77)) 0 (by kernel_rfl)) F (by decide) (v := .pointer (some ⟨g, 0, none⟩)) (x_nil (F.slot rfl)) (fun a F => ?_)
        refine q2 (o_s 79 (.fieldAddr 72 (.tmp 78) 3) 0 (by kernel_rfl)) F (by decide) (v := .pointer (some ⟨g, 3, none⟩)) (x_field0 Tryd.underlying72 rfl rfl (Tryd.sizeOf38 W) (F.slot rfl)) (fun a F => ?_)
        refine q2 (o_s 80 (.load 38 (.tmp 79)) 38 (by kernel_rfl)) F (by decide) (v := .slice A xs.length c) (x_load1 (Tryd.isAgg38 W) (F.slot rfl) (H.cell 0 rfl rfl)) (fun a F => ?_)
        refine q2 (o_s 81 (.move (.tmp 4)) 3 (by kernel_rfl)) F (by decide) (x_move (F.slot rfl)) (fun a F => ?_)
        refine q2 (o_s 82 (.slice 38 (.tmp 80) (some (.tmp 81)) none none) 38 (by kernel_rfl)) F (by decide) (v := .slice (if c = m then A else A.map (·.add (m * 9))) (xs.length - m) (c - m)) (x_sliceLl (z := 9) Tryd.underlying38 (Tryd.sizeOf33 W) (F.slot rfl) (F.slot rfl) (by omega)) (fun a F => ?_)
        refine q2 (o_s 83 (.nilCheck (.tmp 75)) 0 (by kernel_rfl)) F (by decide) (v := .pointer (some ⟨g, 0, none⟩)) (x_nil (F.slot rfl)) (fun a F => ?_)
        refine q2 (o_s 84 (.fieldAddr 72 (.tmp 83) 3) 0 (by kernel_rfl)) F (by decide) (v := .pointer (some ⟨g, 3, none⟩)) (x_field0 Tryd.underlying72 rfl rfl (Tryd.sizeOf38 W) (F.slot rfl)) (fun a F => ?_)
        refine sq_put (M := [Asn.blk g [.int .i64 a0, .int .i64 s0, .int .i64 t0, .slice (if c = m then A else A.map (·.add (m * 9))) (xs.length - m) (c - m), .int .i64 (k0 + 1), .int .i64 (n0 + 1)] 72, Asn.qu k33 33 (.slice A xs.length c) xs ok, Asn.blk g1 [.int .i64 0, .int .i64 0, .slice none 0 0] 40, Asn.blk g8 [.int .i64 a0, .int .i64 (n0 + 1), .slice A m m] 40]) (o_n (.store 38 (.tmp 84) (.tmp 82)) 0 (by kernel_rfl)) trivial F (x_store H (k := 0) (cs' := [.int .i64 a0, .int .i64 s0, .int .i64 t0, .slice (if c = m then A else A.map (·.add (m * 9))) (xs.length - m) (c - m), .int .i64 (k0 + 1), .int .i64 (n0 + 1)]) rfl (Tryd.sizeOf38 W) (F.slot rfl) (F.slot rfl) rfl (Nat.le_of_ble_eq_true rfl) rfl rfl) ?_
        intro W H
        refine ⟨(fun _ => trivial), ?_⟩
        refine q2 (o_s 85 (.nilCheck (.tmp 76)) 0 (by kernel_rfl)) F (by decide) (v := .pointer (some ⟨g, 0, none⟩)) (x_nil (F.slot rfl)) (fun a F => ?_)
        refine q2 (o_s 86 (.fieldAddr 72 (.tmp 85) 4) 0 (by kernel_rfl)) F (by decide) (v := .pointer (some ⟨g, 4, none⟩)) (x_field0 Tryd.underlying72 rfl rfl (Tryd.sizeOf3 W) (F.slot rfl)) (fun a F => ?_)
        refine sq_put (M := [Asn.blk g [.int .i64 a0, .int .i64 s0, .int .i64 t0, .slice (if c = m then A else A.map (·.add (m * 9))) (xs.length - m) (c - m), .int .i64 0, .int .i64 (n0 + 1)] 72, Asn.qu k33 33 (.slice A xs.length c) xs ok, Asn.blk g1 [.int .i64 0, .int .i64 0, .slice none 0 0] 40, Asn.blk g8 [.int .i64 a0, .int .i64 (n0 + 1), .slice A m m] 40]) (o_n (.store 3 (.tmp 86) (.const (.int .i64 0))) 0 (by kernel_rfl)) trivial F (x_store H (k := 0) (cs' := [.int .i64 a0, .int .i64 s0, .int .i64 t0, .slice (if c = m then A else A.map (·.add (m * 9))) (xs.length - m) (c - m), .int .i64 0, .int .i64 (n0 + 1)]) rfl (Tryd.sizeOf3 W) (F.slot rfl) rfl rfl (Nat.le_of_ble_eq_true rfl) rfl rfl) ?_
        intro W H
        refine ⟨(fun _ => trivial), ?_⟩
        unfold wpSeq
        refine t_normal ?_
        refine c_seq (by kernel_rfl) ?_
        refine c_text (id := 10) (by kernel_rfl) [(0, 2), (1, 2), (2, 2)] (by kernel_rfl) ?_
        refine q2 (o_s 87 (.load 40 (.tmp 5)) 40 (by kernel_rfl)) F (by decide) (v := .agg #[.int .i64 a0, .int .i64 (n0 + 1), .slice A m m]) (x_loadB (Tryd.isAgg40 W) [.int .i64 a0, .int .i64 (n0 + 1), .slice A m m] (Tryd.sizeOf40 W) (F.slot rfl) (H.blk 3 rfl)) (fun a F => ?_)
        refine sq_put (M := [Asn.blk g [.int .i64 a0, .int .i64 s0, .int .i64 t0, .slice (if c = m then A else A.map (·.add (m * 9))) (xs.length - m) (c - m), .int .i64 0, .int .i64 (n0 + 1)] 72, Asn.qu k33 33 (.slice A xs.length c) xs ok, Asn.blk g1 [.int .i64 a0, .int .i64 (n0 + 1), .slice A m m] 40, Asn.blk g8 [.int .i64 a0, .int .i64 (n0 + 1), .slice A m m] 40]) (o_n (.store 40 (.tmp 2) (.tmp 87)) 0 (by kernel_rfl)) trivial F (x_store H (k := 2) (cs' := [.int .i64 a0, .int .i64 (n0 + 1), .slice A m m]) rfl (Tryd.sizeOf40 W) (F.slot rfl) (F.slot rfl) rfl (Nat.le_of_ble_eq_true rfl) rfl rfl) ?_
        intro W H
        refine ⟨(fun _ => trivial), ?_⟩
        refine q2 (o_s 3 (.assign (.const (.bool true))) 4 (by kernel_rfl)) F (by decide) (v := .bool true) (x_assign rfl) (fun a F => ?_)
        unfold wpSeq
        refine t_normal ?_
        refine c_ret (by kernel_rfl) ?_
        refine p_list (rs := [.cell 2 40, .tmp 3]) (vs := [.agg #[.int .i64 a0, .int .i64 (n0 + 1), .slice A m m], .bool true]) Tryd.results21 (by simp) F (Vals.cell' F rfl (H.blk 2 rfl) Tryd.underlying40 rfl (by kernel_rfl) (Vals.tmp' F rfl .nil)) ?_
        have H := H.quCut (by decide) 1 rfl m (by omega)
        exact .inr (.inr ⟨by omega, by omega, m, hm, rfl, H.front 2⟩)
    · have hb4d := of_decide_eq_false hb4
      have F := F.at 30 rfl (v' := .bool false) (congrArg Value.bool hb4)
      refine sqoff (e := 30) (o_g 31 (.move (.tmp 0)) 23 10 true (by kernel_rfl)) (by kernel_rfl) (.inl rfl) F (by decide) (fun a F => ?_)
      refine sqoff (e := 30) (o_g 32 (.nilCheck (.tmp 31)) 0 10 true (by kernel_rfl)) (by kernel_rfl) (.inl rfl) F (by decide) (fun a F => ?_)
      refine sqoff (e := 30) (o_g 33 (.fieldAddr 72 (.tmp 32) 4) 0 10 true (by kernel_rfl)) (by kernel_rfl) (.inl rfl) F (by decide) (fun a F => ?_)
      refine sqoff (e := 30) (o_g 35 (.move (.tmp 0)) 23 10 true (by kernel_rfl)) (by kernel_rfl) (.inl rfl) F (by decide) (fun a F => ?_)
      refine sqoff (e := 30) (o_g 36 (.nilCheck (.tmp 35)) 0 10 true (by kernel_rfl)) (by kernel_rfl) (.inl rfl) F (by decide) (fun a F => ?_)
      refine sqoff (e := 30) (o_g 37 (.fieldAddr 72 (.tmp 36) 2) 0 10 true (by kernel_rfl)) (by kernel_rfl) (.inl rfl) F (by decide) (fun a F => ?_)
      refine sqoff1 (e := 30) (o_g 34 (.load 3 (.tmp 33)) 3 10 true (by kernel_rfl)) (by kernel_rfl) (.inl rfl) F (by decide) (⟨H.get 0 rfl, trivial⟩) (fun a F => ?_)
      refine sqoff1 (e := 30) (o_g 38 (.load 3 (.tmp 37)) 3 10 true (by kernel_rfl)) (by kernel_rfl) (.inl rfl) F (by decide) (⟨H.get 0 rfl, trivial⟩) (fun a F => ?_)
      refine sqoff (e := 30) (o_g 39 (.binOp .lss 3 (.tmp 34) (.tmp 38) 3) 4 10 true (by kernel_rfl)) (by kernel_rfl) (.inl rfl) F (by decide) (fun a F => ?_)
      refine q0 (o_s 40 (.pick (.tmp 30) (.tmp 39) (.const (.bool false))) 4 (by kernel_rfl)) F (by decide) (v := .bool false) (fun W_ => x_pickF (F.slot rfl) rfl) (fun a F => ?_)
      unfold wpSeq
      refine t_normal ?_
      refine c_no (c := .tmp 40) (by kernel_rfl) (F.slot rfl) ?_
      refine c_skip (by kernel_rfl) ?_
      refine t_normal ?_
      refine c_seq (by kernel_rfl) ?_
      refine c_drawn (id := 6) (by kernel_rfl) (by kernel_rfl) (Vs [Asn.blk g [.int .i64 a0, .int .i64 s0, .int .i64 t0, .slice A xs.length c, .int .i64 (k0 + 1), .int .i64 n0] 72]) [0, 1, 3, 7, 0, 16, 48, 112, 240, 511, 1023] [] [(0, 0), (1, 0), (2, 0), (4, 0), (5, 0), (6, 0), (3, 1), (7, 1), (8, 0), (9, 0), (10, 0)] (by kernel_rfl) (fun _ _ d _ _ h => by cases d <;> exact h) (Vs.drew ⟨H.get 0 rfl, trivial⟩) ?_
      have H := H.drew
      generalize World.drew W = W at H ⊢
      refine q0 (o_s 42 (.move (.tmp 0)) 23 (by kernel_rfl)) F (by decide) (fun W_ => x_move (F.slot rfl)) (fun a F => ?_)
      refine q0 (o_s 43 (.nilCheck (.tmp 42)) 0 (by kernel_rfl)) F (by decide) (v := .pointer (some ⟨g, 0, none⟩)) (fun W_ => x_nil (F.slot rfl)) (fun a F => ?_)
      refine q0 (o_s 44 (.fieldAddr 72 (.tmp 43) 1) 0 (by kernel_rfl)) F (by decide) (v := .pointer (some ⟨g, 1, none⟩)) (fun W_ => x_field0 Tryd.underlying72 rfl rfl (Tryd.sizeOf3 W_) (F.slot rfl)) (fun a F => ?_)
      refine q0 (o_s 46 (.move (.tmp 0)) 23 (by kernel_rfl)) F (by decide) (fun W_ => x_move (F.slot rfl)) (fun a F => ?_)
      refine q0 (o_s 47 (.nilCheck (.tmp 46)) 0 (by kernel_rfl)) F (by decide) (v := .pointer (some ⟨g, 0, none⟩)) (fun W_ => x_nil (F.slot rfl)) (fun a F => ?_)
      refine q0 (o_s 48 (.fieldAddr 72 (.tmp 47) 3) 0 (by kernel_rfl)) F (by decide) (v := .pointer (some ⟨g, 3, none⟩)) (fun W_ => x_field0 Tryd.underlying72 rfl rfl (Tryd.sizeOf38 W_) (F.slot rfl)) (fun a F => ?_)
      refine q1 (o_s 45 (.load 3 (.tmp 44)) 3 (by kernel_rfl)) F (by decide) (⟨H.get 0 rfl, trivial⟩) (v := .int .i64 s0) (fun W_ hV => x_load1 (Tryd.isAgg3 W_) (F.slot rfl) (bcell hV.1 rfl)) (fun a F => ?_)
      refine q1 (o_s 49 (.load 38 (.tmp 48)) 38 (by kernel_rfl)) F (by decide) (⟨H.get 0 rfl, trivial⟩) (v := .slice A xs.length c) (fun W_ hV => x_load1 (Tryd.isAgg38 W_) (F.slot rfl) (bcell hV.1 rfl)) (fun a F => ?_)
      refine q0 (o_s 50 (.call { callee := (.builtin .len), args := #[(.tmp 49)], argTypes := #[38] }) 3 (by kernel_rfl)) F (by decide) (v := .int .i64 (xs.length : Int)) (fun W_ => x_lenL Tryd.underlying38 (F.slot rfl)) (fun a F => ?_)
      refine q0 (o_s 51 (.call { callee := (.builtin .min), args := #[(.tmp 45), (.tmp 50)], argTypes := #[3, 3] }) 3 (by kernel_rfl)) F (by decide) (v := .int .i64 (min s0 (xs.length : Int))) (fun W_ => x_min (F.slot rfl) (F.slot rfl)) (fun a F => ?_)
      refine q0 (o_s 4 (.assign (.tmp 51)) 3 (by kernel_rfl)) F (by decide) (v := .int .i64 (min s0 (xs.length : Int))) (fun W_ => x_assign (F.slot rfl)) (fun a F => ?_)
      unfold wpSeq
      refine t_normal ?_
      refine c_seq (by kernel_rfl) ?_
      obtain ⟨m, hm⟩ : ∃ m : Nat, (m : Int) = min s0 (xs.length : Int) := ⟨(min s0 (xs.length : Int)).toNat, by omega⟩
      have F := F.at 51 rfl (v' := .int .i64 (m : Int)) (congrArg (Value.int .i64) hm.symm)
      have F := F.at 4 rfl (v' := .int .i64 (m : Int)) (congrArg (Value.int .i64) hm.symm)
      have hcl := (H.qu 1 rfl).read.2.1
      refine c_text (id := 7) (by kernel_rfl) [(0, 2), (1, 2), (2, 2), (3, 2), (4, 2), (5, 2), (6, 2), (7, 2)] (by kernel_rfl) ?_
      refine q2 (o_s 52 (.move (.tmp 0)) 23 (by kernel_rfl)) F (by decide) (x_move (F.slot rfl)) (fun a F => ?_)
      refine q2 (o_s 53 (.nilCheck (.tmp 52)) 0 (by kernel_rfl)) F (by decide) (v := .pointer (some ⟨g, 0, none⟩)) (x_nil (F.slot rfl)) (fun a F => ?_)
      refine q2 (o_s 54 (.fieldAddr 72 (.tmp 53) 5) 0 (by kernel_rfl)) F (by decide) (v := .pointer (some ⟨g, 5, none⟩)) (x_field0 Tryd.underlying72 rfl rfl (Tryd.sizeOf3 W) (F.slot rfl)) (fun a F => ?_)
      refine q2 (o_s 55 (.load 3 (.tmp 54)) 3 (by kernel_rfl)) F (by decide) (v := .int .i64 n0) (x_load1 (Tryd.isAgg3 W) (F.slot rfl) (H.cell 0 rfl rfl)) (fun a F => ?_)
      refine q2 (o_s 56 (.binOp .add 3 (.tmp 55) (.const (.int .i64 1)) 3) 3 (by kernel_rfl)) F (by decide) (v := .int .i64 (IntKind.i64.wrap (n0 + 1))) (x_int (F.slot rfl) rfl rfl) (fun a F => ?_)
      have F := F.conv (v' := .int .i64 (n0 + 1)) (congrArg (Value.int .i64) (wrap_i64 _ (by omega) (by omega)))
      refine q2 (o_s 57 (.nilCheck (.tmp 52)) 0 (by kernel_rfl)) F (by decide) (v := .pointer (some ⟨g, 0, none⟩)) (x_nil (F.slot rfl)) (fun a F => ?_)
      refine q2 (o_s 58 (.fieldAddr 72 (.tmp 57) 5) 0 (by kernel_rfl)) F (by decide) (v := .pointer (some ⟨g, 5, none⟩)) (x_field0 Tryd.underlying72 rfl rfl (Tryd.sizeOf3 W) (F.slot rfl)) (fun a F => ?_)
      refine sq_put (M := [Asn.blk g [.int .i64 a0, .int .i64 s0, .int .i64 t0, .slice A xs.length c, .int .i64 (k0 + 1), .int .i64 (n0 + 1)] 72, Asn.qu k33 33 (.slice A xs.length c) xs ok, Asn.blk g1 [.int .i64 0, .int .i64 0, .slice none 0 0] 40]) (o_n (.store 3 (.tmp 58) (.tmp 56)) 0 (by kernel_rfl)) trivial F (x_store H (k := 0) (cs' := [.int .i64 a0, .int .i64 s0, .int .i64 t0, .slice A xs.length c, .int .i64 (k0 + 1), .int .i64 (n0 + 1)]) rfl (Tryd.sizeOf3 W) (F.slot rfl) (F.slot rfl) rfl (Nat.le_of_ble_eq_true rfl) rfl rfl) ?_
      intro W H
      refine ⟨(fun _ => trivial), ?_⟩
      unfold wpSeq
      refine t_normal ?_
      refine c_seq (by kernel_rfl) ?_
      refine c_drawn (id := 8) (by kernel_rfl) (by kernel_rfl) (Vs [Asn.blk g [.int .i64 a0, .int .i64 s0, .int .i64 t0, .slice A xs.length c, .int .i64 (k0 + 1), .int .i64 (n0 + 1)] 72]) [0, 1, 3, 7, 0, 16, 48, 112, 0, 256, 768, 1792, 0, 0, 16128, 32767, 0, 131071] [17] [(0, 0), (1, 0), (2, 0), (4, 0), (5, 0), (6, 0), (8, 0), (9, 0), (10, 0), (12, 0), (13, 0), (3, 1), (7, 1), (11, 1), (14, 0), (15, 0), (16, 2), (17, 2)] (by kernel_rfl) (fun _ _ d _ _ h => by cases d <;> exact h) (Vs.drew ⟨H.get 0 rfl, trivial⟩) ?_
      have H := H.drew
      generalize World.drew W = W at H ⊢
      refine q0 (o_s 59 (.move (.tmp 0)) 23 (by kernel_rfl)) F (by decide) (fun W_ => x_move (F.slot rfl)) (fun a F => ?_)
      refine q0 (o_s 60 (.nilCheck (.tmp 59)) 0 (by kernel_rfl)) F (by decide) (v := .pointer (some ⟨g, 0, none⟩)) (fun W_ => x_nil (F.slot rfl)) (fun a F => ?_)
      refine q0 (o_s 61 (.fieldAddr 72 (.tmp 60) 0) 0 (by kernel_rfl)) F (by decide) (v := .pointer (some ⟨g, 0, none⟩)) (fun W_ => x_field0 Tryd.underlying72 rfl rfl (Tryd.sizeOf3 W_) (F.slot rfl)) (fun a F => ?_)
      refine q0 (o_s 63 (.move (.tmp 0)) 23 (by kernel_rfl)) F (by decide) (fun W_ => x_move (F.slot rfl)) (fun a F => ?_)
      refine q0 (o_s 64 (.nilCheck (.tmp 63)) 0 (by kernel_rfl)) F (by decide) (v := .pointer (some ⟨g, 0, none⟩)) (fun W_ => x_nil (F.slot rfl)) (fun a F => ?_)
      refine q0 (o_s 65 (.fieldAddr 72 (.tmp 64) 5) 0 (by kernel_rfl)) F (by decide) (v := .pointer (some ⟨g, 5, none⟩)) (fun W_ => x_field0 Tryd.underlying72 rfl rfl (Tryd.sizeOf3 W_) (F.slot rfl)) (fun a F => ?_)
      refine q0 (o_s 67 (.move (.tmp 0)) 23 (by kernel_rfl)) F (by decide) (fun W_ => x_move (F.slot rfl)) (fun a F => ?_)
      refine q0 (o_s 68 (.nilCheck (.tmp 67)) 0 (by kernel_rfl)) F (by decide) (v := .pointer (some ⟨g, 0, none⟩)) (fun W_ => x_nil (F.slot rfl)) (fun a F => ?_)
      refine q0 (o_s 69 (.fieldAddr 72 (.tmp 68) 3) 0 (by kernel_rfl)) F (by decide) (v := .pointer (some ⟨g, 3, none⟩)) (fun W_ => x_field0 Tryd.underlying72 rfl rfl (Tryd.sizeOf38 W_) (F.slot rfl)) (fun a F => ?_)
      refine q0 (o_s 71 (.move (.tmp 4)) 3 (by kernel_rfl)) F (by decide) (fun W_ => x_move (F.slot rfl)) (fun a F => ?_)
      refine q0 (o_s 72 (.move (.tmp 4)) 3 (by kernel_rfl)) F (by decide) (fun W_ => x_move (F.slot rfl)) (fun a F => ?_)
      refine q1 (o_s 62 (.load 3 (.tmp 61)) 3 (by kernel_rfl)) F (by decide) (⟨H.get 0 rfl, trivial⟩) (v := .int .i64 a0) (fun W_ hV => x_load1 (Tryd.isAgg3 W_) (F.slot rfl) (bcell hV.1 rfl)) (fun a F => ?_)
      refine q1 (o_s 66 (.load 3 (.tmp 65)) 3 (by kernel_rfl)) F (by decide) (⟨H.get 0 rfl, trivial⟩) (v := .int .i64 (n0 + 1)) (fun W_ hV => x_load1 (Tryd.isAgg3 W_) (F.slot rfl) (bcell hV.1 rfl)) (fun a F => ?_)
      refine q1 (o_s 70 (.load 38 (.tmp 69)) 38 (by kernel_rfl)) F (by decide) (⟨H.get 0 rfl, trivial⟩) (v := .slice A xs.length c) (fun W_ hV => x_load1 (Tryd.isAgg38 W_) (F.slot rfl) (bcell hV.1 rfl)) (fun a F => ?_)
      refine q0 (o_s 73 (.slice 38 (.tmp 70) none (some (.tmp 71)) (some (.tmp 72))) 38 (by kernel_rfl)) F (by decide) (v := .slice A m m) (fun W_ => x_sliceLm Tryd.underlying38 (Tryd.sizeOf33 W_) (F.slot rfl) (F.slot rfl) (F.slot rfl) (by omega)) (fun a F => ?_)
      refine q0 (o_s 74 (.build 40 #[(0, (.tmp 62)), (1, (.tmp 66)), (2, (.tmp 73))]) 40 (by kernel_rfl)) F (by decide) (v := .agg #[.int .i64 a0, .int .i64 (n0 + 1), .slice A m m]) (fun W_ => by simp [ex, execOp, Instr.build, Tryd.zeroValue40, run_underlying Tryd.underlying40, Instr.fill, Value.cells, F.slot (i := 62) rfl, F.slot (i := 66) rfl, F.slot (i := 73) rfl, Tryd.sizeOf3, Tryd.sizeOf38]) (fun a F => ?_)
      refine sq_new (o_s 5 (.alloc 40) 0 (by kernel_rfl)) trivial F (by decide) H [.int .i64 0, .int .i64 0, .slice none 0 0] 40 (x_alloc Tryd.zeroValue40 rfl) ?_
      intro g11 W a hg11 H F
      refine ⟨(fun _ => ⟨H.get 0 rfl, trivial⟩), ?_⟩
      refine sq_put (M := [Asn.blk g [.int .i64 a0, .int .i64 s0, .int .i64 t0, .slice A xs.length c, .int .i64 (k0 + 1), .int .i64 (n0 + 1)] 72, Asn.qu k33 33 (.slice A xs.length c) xs ok, Asn.blk g1 [.int .i64 0, .int .i64 0, .slice none 0 0] 40, Asn.blk g11 [.int .i64 a0, .int .i64 (n0 + 1), .slice A m m] 40]) (o_n (.store 40 (.tmp 5) (.tmp 74)) 0 (by kernel_rfl)) trivial F (x_store H (k := 3) (cs' := [.int .i64 a0, .int .i64 (n0 + 1), .slice A m m]) rfl (Tryd.sizeOf40 W) (F.slot rfl) (F.slot rfl) rfl (Nat.le_of_ble_eq_true rfl) rfl rfl) ?_
      intro W H
      refine ⟨(fun h => absurd (by decide) h), ?_⟩
      unfold wpSeq
      refine t_normal ?_
      refine c_seq (by kernel_rfl) ?_
      refine c_text (id := 9) (by kernel_rfl) [(0, 2), (1, 2), (2, 2), (3, 2), (4, 2), (5, 2), (6, 2), (7, 2), (8, 2), (9, 2), (10, 2), (11, 2), (12, 2), (13, 2)] (by kernel_rfl) ?_
      refine q2 (o_s 75 (.move (.tmp 0)) 23 (by kernel_rfl)) F (by decide) (x_move (F.slot rfl)) (fun a F => ?_)
      refine q2 (o_s 76 (.move (.tmp 0)) 23 (by kernel_rfl)) F (by decide) (x_move (F.slot rfl)) (fun a F => ?_)
      refine q2 (o_s 77 (.move (.tmp 0)) 23 (by kernel_rfl)) F (by decide) (x_move (F.slot rfl)) (fun a F => ?_)
      refine q2 (o_s 78 (.nilCheck (.tmp 77)) 0 (by kernel_rfl)) F (by decide) (v := .pointer (some ⟨g, 0, none⟩)) (x_nil (F.slot rfl)) (fun a F => ?_)
      refine q2 (o_s 79 (.fieldAddr 72 (.tmp 78) 3) 0 (by kernel_rfl)) F (by decide) (v := .pointer (some ⟨g, 3, none⟩)) (x_field0 Tryd.underlying72 rfl rfl (Tryd.sizeOf38 W) (F.slot rfl)) (fun a F => ?_)
      refine q2 (o_s 80 (.load 38 (.tmp 79)) 38 (by kernel_rfl)) F (by decide) (v := .slice A xs.length c) (x_load1 (Tryd.isAgg38 W) (F.slot rfl) (H.cell 0 rfl rfl)) (fun a F => ?_)
      refine q2 (o_s 81 (.move (.tmp 4)) 3 (by kernel_rfl)) F (by decide) (x_move (F.slot rfl)) (fun a F => ?_)
      refine q2 (o_s 82 (.slice 38 (.tmp 80) (some (.tmp 81)) none none) 38 (by kernel_rfl)) F (by decide) (v := .slice (if c = m then A else A.map (·.add (m * 9))) (xs.length - m) (c - m)) (x_sliceLl (z := 9) Tryd.underlying38 (Tryd.sizeOf33 W) (F.slot rfl) (F.slot rfl) (by omega)) (fun a F => ?_)
      refine q2 (o_s 83 (.nilCheck (.tmp 75)) 0 (by kernel_rfl)) F (by decide) (v := .pointer (some ⟨g, 0, none⟩)) (x_nil (F.slot rfl)) (fun a F => ?_)
      refine q2 (o_s 84 (.fieldAddr 72 (.tmp 83) 3) 0 (by kernel_rfl)) F (by decide) (v := .pointer (some ⟨g, 3, none⟩)) (x_field0 Tryd.underlying72 rfl rfl (Tryd.sizeOf38 W) (F.slot rfl)) (fun a F => ?_)
      refine sq_put (M := [Asn.blk g [.int .i64 a0, .int .i64 s0, .int .i64 t0, .slice (if c = m then A else A.map (·.add (m * 9))) (xs.length - m) (c - m), .int .i64 (k0 + 1), .int .i64 (n0 + 1)] 72, Asn.qu k33 33 (.slice A xs.length c) xs ok, Asn.blk g1 [.int .i64 0, .int .i64 0, .slice none 0 0] 40, Asn.blk g11 [.int .i64 a0, .int .i64 (n0 + 1), .slice A m m] 40]) (o_n (.store 38 (.tmp 84) (.tmp 82)) 0 (by kernel_rfl)) trivial F (x_store H (k := 0) (cs' := [.int .i64 a0, .int .i64 s0, .int .i64 t0, .slice (if c = m then A else A.map (·.add (m * 9))) (xs.length - m) (c - m), .int .i64 (k0 + 1), .int .i64 (n0 + 1)]) rfl (Tryd.sizeOf38 W) (F.slot rfl) (F.slot rfl) rfl (Nat.le_of_ble_eq_true rfl) rfl rfl) ?_
      intro W H
      refine ⟨(fun _ => trivial), ?_⟩
      refine q2 (o_s 85 (.nilCheck (.tmp 76)) 0 (by kernel_rfl)) F (by decide) (v := .pointer (some ⟨g, 0, none⟩)) (x_nil (F.slot rfl)) (fun a F => ?_)
      refine q2 (o_s 86 (.fieldAddr 72 (.tmp 85) 4) 0 (by kernel_rfl)) F (by decide) (v := .pointer (some ⟨g, 4, none⟩)) (x_field0 Tryd.underlying72 rfl rfl (Tryd.sizeOf3 W) (F.slot rfl)) (fun a F => ?_)
      refine sq_put (M := [Asn.blk g [.int .i64 a0, .int .i64 s0, .int .i64 t0, .slice (if c = m then A else A.map (·.add (m * 9))) (xs.length - m) (c - m), .int .i64 0, .int .i64 (n0 + 1)] 72, Asn.qu k33 33 (.slice A xs.length c) xs ok, Asn.blk g1 [.int .i64 0, .int .i64 0, .slice none 0 0] 40, Asn.blk g11 [.int .i64 a0, .int .i64 (n0 + 1), .slice A m m] 40]) (o_n (.store 3 (.tmp 86) (.const (.int .i64 0))) 0 (by kernel_rfl)) trivial F (x_store H (k := 0) (cs' := [.int .i64 a0, .int .i64 s0, .int .i64 t0, .slice (if c = m then A else A.map (·.add (m * 9))) (xs.length - m) (c - m), .int .i64 0, .int .i64 (n0 + 1)]) rfl (Tryd.sizeOf3 W) (F.slot rfl) rfl rfl (Nat.le_of_ble_eq_true rfl) rfl rfl) ?_
      intro W H
      refine ⟨(fun _ => trivial), ?_⟩
      unfold wpSeq
      refine t_normal ?_
      refine c_seq (by kernel_rfl) ?_
      refine c_text (id := 10) (by kernel_rfl) [(0, 2), (1, 2), (2, 2)] (by kernel_rfl) ?_
      refine q2 (o_s 87 (.load 40 (.tmp 5)) 40 (by kernel_rfl)) F (by decide) (v := .agg #[.int .i64 a0, .int .i64 (n0 + 1), .slice A m m]) (x_loadB (Tryd.isAgg40 W) [.int .i64 a0, .int .i64 (n0 + 1), .slice A m m] (Tryd.sizeOf40 W) (F.slot rfl) (H.blk 3 rfl)) (fun a F => ?_)
      refine sq_put (M := [Asn.blk g [.int .i64 a0, .int .i64 s0, .int .i64 t0, .slice (if c = m then A else A.map (·.add (m * 9))) (xs.length - m) (c - m), .int .i64 0, .int .i64 (n0 + 1)] 72, Asn.qu k33 33 (.slice A xs.length c) xs ok, Asn.blk g1 [.int .i64 a0, .int .i64 (n0 + 1), .slice A m m] 40, Asn.blk g11 [.int .i64 a0, .int .i64 (n0 + 1), .slice A m m] 40]) (o_n (.store 40 (.tmp 2) (.tmp 87)) 0 (by kernel_rfl)) trivial F (x_store H (k := 2) (cs' := [.int .i64 a0, .int .i64 (n0 + 1), .slice A m m]) rfl (Tryd.sizeOf40 W) (F.slot rfl) (F.slot rfl) rfl (Nat.le_of_ble_eq_true rfl) rfl rfl) ?_
      intro W H
      refine ⟨(fun _ => trivial), ?_⟩
      refine q2 (o_s 3 (.assign (.const (.bool true))) 4 (by kernel_rfl)) F (by decide) (v := .bool true) (x_assign rfl) (fun a F => ?_)
      unfold wpSeq
      refine t_normal ?_
      refine c_ret (by kernel_rfl) ?_
      refine p_list (rs := [.cell 2 40, .tmp 3]) (vs := [.agg #[.int .i64 a0, .int .i64 (n0 + 1), .slice A m m], .bool true]) Tryd.results21 (by simp) F (Vals.cell' F rfl (H.blk 2 rfl) Tryd.underlying40 rfl (by kernel_rfl) (Vals.tmp' F rfl .nil)) ?_
      have H := H.quCut (by decide) 1 rfl m (by omega)
      exact .inr (.inr ⟨by omega, by omega, m, hm, rfl, H.front 2⟩)
end Go.Proofs.YtndicjikjcifaaaDoor

/- The document's sealer: Tick. -/
namespace Go.Proofs.YtndicjikjcifaaaDoor
open Go.RowKit Go.Proofs.YtndicjikjcifaaaDoorW.PrintWords Go.Proofs.YtndicjikjcifaaaDoorW.PrintLast
set_option linter.unusedVariables false
set_option linter.unusedSimpArgs false
set_option maxRecDepth 100000
open PB (S33 k33)
def RTicked (g : Nat) (a0 s0 t0 k0 n0 : Int) (A : Option Addr) (c : Nat) (xs : List S33) (ok : Nat → Prop) (w : World) (Sf Rf : Nat → Prop) (e : Ending) (W : World) : Prop :=
  (xs.length = 0 ∧ e = .returned (.tuple #[.agg #[.int .i64 0, .int .i64 0, .slice none 0 0], .bool false]) ∧ St w Sf Rf [Asn.blk g [.int .i64 a0, .int .i64 s0, .int .i64 t0, .slice A xs.length c, .int .i64 k0, .int .i64 n0] 46, Asn.qu k33 33 (.slice A xs.length c) xs ok] W) ∨
  (xs.length ≠ 0 ∧ (xs.length : Int) < s0 ∧ k0 + 1 < t0 ∧ e = .returned (.tuple #[.agg #[.int .i64 0, .int .i64 0, .slice none 0 0], .bool false]) ∧ St w Sf Rf [Asn.blk g [.int .i64 a0, .int .i64 s0, .int .i64 t0, .slice A xs.length c, .int .i64 (k0 + 1), .int .i64 n0] 46, Asn.qu k33 33 (.slice A xs.length c) xs ok] W) ∨
  (xs.length ≠ 0 ∧ ¬ ((xs.length : Int) < s0 ∧ k0 + 1 < t0) ∧ ∃ (m : Nat) (A' : Option Addr) (c' : Nat) (ok' : Nat → Prop), (m : Int) = min s0 (xs.length : Int) ∧ (xs.take m).length ≤ c' ∧ e = .returned (.tuple #[.agg #[.int .i64 a0, .int .i64 (n0 + 1), .slice A' (xs.take m).length c'], .bool true]) ∧
    St w Sf Rf [Asn.blk g [.int .i64 a0, .int .i64 s0, .int .i64 t0, .slice (if c = m then A else A.map (·.add (m * 9))) (xs.length - m) (c - m), .int .i64 0, .int .i64 (n0 + 1)] 46, Asn.qu k33 33 (.slice (if c = m then A else A.map (·.add (m * 9))) (xs.length - m) (c - m)) (xs.drop m) ok, Asn.rd k33 ok' A' (xs.take m).length (xs.take m)] W)
end Go.Proofs.YtndicjikjcifaaaDoor

/- The program's sealer: Waits. -/
namespace Go.Proofs.YtndicjikjcifaaaDoor
open Go.RowKit Go.Proofs.YtndicjikjcifaaaDoorW.PrintWords Go.Proofs.YtndicjikjcifaaaDoorW.PrintLast
set_option linter.unusedVariables false
set_option linter.unusedSimpArgs false
set_option maxRecDepth 100000
theorem waits_calls (g : Nat) (a0 s0 t0 k0 n0 : Int) (A : Option Addr) (n c : Nat) (w : World) {Sf Rf : Nat → Prop} (H : St w Sf Rf [Asn.blk g [.int .i64 a0, .int .i64 s0, .int .i64 t0, .slice A n c, .int .i64 k0, .int .i64 n0] 72] w) : Calls Tryd.prog 24 #[.pointer (some ⟨g, 0, none⟩)] w fun e W => e = .returned (.int .i64 (n : Int)) ∧ St w Sf Rf [Asn.blk g [.int .i64 a0, .int .i64 s0, .int .i64 t0, .slice A n c, .int .i64 k0, .int .i64 n0] 72] W := by
  refine c_enter2 (args := [.pointer (some ⟨g, 0, none⟩)]) (S := Sf) (R := Rf) (M := [Asn.blk g [.int .i64 a0, .int .i64 s0, .int .i64 t0, .slice A n c, .int .i64 k0, .int .i64 n0] 72]) Tryd.func24 (by kernel_rfl) 8 Tryd.ntmps24 (Nat.le_of_ble_eq_true rfl) (H) (fun a W F H => ?_)
  have F := F.less [(0, .pointer (some ⟨g, 0, none⟩))] (subc rfl sub0)
  refine c_seq (by kernel_rfl) ?_
  refine c_text (id := 0) (by kernel_rfl) [(0, 2)] (by kernel_rfl) ?_
  refine q2 (o_s 2 (.assign (.const (.int .i64 0))) 3 (by kernel_rfl)) F (by decide) (v := .int .i64 0) (x_assign rfl) (fun a F => ?_)
  unfold wpSeq
  have H : St w Sf Rf [Asn.blk g [.int .i64 a0, .int .i64 s0, .int .i64 t0, .slice A n c, .int .i64 k0, .int .i64 n0] 72] W := H
  refine t_normal ?_
  refine c_seq (by kernel_rfl) ?_
  refine c_text (id := 1) (by kernel_rfl) [(0, 2), (1, 2), (2, 2), (3, 2), (4, 2), (5, 2)] (by kernel_rfl) ?_
  refine q2 (o_s 3 (.move (.tmp 0)) 23 (by kernel_rfl)) F (by decide) (x_move (F.slot rfl)) (fun a F => ?_)
  refine q2 (o_s 4 (.nilCheck (.tmp 3)) 0 (by kernel_rfl)) F (by decide) (v := .pointer (some ⟨g, 0, none⟩)) (x_nil (F.slot rfl)) (fun a F => ?_)
  refine q2 (o_s 5 (.fieldAddr 72 (.tmp 4) 3) 0 (by kernel_rfl)) F (by decide) (v := .pointer (some ⟨g, 3, none⟩)) (x_field0 Tryd.underlying72 rfl rfl (Tryd.sizeOf38 W) (F.slot rfl)) (fun a F => ?_)
  refine q2 (o_s 6 (.load 38 (.tmp 5)) 38 (by kernel_rfl)) F (by decide) (v := .slice A n c) (x_load1 (Tryd.isAgg38 W) (F.slot rfl) (H.cell 0 rfl rfl)) (fun a F => ?_)
  refine q2 (o_s 7 (.call { callee := (.builtin .len), args := #[(.tmp 6)], argTypes := #[38] }) 3 (by kernel_rfl)) F (by decide) (v := .int .i64 (n : Int)) (x_lenL Tryd.underlying38 (F.slot rfl)) (fun a F => ?_)
  refine q2 (o_s 2 (.assign (.tmp 7)) 3 (by kernel_rfl)) F (by decide) (v := .int .i64 (n : Int)) (x_assign (F.slot rfl)) (fun a F => ?_)
  unfold wpSeq
  refine t_normal ?_
  refine c_ret (by kernel_rfl) ?_
  refine p_tmp Tryd.results24 F rfl ?_
  exact ⟨rfl, H⟩
end Go.Proofs.YtndicjikjcifaaaDoor

/- tx.Decode. -/
namespace Go.Proofs.YtndicjikjcifaaaDoor
open Go.RowKit Go.Shelf Go.Lib Go.Proofs.YtndicjikjcifaaaDoorW.PrintWords Go.Proofs.YtndicjikjcifaaaDoorW.PrintLast
set_option linter.unusedVariables false
set_option linter.unusedSimpArgs false
theorem tx9 {W : World} {g : Nat} {b0 b1 b2 b3 b4 b5 b6 b7 b8 : Value} {T : TypeId} (h : W.heap[g]? = some (.cells #[b0, b1, b2, b3, b4, b5, b6, b7, b8] T (0, 0))) :
    W.cell? ⟨g, 0, none⟩ = some b0 ∧ W.cell? ⟨g, 1, none⟩ = some b1 ∧ W.cell? ⟨g, 2, none⟩ = some b2 ∧ W.cell? ⟨g, 3, none⟩ = some b3 ∧ W.cell? ⟨g, 4, none⟩ = some b4 ∧ W.cell? ⟨g, 5, none⟩ = some b5 ∧ W.cell? ⟨g, 6, none⟩ = some b6 ∧ W.cell? ⟨g, 7, none⟩ = some b7 ∧ W.cell? ⟨g, 8, none⟩ = some b8 ∧ W.frozen? ⟨g, 0, none⟩ = false ∧ W.frozen? ⟨g, 1, none⟩ = false ∧ W.frozen? ⟨g, 2, none⟩ = false ∧ W.frozen? ⟨g, 3, none⟩ = false ∧ W.frozen? ⟨g, 4, none⟩ = false ∧ W.frozen? ⟨g, 5, none⟩ = false ∧ W.frozen? ⟨g, 6, none⟩ = false ∧ W.frozen? ⟨g, 7, none⟩ = false ∧ W.frozen? ⟨g, 8, none⟩ = false :=
  ⟨blk_cell h 0, blk_cell h 1, blk_cell h 2, blk_cell h 3, blk_cell h 4, blk_cell h 5, blk_cell h 6, blk_cell h 7, blk_cell h 8, blk_frozen h 0, blk_frozen h 1, blk_frozen h 2, blk_frozen h 3, blk_frozen h 4, blk_frozen h 5, blk_frozen h 6, blk_frozen h 7, blk_frozen h 8⟩
theorem undo_no (g h : Nat) (w : World) (he : w.heap[g]? = some (.cells #[.int .i64 0] 24 (0, 0))) :
    CallsD Tryd.prog 50 #[.pointer (some ⟨g, 0, none⟩), .pointer (some ⟨h, 0, none⟩)] .returning w fun e u' w' => u' = .returning ∧ (e = .returned (.tuple #[]) ∧ w' = w) := by
  have c0 : w.cell? ⟨g, 0, none⟩ = some (.int .i64 0) := blk_cell he 0
  clear he
  go_enter_d Tryd.func50, Tryd.ntmps50
  go_wp2
  go_end0
  exact ⟨rfl, rfl⟩
def zset (w : World) (h : Nat) : World :=
  (((((((((w.setCell ⟨h, 0, none⟩ (.int .i64 0)).setCell ⟨h, 1, none⟩ (.string ⟨#[]⟩)).setCell ⟨h, 2, none⟩ (.string ⟨#[]⟩)).setCell ⟨h, 3, none⟩ (.int .u64 0)).setCell ⟨h, 4, none⟩ (.int .u64 0)).setCell ⟨h, 5, none⟩ (.string ⟨#[]⟩)).setCell ⟨h, 6, none⟩ (.string ⟨#[]⟩)).setCell ⟨h, 7, none⟩ (.slice none 0 0)).setCell ⟨h, 8, none⟩ (.slice none 0 0))
theorem zset_box (w : World) (h : Nat) (b0 b1 b2 b3 b4 b5 b6 b7 b8 : Value) (ht : w.heap[h]? = some (.cells #[b0, b1, b2, b3, b4, b5, b6, b7, b8] 33 (0, 0))) :
    (zset w h).heap[h]? = some (.cells #[.int .i64 0, .string ⟨#[]⟩, .string ⟨#[]⟩, .int .u64 0, .int .u64 0, .string ⟨#[]⟩, .string ⟨#[]⟩, .slice none 0 0, .slice none 0 0] 33 (0, 0)) := by
  have := blk_set (blk_set (blk_set (blk_set (blk_set (blk_set (blk_set (blk_set (blk_set ht 0 (.int .i64 0)) 1 (.string ⟨#[]⟩)) 2 (.string ⟨#[]⟩)) 3 (.int .u64 0)) 4 (.int .u64 0)) 5 (.string ⟨#[]⟩)) 6 (.string ⟨#[]⟩)) 7 (.slice none 0 0)) 8 (.slice none 0 0)
  simpa [zset] using this
theorem zset_blk (w : World) (h g : Nat) (hg : g ≠ h) : (zset w h).heap[g]? = w.heap[g]? := by
  simp only [zset]
  iterate 9 rw [Below.heap_setCell _ _ _ _ (by simpa using hg)]
theorem zset_below {w0 w : World} {h : Nat} (hl : Below w0.heap.size w0 w) (hh : w0.heap.size ≤ h) : Below w0.heap.size w0 (zset w h) := by
  simp only [zset]
  iterate 9 refine Below.setCell ?_ (by simpa using hh) _
  exact hl
theorem undo_yes (g h : Nat) (x : Int) (hx : x ≠ 0) (b0 b1 b2 b3 b4 b5 b6 b7 b8 : Value) (w : World) (he : w.heap[g]? = some (.cells #[.int .i64 x] 24 (0, 0))) (ht : w.heap[h]? = some (.cells #[b0, b1, b2, b3, b4, b5, b6, b7, b8] 33 (0, 0))) :
    CallsD Tryd.prog 50 #[.pointer (some ⟨g, 0, none⟩), .pointer (some ⟨h, 0, none⟩)] .returning w fun e u' w' => u' = .returning ∧ (e = .returned (.tuple #[]) ∧ w' = zset w h) := by
  have c0 : w.cell? ⟨g, 0, none⟩ = some (.int .i64 x) := blk_cell he 0
  have hx : (x == 0) = false := by simpa using hx
  have d0 : w.cell? ⟨h, 0, none⟩ = some b0 := blk_cell ht 0
  have f0 := blk_frozen ht 0
  have d1 : w.cell? ⟨h, 1, none⟩ = some b1 := blk_cell ht 1
  have f1 := blk_frozen ht 1
  have d2 : w.cell? ⟨h, 2, none⟩ = some b2 := blk_cell ht 2
  have f2 := blk_frozen ht 2
  have d3 : w.cell? ⟨h, 3, none⟩ = some b3 := blk_cell ht 3
  have f3 := blk_frozen ht 3
  have d4 : w.cell? ⟨h, 4, none⟩ = some b4 := blk_cell ht 4
  have f4 := blk_frozen ht 4
  have d5 : w.cell? ⟨h, 5, none⟩ = some b5 := blk_cell ht 5
  have f5 := blk_frozen ht 5
  have d6 : w.cell? ⟨h, 6, none⟩ = some b6 := blk_cell ht 6
  have f6 := blk_frozen ht 6
  have d7 : w.cell? ⟨h, 7, none⟩ = some b7 := blk_cell ht 7
  have f7 := blk_frozen ht 7
  have d8 : w.cell? ⟨h, 8, none⟩ = some b8 := blk_cell ht 8
  have f8 := blk_frozen ht 8
  clear he ht
  go_enter_d Tryd.func50, Tryd.ntmps50
  go_wp2
  go_end0
  exact ⟨rfl, rfl⟩
def zagg : Value := .agg #[.int .i64 0, .string ⟨#[]⟩, .string ⟨#[]⟩, .int .u64 0, .int .u64 0, .string ⟨#[]⟩, .string ⟨#[]⟩, .slice none 0 0, .slice none 0 0]
structure Dx (w : World) (b0 b1 b2 b3 b4 b5 b6 b7 b8 : Value) (s : ByteArray) (W : World) : Prop where
  low : Below w.heap.size w W
  tx : W.heap[w.heap.size]? = some (.cells #[b0, b1, b2, b3, b4, b5, b6, b7, b8] 33 (0, 0))
  er : W.heap[w.heap.size + 1]? = some (.cells #[.int .i64 0] 24 (0, 0))
  rd : W.heap[w.heap.size + 1 + 1]? = some (.cells #[.string s] 77 (0, 0))
theorem Dx.size {w W : World} {b0 b1 b2 b3 b4 b5 b6 b7 b8 : Value} {s : ByteArray} (h : Dx w b0 b1 b2 b3 b4 b5 b6 b7 b8 s W) : w.heap.size + 1 + 1 < W.heap.size := by
  have := h.rd
  rcases Nat.lt_or_ge (w.heap.size + 1 + 1) W.heap.size with h | h
  · exact h
  · rw [Array.getElem?_eq_none h] at this; cases this
theorem Dx.read {w W W' : World} {b0 b1 b2 b3 b4 b5 b6 b7 b8 : Value} {s s' : ByteArray} (h : Dx w b0 b1 b2 b3 b4 b5 b6 b7 b8 s W) (hr : Rd (w.heap.size + 1 + 1) s' W W') : Dx w b0 b1 b2 b3 b4 b5 b6 b7 b8 s' W' :=
  ⟨hr.below h.low (by omega), (hr.blk (by omega) (by have := h.size; omega)).trans h.tx, (hr.blk (by omega) (by have := h.size; omega)).trans h.er, hr.box⟩
theorem Dx.step {w W W' : World} {b0 b1 b2 b3 b4 b5 b6 b7 b8 : Value} {s : ByteArray} (h : Dx w b0 b1 b2 b3 b4 b5 b6 b7 b8 s W) (hb : Below W.heap.size W W') : Dx w b0 b1 b2 b3 b4 b5 b6 b7 b8 s W' :=
  ⟨below_then h.low h.low.size hb, (hb.block _ (by have := h.size; omega)).trans h.tx, (hb.block _ (by have := h.size; omega)).trans h.er, (hb.block _ h.size).trans h.rd⟩
theorem Dx.set0 {w W : World} {b0 b1 b2 b3 b4 b5 b6 b7 b8 : Value} {s : ByteArray} (h : Dx w b0 b1 b2 b3 b4 b5 b6 b7 b8 s W) (v : Value) : Dx w v b1 b2 b3 b4 b5 b6 b7 b8 s (W.setCell ⟨w.heap.size, 0, none⟩ v) :=
  ⟨h.low.setCell (by simp) v, by simpa using blk_set h.tx 0 v, (Below.heap_setCell _ _ _ _ (by simp)).trans h.er, (Below.heap_setCell _ _ _ _ (by simp; omega)).trans h.rd⟩
theorem Dx.set1 {w W : World} {b0 b1 b2 b3 b4 b5 b6 b7 b8 : Value} {s : ByteArray} (h : Dx w b0 b1 b2 b3 b4 b5 b6 b7 b8 s W) (v : Value) : Dx w b0 v b2 b3 b4 b5 b6 b7 b8 s (W.setCell ⟨w.heap.size, 1, none⟩ v) :=
  ⟨h.low.setCell (by simp) v, by simpa using blk_set h.tx 1 v, (Below.heap_setCell _ _ _ _ (by simp)).trans h.er, (Below.heap_setCell _ _ _ _ (by simp; omega)).trans h.rd⟩
theorem Dx.set2 {w W : World} {b0 b1 b2 b3 b4 b5 b6 b7 b8 : Value} {s : ByteArray} (h : Dx w b0 b1 b2 b3 b4 b5 b6 b7 b8 s W) (v : Value) : Dx w b0 b1 v b3 b4 b5 b6 b7 b8 s (W.setCell ⟨w.heap.size, 2, none⟩ v) :=
  ⟨h.low.setCell (by simp) v, by simpa using blk_set h.tx 2 v, (Below.heap_setCell _ _ _ _ (by simp)).trans h.er, (Below.heap_setCell _ _ _ _ (by simp; omega)).trans h.rd⟩
theorem Dx.set3 {w W : World} {b0 b1 b2 b3 b4 b5 b6 b7 b8 : Value} {s : ByteArray} (h : Dx w b0 b1 b2 b3 b4 b5 b6 b7 b8 s W) (v : Value) : Dx w b0 b1 b2 v b4 b5 b6 b7 b8 s (W.setCell ⟨w.heap.size, 3, none⟩ v) :=
  ⟨h.low.setCell (by simp) v, by simpa using blk_set h.tx 3 v, (Below.heap_setCell _ _ _ _ (by simp)).trans h.er, (Below.heap_setCell _ _ _ _ (by simp; omega)).trans h.rd⟩
theorem Dx.set4 {w W : World} {b0 b1 b2 b3 b4 b5 b6 b7 b8 : Value} {s : ByteArray} (h : Dx w b0 b1 b2 b3 b4 b5 b6 b7 b8 s W) (v : Value) : Dx w b0 b1 b2 b3 v b5 b6 b7 b8 s (W.setCell ⟨w.heap.size, 4, none⟩ v) :=
  ⟨h.low.setCell (by simp) v, by simpa using blk_set h.tx 4 v, (Below.heap_setCell _ _ _ _ (by simp)).trans h.er, (Below.heap_setCell _ _ _ _ (by simp; omega)).trans h.rd⟩
theorem Dx.set5 {w W : World} {b0 b1 b2 b3 b4 b5 b6 b7 b8 : Value} {s : ByteArray} (h : Dx w b0 b1 b2 b3 b4 b5 b6 b7 b8 s W) (v : Value) : Dx w b0 b1 b2 b3 b4 v b6 b7 b8 s (W.setCell ⟨w.heap.size, 5, none⟩ v) :=
  ⟨h.low.setCell (by simp) v, by simpa using blk_set h.tx 5 v, (Below.heap_setCell _ _ _ _ (by simp)).trans h.er, (Below.heap_setCell _ _ _ _ (by simp; omega)).trans h.rd⟩
theorem Dx.set6 {w W : World} {b0 b1 b2 b3 b4 b5 b6 b7 b8 : Value} {s : ByteArray} (h : Dx w b0 b1 b2 b3 b4 b5 b6 b7 b8 s W) (v : Value) : Dx w b0 b1 b2 b3 b4 b5 v b7 b8 s (W.setCell ⟨w.heap.size, 6, none⟩ v) :=
  ⟨h.low.setCell (by simp) v, by simpa using blk_set h.tx 6 v, (Below.heap_setCell _ _ _ _ (by simp)).trans h.er, (Below.heap_setCell _ _ _ _ (by simp; omega)).trans h.rd⟩
theorem Dx.set7 {w W : World} {b0 b1 b2 b3 b4 b5 b6 b7 b8 : Value} {s : ByteArray} (h : Dx w b0 b1 b2 b3 b4 b5 b6 b7 b8 s W) (v : Value) : Dx w b0 b1 b2 b3 b4 b5 b6 v b8 s (W.setCell ⟨w.heap.size, 7, none⟩ v) :=
  ⟨h.low.setCell (by simp) v, by simpa using blk_set h.tx 7 v, (Below.heap_setCell _ _ _ _ (by simp)).trans h.er, (Below.heap_setCell _ _ _ _ (by simp; omega)).trans h.rd⟩
theorem Dx.set8 {w W : World} {b0 b1 b2 b3 b4 b5 b6 b7 b8 : Value} {s : ByteArray} (h : Dx w b0 b1 b2 b3 b4 b5 b6 b7 b8 s W) (v : Value) : Dx w b0 b1 b2 b3 b4 b5 b6 b7 v s (W.setCell ⟨w.heap.size, 8, none⟩ v) :=
  ⟨h.low.setCell (by simp) v, by simpa using blk_set h.tx 8 v, (Below.heap_setCell _ _ _ _ (by simp)).trans h.er, (Below.heap_setCell _ _ _ _ (by simp; omega)).trans h.rd⟩
theorem int_ok' (p : Nat) (s s' : ByteArray) (n k : Int) (w : World) (hg : gi s 9 0 0 = (n, k, 0)) (hr : rest s k = s') (h : w.heap[p]? = some (.cells #[.string s] 77 (0, 0))) :
    Calls Tryd.prog 52 #[.pointer (some ⟨p, 0, none⟩)] w fun e w' => e = .returned (.int .u64 n) ∧ Rd p s' w w' := by
  have := int_ok p s w h (by rw [hg])
  rw [hg] at this
  subst hr
  exact this
theorem text_ok' (p : Nat) (s s' f : ByteArray) (k : Int) (w : World) (hs : s.size < 4611686018427387904) (hg : gt s = (f, k, 0)) (hr : rest s k = s') (h : w.heap[p]? = some (.cells #[.string s] 77 (0, 0))) :
    Calls Tryd.prog 53 #[.pointer (some ⟨p, 0, none⟩)] w fun e w' => e = .returned (.string f) ∧ Rd p s' w w' := by
  have := text_ok p s w hs h (by rw [hg])
  rw [hg] at this
  subst hr
  exact this
theorem list_ok' (p : Nat) (s s' : ByteArray) (f : List ByteArray) (k : Int) (w : World) (hs : s.size < 4611686018427387904) (hg : gl s 8 = (f, k, 0)) (hr : rest s k = s') (h : w.heap[p]? = some (.cells #[.string s] 77 (0, 0))) :
    Calls Tryd.prog 54 #[.pointer (some ⟨p, 0, none⟩)] w fun e w' => ∃ v, e = .returned v ∧ Kd.R Kd.string 9 w' w.heap.size (fun _ => True) v f ∧ Rd p s' w w' := by
  have := list_ok p s w hs h (by rw [hg])
  rw [hg] at this
  subst hr
  exact this
theorem rest_size (s : ByteArray) (n : Int) : (rest s n).size ≤ s.size := by
  unfold rest
  rw [ByteArray.size_extract]
  omega
theorem Dx.first (w : World) (s : ByteArray) : Dx w (.int .i64 0) (.string ⟨#[]⟩) (.string ⟨#[]⟩) (.int .u64 0) (.int .u64 0) (.string ⟨#[]⟩) (.string ⟨#[]⟩) (.slice none 0 0) (.slice none 0 0) s
    (((w.alloc (.cells #[.int .i64 0, .string ⟨#[]⟩, .string ⟨#[]⟩, .int .u64 0, .int .u64 0, .string ⟨#[]⟩, .string ⟨#[]⟩, .slice none 0 0, .slice none 0 0] 33)).alloc (.cells #[.int .i64 0] 24)).alloc (.cells #[.string s] 77)) :=
  ⟨(((Below.refl _ w).alloc (Nat.le_refl _) _).alloc (by simp) _).alloc (by simp; omega) _, blk_alloc (blk_alloc (blk_new _ _) _) _, blk_alloc (blk_newAt _ _ (by simp)) _, blk_newAt _ _ (by simp)⟩
theorem Dx.died {w W : World} {b0 b1 b2 b3 b4 b5 b6 b7 b8 : Value} {s : ByteArray} (h : Dx w b0 b1 b2 b3 b4 b5 b6 b7 b8 s W) (x : Int) :
    (W.setCell ⟨w.heap.size + 1, 0, none⟩ (.int .i64 x)).heap[w.heap.size + 1]? = some (.cells #[.int .i64 x] 24 (0, 0)) ∧
    (W.setCell ⟨w.heap.size + 1, 0, none⟩ (.int .i64 x)).heap[w.heap.size]? = some (.cells #[b0, b1, b2, b3, b4, b5, b6, b7, b8] 33 (0, 0)) ∧
    Below w.heap.size w (W.setCell ⟨w.heap.size + 1, 0, none⟩ (.int .i64 x)) :=
  ⟨by simpa using blk_set h.er 0 (.int .i64 x), (Below.heap_setCell _ _ _ _ (by simp)).trans h.tx, h.low.setCell (by simp) _⟩
set_option maxHeartbeats 8000000 in
set_option maxRecDepth 100000 in
theorem dec_no1 (s : ByteArray) (w : World) (HN : Hid ((gi s 9 0 0).2.2 ≠ 0)) :
    Calls Tryd.prog 25 #[.string s] w fun e w' => e = .returned (.tuple #[zagg, .int .i64 (gi s 9 0 0).2.2]) ∧ Below w.heap.size w w' := by
  have hmf : ∀ (fn : Fn) (first cap : Array Value) (w : World), (Instr.makeFunc fn first cap).run Tryd.prog w = .ok (.func fn first cap) w := fun _ _ _ _ => rfl
  go_enter_defers Tryd.func25, Tryd.ntmps25
  have HX := Lib.hid (Dx.first w s)
  go_wp2_with (first
  | (go_at_call 52
     refine (int_no (w.heap.size + 1 + 1) s _ HX.out.rd HN.out).mono ?_
     rintro e w2 ⟨rfl, hB⟩
     have HX := Lib.hid (HX.out.step hB)
     clear hB))
  refine leaves_cons (f := 51) (args := #[.pointer (some ⟨w.heap.size + 1, 0, none⟩)]) (by simp) (by simp [go_sem]) ?_
  refine (caught_panicking ⟨w.heap.size + 1, 0, none⟩ 0 (gi s 9 0 0).2.2 [] _ (blk_cell HX.out.er 0) (blk_frozen HX.out.er 0)).mono ?_
  rintro e u' w'' ⟨rfl, rfl, rfl⟩
  refine leaves_cons (f := 50) (args := #[.pointer (some ⟨w.heap.size + 1, 0, none⟩), .pointer (some ⟨w.heap.size, 0, none⟩)]) (by simp [settle]) (by simp [go_sem]) ?_
  have hdied := HX.out.died (gi s 9 0 0).2.2
  refine (undo_yes (w.heap.size + 1) w.heap.size (gi s 9 0 0).2.2 HN.out _ _ _ _ _ _ _ _ _ _ hdied.1 hdied.2.1).mono ?_
  rintro e u' w'' ⟨rfl, rfl, rfl⟩
  have hz := zset_box _ w.heap.size _ _ _ _ _ _ _ _ _ hdied.2.1
  have hze := (zset_blk _ w.heap.size (w.heap.size + 1) (by omega)).trans hdied.1
  have hzb := zset_below hdied.2.2 (Nat.le_refl _)
  generalize zset _ w.heap.size = Z at hz hze hzb ⊢
  have d0 : Z.cell? ⟨w.heap.size, 0, none⟩ = some (.int .i64 0) := blk_cell hz 0
  have d1 : Z.cell? ⟨w.heap.size, 1, none⟩ = some (.string ⟨#[]⟩) := blk_cell hz 1
  have d2 : Z.cell? ⟨w.heap.size, 2, none⟩ = some (.string ⟨#[]⟩) := blk_cell hz 2
  have d3 : Z.cell? ⟨w.heap.size, 3, none⟩ = some (.int .u64 0) := blk_cell hz 3
  have d4 : Z.cell? ⟨w.heap.size, 4, none⟩ = some (.int .u64 0) := blk_cell hz 4
  have d5 : Z.cell? ⟨w.heap.size, 5, none⟩ = some (.string ⟨#[]⟩) := blk_cell hz 5
  have d6 : Z.cell? ⟨w.heap.size, 6, none⟩ = some (.string ⟨#[]⟩) := blk_cell hz 6
  have d7 : Z.cell? ⟨w.heap.size, 7, none⟩ = some (.slice none 0 0) := blk_cell hz 7
  have d8 : Z.cell? ⟨w.heap.size, 8, none⟩ = some (.slice none 0 0) := blk_cell hz 8
  have de : Z.cell? ⟨w.heap.size + 1, 0, none⟩ = some (.int .i64 ((gi s 9 0 0).2.2)) := blk_cell hze 0
  clear hz hze hdied
  have HZ := Lib.hid hzb
  clear hzb
  simp [Leaves, settle, results, Tryd.results25, go_sem, d0, d1, d2, d3, d4, d5, d6, d7, d8, de]
  exact ⟨rfl, HZ.out⟩
set_option maxHeartbeats 8000000 in
set_option maxRecDepth 100000 in
theorem dec_no2 (s s1 : ByteArray) (kd : Int) (k1 : Int) (w : World) (E1 : Hid (gi s 9 0 0 = (kd, k1, 0))) (R1 : Hid (rest s k1 = s1)) (Z1 : Hid (s1.size < 4611686018427387904)) (HN : Hid ((gt s1).2.2 ≠ 0)) :
    Calls Tryd.prog 25 #[.string s] w fun e w' => e = .returned (.tuple #[zagg, .int .i64 (gt s1).2.2]) ∧ Below w.heap.size w w' := by
  have hmf : ∀ (fn : Fn) (first cap : Array Value) (w : World), (Instr.makeFunc fn first cap).run Tryd.prog w = .ok (.func fn first cap) w := fun _ _ _ _ => rfl
  go_enter_defers Tryd.func25, Tryd.ntmps25
  have HX := Lib.hid (Dx.first w s)
  go_wp2_with (first
  | (go_at_call 52
     refine (int_ok' (w.heap.size + 1 + 1) s s1 kd k1 _ E1.out R1.out HX.out.rd).mono ?_
     rintro e w2 ⟨rfl, hr⟩
     have HX := Lib.hid (HX.out.read hr)
     obtain ⟨t0, t1, t2, t3, t4, t5, t6, t7, t8, u0, u1, u2, u3, u4, u5, u6, u7, u8⟩ := tx9 HX.out.tx
     clear hr)
  | (go_at_call 53
     refine (text_no (w.heap.size + 1 + 1) s1 _ Z1.out HX.out.rd HN.out).mono ?_
     rintro e w2 ⟨rfl, hB⟩
     have HX := Lib.hid (HX.out.step hB)
     clear hB))
  refine leaves_cons (f := 51) (args := #[.pointer (some ⟨w.heap.size + 1, 0, none⟩)]) (by simp) (by simp [go_sem]) ?_
  refine (caught_panicking ⟨w.heap.size + 1, 0, none⟩ 0 (gt s1).2.2 [] _ (blk_cell HX.out.er 0) (blk_frozen HX.out.er 0)).mono ?_
  rintro e u' w'' ⟨rfl, rfl, rfl⟩
  refine leaves_cons (f := 50) (args := #[.pointer (some ⟨w.heap.size + 1, 0, none⟩), .pointer (some ⟨w.heap.size, 0, none⟩)]) (by simp [settle]) (by simp [go_sem]) ?_
  have hdied := HX.out.died (gt s1).2.2
  refine (undo_yes (w.heap.size + 1) w.heap.size (gt s1).2.2 HN.out _ _ _ _ _ _ _ _ _ _ hdied.1 hdied.2.1).mono ?_
  rintro e u' w'' ⟨rfl, rfl, rfl⟩
  have hz := zset_box _ w.heap.size _ _ _ _ _ _ _ _ _ hdied.2.1
  have hze := (zset_blk _ w.heap.size (w.heap.size + 1) (by omega)).trans hdied.1
  have hzb := zset_below hdied.2.2 (Nat.le_refl _)
  generalize zset _ w.heap.size = Z at hz hze hzb ⊢
  have d0 : Z.cell? ⟨w.heap.size, 0, none⟩ = some (.int .i64 0) := blk_cell hz 0
  have d1 : Z.cell? ⟨w.heap.size, 1, none⟩ = some (.string ⟨#[]⟩) := blk_cell hz 1
  have d2 : Z.cell? ⟨w.heap.size, 2, none⟩ = some (.string ⟨#[]⟩) := blk_cell hz 2
  have d3 : Z.cell? ⟨w.heap.size, 3, none⟩ = some (.int .u64 0) := blk_cell hz 3
  have d4 : Z.cell? ⟨w.heap.size, 4, none⟩ = some (.int .u64 0) := blk_cell hz 4
  have d5 : Z.cell? ⟨w.heap.size, 5, none⟩ = some (.string ⟨#[]⟩) := blk_cell hz 5
  have d6 : Z.cell? ⟨w.heap.size, 6, none⟩ = some (.string ⟨#[]⟩) := blk_cell hz 6
  have d7 : Z.cell? ⟨w.heap.size, 7, none⟩ = some (.slice none 0 0) := blk_cell hz 7
  have d8 : Z.cell? ⟨w.heap.size, 8, none⟩ = some (.slice none 0 0) := blk_cell hz 8
  have de : Z.cell? ⟨w.heap.size + 1, 0, none⟩ = some (.int .i64 ((gt s1).2.2)) := blk_cell hze 0
  clear hz hze hdied
  have HZ := Lib.hid hzb
  clear hzb
  simp [Leaves, settle, results, Tryd.results25, go_sem, d0, d1, d2, d3, d4, d5, d6, d7, d8, de]
  exact ⟨rfl, HZ.out⟩
set_option maxHeartbeats 8000000 in
set_option maxRecDepth 100000 in
theorem dec_no3 (s s1 s2 : ByteArray) (kd : Int) (k1 : Int) (f : ByteArray) (k2 : Int) (w : World) (E1 : Hid (gi s 9 0 0 = (kd, k1, 0))) (R1 : Hid (rest s k1 = s1)) (Z1 : Hid (s1.size < 4611686018427387904)) (E2 : Hid (gt s1 = (f, k2, 0))) (R2 : Hid (rest s1 k2 = s2)) (Z2 : Hid (s2.size < 4611686018427387904)) (HN : Hid ((gt s2).2.2 ≠ 0)) :
    Calls Tryd.prog 25 #[.string s] w fun e w' => e = .returned (.tuple #[zagg, .int .i64 (gt s2).2.2]) ∧ Below w.heap.size w w' := by
  have hmf : ∀ (fn : Fn) (first cap : Array Value) (w : World), (Instr.makeFunc fn first cap).run Tryd.prog w = .ok (.func fn first cap) w := fun _ _ _ _ => rfl
  go_enter_defers Tryd.func25, Tryd.ntmps25
  have HX := Lib.hid (Dx.first w s)
  go_wp2_with (first
  | (go_at_call 52
     refine (int_ok' (w.heap.size + 1 + 1) s s1 kd k1 _ E1.out R1.out HX.out.rd).mono ?_
     rintro e w2 ⟨rfl, hr⟩
     have HX := Lib.hid (HX.out.read hr)
     obtain ⟨t0, t1, t2, t3, t4, t5, t6, t7, t8, u0, u1, u2, u3, u4, u5, u6, u7, u8⟩ := tx9 HX.out.tx
     clear hr)
  | (go_at_call 53
     refine (text_ok' (w.heap.size + 1 + 1) s1 s2 f k2 _ Z1.out E2.out R2.out HX.out.rd).mono ?_
     rintro e w2 ⟨rfl, hr⟩
     have HX := Lib.hid (HX.out.read hr)
     obtain ⟨t0, t1, t2, t3, t4, t5, t6, t7, t8, u0, u1, u2, u3, u4, u5, u6, u7, u8⟩ := tx9 HX.out.tx
     clear hr)
  | (go_at_call 53
     refine (text_no (w.heap.size + 1 + 1) s2 _ Z2.out HX.out.rd HN.out).mono ?_
     rintro e w2 ⟨rfl, hB⟩
     have HX := Lib.hid (HX.out.step hB)
     clear hB))
  refine leaves_cons (f := 51) (args := #[.pointer (some ⟨w.heap.size + 1, 0, none⟩)]) (by simp) (by simp [go_sem]) ?_
  refine (caught_panicking ⟨w.heap.size + 1, 0, none⟩ 0 (gt s2).2.2 [] _ (blk_cell HX.out.er 0) (blk_frozen HX.out.er 0)).mono ?_
  rintro e u' w'' ⟨rfl, rfl, rfl⟩
  refine leaves_cons (f := 50) (args := #[.pointer (some ⟨w.heap.size + 1, 0, none⟩), .pointer (some ⟨w.heap.size, 0, none⟩)]) (by simp [settle]) (by simp [go_sem]) ?_
  have hdied := HX.out.died (gt s2).2.2
  refine (undo_yes (w.heap.size + 1) w.heap.size (gt s2).2.2 HN.out _ _ _ _ _ _ _ _ _ _ hdied.1 hdied.2.1).mono ?_
  rintro e u' w'' ⟨rfl, rfl, rfl⟩
  have hz := zset_box _ w.heap.size _ _ _ _ _ _ _ _ _ hdied.2.1
  have hze := (zset_blk _ w.heap.size (w.heap.size + 1) (by omega)).trans hdied.1
  have hzb := zset_below hdied.2.2 (Nat.le_refl _)
  generalize zset _ w.heap.size = Z at hz hze hzb ⊢
  have d0 : Z.cell? ⟨w.heap.size, 0, none⟩ = some (.int .i64 0) := blk_cell hz 0
  have d1 : Z.cell? ⟨w.heap.size, 1, none⟩ = some (.string ⟨#[]⟩) := blk_cell hz 1
  have d2 : Z.cell? ⟨w.heap.size, 2, none⟩ = some (.string ⟨#[]⟩) := blk_cell hz 2
  have d3 : Z.cell? ⟨w.heap.size, 3, none⟩ = some (.int .u64 0) := blk_cell hz 3
  have d4 : Z.cell? ⟨w.heap.size, 4, none⟩ = some (.int .u64 0) := blk_cell hz 4
  have d5 : Z.cell? ⟨w.heap.size, 5, none⟩ = some (.string ⟨#[]⟩) := blk_cell hz 5
  have d6 : Z.cell? ⟨w.heap.size, 6, none⟩ = some (.string ⟨#[]⟩) := blk_cell hz 6
  have d7 : Z.cell? ⟨w.heap.size, 7, none⟩ = some (.slice none 0 0) := blk_cell hz 7
  have d8 : Z.cell? ⟨w.heap.size, 8, none⟩ = some (.slice none 0 0) := blk_cell hz 8
  have de : Z.cell? ⟨w.heap.size + 1, 0, none⟩ = some (.int .i64 ((gt s2).2.2)) := blk_cell hze 0
  clear hz hze hdied
  have HZ := Lib.hid hzb
  clear hzb
  simp [Leaves, settle, results, Tryd.results25, go_sem, d0, d1, d2, d3, d4, d5, d6, d7, d8, de]
  exact ⟨rfl, HZ.out⟩
set_option maxHeartbeats 8000000 in
set_option maxRecDepth 100000 in
theorem dec_no4 (s s1 s2 s3 : ByteArray) (kd : Int) (k1 : Int) (f : ByteArray) (k2 : Int) (t : ByteArray) (k3 : Int) (w : World) (E1 : Hid (gi s 9 0 0 = (kd, k1, 0))) (R1 : Hid (rest s k1 = s1)) (Z1 : Hid (s1.size < 4611686018427387904)) (E2 : Hid (gt s1 = (f, k2, 0))) (R2 : Hid (rest s1 k2 = s2)) (Z2 : Hid (s2.size < 4611686018427387904)) (E3 : Hid (gt s2 = (t, k3, 0))) (R3 : Hid (rest s2 k3 = s3)) (Z3 : Hid (s3.size < 4611686018427387904)) (HN : Hid ((gi s3 9 0 0).2.2 ≠ 0)) :
    Calls Tryd.prog 25 #[.string s] w fun e w' => e = .returned (.tuple #[zagg, .int .i64 (gi s3 9 0 0).2.2]) ∧ Below w.heap.size w w' := by
  have hmf : ∀ (fn : Fn) (first cap : Array Value) (w : World), (Instr.makeFunc fn first cap).run Tryd.prog w = .ok (.func fn first cap) w := fun _ _ _ _ => rfl
  go_enter_defers Tryd.func25, Tryd.ntmps25
  have HX := Lib.hid (Dx.first w s)
  go_wp2_with (first
  | (go_at_call 52
     refine (int_ok' (w.heap.size + 1 + 1) s s1 kd k1 _ E1.out R1.out HX.out.rd).mono ?_
     rintro e w2 ⟨rfl, hr⟩
     have HX := Lib.hid (HX.out.read hr)
     obtain ⟨t0, t1, t2, t3, t4, t5, t6, t7, t8, u0, u1, u2, u3, u4, u5, u6, u7, u8⟩ := tx9 HX.out.tx
     clear hr)
  | (go_at_call 53
     refine (text_ok' (w.heap.size + 1 + 1) s1 s2 f k2 _ Z1.out E2.out R2.out HX.out.rd).mono ?_
     rintro e w2 ⟨rfl, hr⟩
     have HX := Lib.hid (HX.out.read hr)
     obtain ⟨t0, t1, t2, t3, t4, t5, t6, t7, t8, u0, u1, u2, u3, u4, u5, u6, u7, u8⟩ := tx9 HX.out.tx
     clear hr)
  | (go_at_call 53
     refine (text_ok' (w.heap.size + 1 + 1) s2 s3 t k3 _ Z2.out E3.out R3.out HX.out.rd).mono ?_
     rintro e w2 ⟨rfl, hr⟩
     have HX := Lib.hid (HX.out.read hr)
     obtain ⟨t0, t1, t2, t3, t4, t5, t6, t7, t8, u0, u1, u2, u3, u4, u5, u6, u7, u8⟩ := tx9 HX.out.tx
     clear hr)
  | (go_at_call 52
     refine (int_no (w.heap.size + 1 + 1) s3 _ ((HX.out.set1 (.string f)).set2 (.string t)).rd HN.out).mono ?_
     rintro e w2 ⟨rfl, hB⟩
     have HX := Lib.hid (((HX.out.set1 (.string f)).set2 (.string t)).step hB)
     clear hB))
  refine leaves_cons (f := 51) (args := #[.pointer (some ⟨w.heap.size + 1, 0, none⟩)]) (by simp) (by simp [go_sem]) ?_
  refine (caught_panicking ⟨w.heap.size + 1, 0, none⟩ 0 (gi s3 9 0 0).2.2 [] _ (blk_cell HX.out.er 0) (blk_frozen HX.out.er 0)).mono ?_
  rintro e u' w'' ⟨rfl, rfl, rfl⟩
  refine leaves_cons (f := 50) (args := #[.pointer (some ⟨w.heap.size + 1, 0, none⟩), .pointer (some ⟨w.heap.size, 0, none⟩)]) (by simp [settle]) (by simp [go_sem]) ?_
  have hdied := HX.out.died (gi s3 9 0 0).2.2
  refine (undo_yes (w.heap.size + 1) w.heap.size (gi s3 9 0 0).2.2 HN.out _ _ _ _ _ _ _ _ _ _ hdied.1 hdied.2.1).mono ?_
  rintro e u' w'' ⟨rfl, rfl, rfl⟩
  have hz := zset_box _ w.heap.size _ _ _ _ _ _ _ _ _ hdied.2.1
  have hze := (zset_blk _ w.heap.size (w.heap.size + 1) (by omega)).trans hdied.1
  have hzb := zset_below hdied.2.2 (Nat.le_refl _)
  generalize zset _ w.heap.size = Z at hz hze hzb ⊢
  have d0 : Z.cell? ⟨w.heap.size, 0, none⟩ = some (.int .i64 0) := blk_cell hz 0
  have d1 : Z.cell? ⟨w.heap.size, 1, none⟩ = some (.string ⟨#[]⟩) := blk_cell hz 1
  have d2 : Z.cell? ⟨w.heap.size, 2, none⟩ = some (.string ⟨#[]⟩) := blk_cell hz 2
  have d3 : Z.cell? ⟨w.heap.size, 3, none⟩ = some (.int .u64 0) := blk_cell hz 3
  have d4 : Z.cell? ⟨w.heap.size, 4, none⟩ = some (.int .u64 0) := blk_cell hz 4
  have d5 : Z.cell? ⟨w.heap.size, 5, none⟩ = some (.string ⟨#[]⟩) := blk_cell hz 5
  have d6 : Z.cell? ⟨w.heap.size, 6, none⟩ = some (.string ⟨#[]⟩) := blk_cell hz 6
  have d7 : Z.cell? ⟨w.heap.size, 7, none⟩ = some (.slice none 0 0) := blk_cell hz 7
  have d8 : Z.cell? ⟨w.heap.size, 8, none⟩ = some (.slice none 0 0) := blk_cell hz 8
  have de : Z.cell? ⟨w.heap.size + 1, 0, none⟩ = some (.int .i64 ((gi s3 9 0 0).2.2)) := blk_cell hze 0
  clear hz hze hdied
  have HZ := Lib.hid hzb
  clear hzb
  simp [Leaves, settle, results, Tryd.results25, go_sem, d0, d1, d2, d3, d4, d5, d6, d7, d8, de]
  exact ⟨rfl, HZ.out⟩
set_option maxHeartbeats 8000000 in
set_option maxRecDepth 100000 in
theorem dec_no5 (s s1 s2 s3 s4 : ByteArray) (kd : Int) (k1 : Int) (f : ByteArray) (k2 : Int) (t : ByteArray) (k3 : Int) (am : Int) (k4 : Int) (w : World) (E1 : Hid (gi s 9 0 0 = (kd, k1, 0))) (R1 : Hid (rest s k1 = s1)) (Z1 : Hid (s1.size < 4611686018427387904)) (E2 : Hid (gt s1 = (f, k2, 0))) (R2 : Hid (rest s1 k2 = s2)) (Z2 : Hid (s2.size < 4611686018427387904)) (E3 : Hid (gt s2 = (t, k3, 0))) (R3 : Hid (rest s2 k3 = s3)) (Z3 : Hid (s3.size < 4611686018427387904)) (E4 : Hid (gi s3 9 0 0 = (am, k4, 0))) (R4 : Hid (rest s3 k4 = s4)) (Z4 : Hid (s4.size < 4611686018427387904)) (HN : Hid ((gi s4 9 0 0).2.2 ≠ 0)) :
    Calls Tryd.prog 25 #[.string s] w fun e w' => e = .returned (.tuple #[zagg, .int .i64 (gi s4 9 0 0).2.2]) ∧ Below w.heap.size w w' := by
  have hmf : ∀ (fn : Fn) (first cap : Array Value) (w : World), (Instr.makeFunc fn first cap).run Tryd.prog w = .ok (.func fn first cap) w := fun _ _ _ _ => rfl
  go_enter_defers Tryd.func25, Tryd.ntmps25
  have HX := Lib.hid (Dx.first w s)
  go_wp2_with (first
  | (go_at_call 52
     refine (int_ok' (w.heap.size + 1 + 1) s s1 kd k1 _ E1.out R1.out HX.out.rd).mono ?_
     rintro e w2 ⟨rfl, hr⟩
     have HX := Lib.hid (HX.out.read hr)
     obtain ⟨t0, t1, t2, t3, t4, t5, t6, t7, t8, u0, u1, u2, u3, u4, u5, u6, u7, u8⟩ := tx9 HX.out.tx
     clear hr)
  | (go_at_call 53
     refine (text_ok' (w.heap.size + 1 + 1) s1 s2 f k2 _ Z1.out E2.out R2.out HX.out.rd).mono ?_
     rintro e w2 ⟨rfl, hr⟩
     have HX := Lib.hid (HX.out.read hr)
     obtain ⟨t0, t1, t2, t3, t4, t5, t6, t7, t8, u0, u1, u2, u3, u4, u5, u6, u7, u8⟩ := tx9 HX.out.tx
     clear hr)
  | (go_at_call 53
     refine (text_ok' (w.heap.size + 1 + 1) s2 s3 t k3 _ Z2.out E3.out R3.out HX.out.rd).mono ?_
     rintro e w2 ⟨rfl, hr⟩
     have HX := Lib.hid (HX.out.read hr)
     obtain ⟨t0, t1, t2, t3, t4, t5, t6, t7, t8, u0, u1, u2, u3, u4, u5, u6, u7, u8⟩ := tx9 HX.out.tx
     clear hr)
  | (go_at_call 52
     refine (int_ok' (w.heap.size + 1 + 1) s3 s4 am k4 _ E4.out R4.out ((HX.out.set1 (.string f)).set2 (.string t)).rd).mono ?_
     rintro e w2 ⟨rfl, hr⟩
     have HX := Lib.hid (((HX.out.set1 (.string f)).set2 (.string t)).read hr)
     obtain ⟨t0, t1, t2, t3, t4, t5, t6, t7, t8, u0, u1, u2, u3, u4, u5, u6, u7, u8⟩ := tx9 HX.out.tx
     clear hr)
  | (go_at_call 52
     refine (int_no (w.heap.size + 1 + 1) s4 _ HX.out.rd HN.out).mono ?_
     rintro e w2 ⟨rfl, hB⟩
     have HX := Lib.hid (HX.out.step hB)
     clear hB))
  refine leaves_cons (f := 51) (args := #[.pointer (some ⟨w.heap.size + 1, 0, none⟩)]) (by simp) (by simp [go_sem]) ?_
  refine (caught_panicking ⟨w.heap.size + 1, 0, none⟩ 0 (gi s4 9 0 0).2.2 [] _ (blk_cell HX.out.er 0) (blk_frozen HX.out.er 0)).mono ?_
  rintro e u' w'' ⟨rfl, rfl, rfl⟩
  refine leaves_cons (f := 50) (args := #[.pointer (some ⟨w.heap.size + 1, 0, none⟩), .pointer (some ⟨w.heap.size, 0, none⟩)]) (by simp [settle]) (by simp [go_sem]) ?_
  have hdied := HX.out.died (gi s4 9 0 0).2.2
  refine (undo_yes (w.heap.size + 1) w.heap.size (gi s4 9 0 0).2.2 HN.out _ _ _ _ _ _ _ _ _ _ hdied.1 hdied.2.1).mono ?_
  rintro e u' w'' ⟨rfl, rfl, rfl⟩
  have hz := zset_box _ w.heap.size _ _ _ _ _ _ _ _ _ hdied.2.1
  have hze := (zset_blk _ w.heap.size (w.heap.size + 1) (by omega)).trans hdied.1
  have hzb := zset_below hdied.2.2 (Nat.le_refl _)
  generalize zset _ w.heap.size = Z at hz hze hzb ⊢
  have d0 : Z.cell? ⟨w.heap.size, 0, none⟩ = some (.int .i64 0) := blk_cell hz 0
  have d1 : Z.cell? ⟨w.heap.size, 1, none⟩ = some (.string ⟨#[]⟩) := blk_cell hz 1
  have d2 : Z.cell? ⟨w.heap.size, 2, none⟩ = some (.string ⟨#[]⟩) := blk_cell hz 2
  have d3 : Z.cell? ⟨w.heap.size, 3, none⟩ = some (.int .u64 0) := blk_cell hz 3
  have d4 : Z.cell? ⟨w.heap.size, 4, none⟩ = some (.int .u64 0) := blk_cell hz 4
  have d5 : Z.cell? ⟨w.heap.size, 5, none⟩ = some (.string ⟨#[]⟩) := blk_cell hz 5
  have d6 : Z.cell? ⟨w.heap.size, 6, none⟩ = some (.string ⟨#[]⟩) := blk_cell hz 6
  have d7 : Z.cell? ⟨w.heap.size, 7, none⟩ = some (.slice none 0 0) := blk_cell hz 7
  have d8 : Z.cell? ⟨w.heap.size, 8, none⟩ = some (.slice none 0 0) := blk_cell hz 8
  have de : Z.cell? ⟨w.heap.size + 1, 0, none⟩ = some (.int .i64 ((gi s4 9 0 0).2.2)) := blk_cell hze 0
  clear hz hze hdied
  have HZ := Lib.hid hzb
  clear hzb
  simp [Leaves, settle, results, Tryd.results25, go_sem, d0, d1, d2, d3, d4, d5, d6, d7, d8, de]
  exact ⟨rfl, HZ.out⟩
set_option maxHeartbeats 8000000 in
set_option maxRecDepth 100000 in
theorem dec_no6 (s s1 s2 s3 s4 s5 : ByteArray) (kd : Int) (k1 : Int) (f : ByteArray) (k2 : Int) (t : ByteArray) (k3 : Int) (am : Int) (k4 : Int) (nc : Int) (k5 : Int) (w : World) (E1 : Hid (gi s 9 0 0 = (kd, k1, 0))) (R1 : Hid (rest s k1 = s1)) (Z1 : Hid (s1.size < 4611686018427387904)) (E2 : Hid (gt s1 = (f, k2, 0))) (R2 : Hid (rest s1 k2 = s2)) (Z2 : Hid (s2.size < 4611686018427387904)) (E3 : Hid (gt s2 = (t, k3, 0))) (R3 : Hid (rest s2 k3 = s3)) (Z3 : Hid (s3.size < 4611686018427387904)) (E4 : Hid (gi s3 9 0 0 = (am, k4, 0))) (R4 : Hid (rest s3 k4 = s4)) (Z4 : Hid (s4.size < 4611686018427387904)) (E5 : Hid (gi s4 9 0 0 = (nc, k5, 0))) (R5 : Hid (rest s4 k5 = s5)) (Z5 : Hid (s5.size < 4611686018427387904)) (HN : Hid ((gt s5).2.2 ≠ 0)) :
    Calls Tryd.prog 25 #[.string s] w fun e w' => e = .returned (.tuple #[zagg, .int .i64 (gt s5).2.2]) ∧ Below w.heap.size w w' := by
  have hmf : ∀ (fn : Fn) (first cap : Array Value) (w : World), (Instr.makeFunc fn first cap).run Tryd.prog w = .ok (.func fn first cap) w := fun _ _ _ _ => rfl
  go_enter_defers Tryd.func25, Tryd.ntmps25
  have HX := Lib.hid (Dx.first w s)
  go_wp2_with (first
  | (go_at_call 52
     refine (int_ok' (w.heap.size + 1 + 1) s s1 kd k1 _ E1.out R1.out HX.out.rd).mono ?_
     rintro e w2 ⟨rfl, hr⟩
     have HX := Lib.hid (HX.out.read hr)
     obtain ⟨t0, t1, t2, t3, t4, t5, t6, t7, t8, u0, u1, u2, u3, u4, u5, u6, u7, u8⟩ := tx9 HX.out.tx
     clear hr)
  | (go_at_call 53
     refine (text_ok' (w.heap.size + 1 + 1) s1 s2 f k2 _ Z1.out E2.out R2.out HX.out.rd).mono ?_
     rintro e w2 ⟨rfl, hr⟩
     have HX := Lib.hid (HX.out.read hr)
     obtain ⟨t0, t1, t2, t3, t4, t5, t6, t7, t8, u0, u1, u2, u3, u4, u5, u6, u7, u8⟩ := tx9 HX.out.tx
     clear hr)
  | (go_at_call 53
     refine (text_ok' (w.heap.size + 1 + 1) s2 s3 t k3 _ Z2.out E3.out R3.out HX.out.rd).mono ?_
     rintro e w2 ⟨rfl, hr⟩
     have HX := Lib.hid (HX.out.read hr)
     obtain ⟨t0, t1, t2, t3, t4, t5, t6, t7, t8, u0, u1, u2, u3, u4, u5, u6, u7, u8⟩ := tx9 HX.out.tx
     clear hr)
  | (go_at_call 52
     refine (int_ok' (w.heap.size + 1 + 1) s3 s4 am k4 _ E4.out R4.out ((HX.out.set1 (.string f)).set2 (.string t)).rd).mono ?_
     rintro e w2 ⟨rfl, hr⟩
     have HX := Lib.hid (((HX.out.set1 (.string f)).set2 (.string t)).read hr)
     obtain ⟨t0, t1, t2, t3, t4, t5, t6, t7, t8, u0, u1, u2, u3, u4, u5, u6, u7, u8⟩ := tx9 HX.out.tx
     clear hr)
  | (go_at_call 52
     refine (int_ok' (w.heap.size + 1 + 1) s4 s5 nc k5 _ E5.out R5.out HX.out.rd).mono ?_
     rintro e w2 ⟨rfl, hr⟩
     have HX := Lib.hid (HX.out.read hr)
     obtain ⟨t0, t1, t2, t3, t4, t5, t6, t7, t8, u0, u1, u2, u3, u4, u5, u6, u7, u8⟩ := tx9 HX.out.tx
     clear hr)
  | (go_at_call 53
     refine (text_no (w.heap.size + 1 + 1) s5 _ Z5.out ((HX.out.set3 (.int .u64 am)).set4 (.int .u64 nc)).rd HN.out).mono ?_
     rintro e w2 ⟨rfl, hB⟩
     have HX := Lib.hid (((HX.out.set3 (.int .u64 am)).set4 (.int .u64 nc)).step hB)
     clear hB))
  refine leaves_cons (f := 51) (args := #[.pointer (some ⟨w.heap.size + 1, 0, none⟩)]) (by simp) (by simp [go_sem]) ?_
  refine (caught_panicking ⟨w.heap.size + 1, 0, none⟩ 0 (gt s5).2.2 [] _ (blk_cell HX.out.er 0) (blk_frozen HX.out.er 0)).mono ?_
  rintro e u' w'' ⟨rfl, rfl, rfl⟩
  refine leaves_cons (f := 50) (args := #[.pointer (some ⟨w.heap.size + 1, 0, none⟩), .pointer (some ⟨w.heap.size, 0, none⟩)]) (by simp [settle]) (by simp [go_sem]) ?_
  have hdied := HX.out.died (gt s5).2.2
  refine (undo_yes (w.heap.size + 1) w.heap.size (gt s5).2.2 HN.out _ _ _ _ _ _ _ _ _ _ hdied.1 hdied.2.1).mono ?_
  rintro e u' w'' ⟨rfl, rfl, rfl⟩
  have hz := zset_box _ w.heap.size _ _ _ _ _ _ _ _ _ hdied.2.1
  have hze := (zset_blk _ w.heap.size (w.heap.size + 1) (by omega)).trans hdied.1
  have hzb := zset_below hdied.2.2 (Nat.le_refl _)
  generalize zset _ w.heap.size = Z at hz hze hzb ⊢
  have d0 : Z.cell? ⟨w.heap.size, 0, none⟩ = some (.int .i64 0) := blk_cell hz 0
  have d1 : Z.cell? ⟨w.heap.size, 1, none⟩ = some (.string ⟨#[]⟩) := blk_cell hz 1
  have d2 : Z.cell? ⟨w.heap.size, 2, none⟩ = some (.string ⟨#[]⟩) := blk_cell hz 2
  have d3 : Z.cell? ⟨w.heap.size, 3, none⟩ = some (.int .u64 0) := blk_cell hz 3
  have d4 : Z.cell? ⟨w.heap.size, 4, none⟩ = some (.int .u64 0) := blk_cell hz 4
  have d5 : Z.cell? ⟨w.heap.size, 5, none⟩ = some (.string ⟨#[]⟩) := blk_cell hz 5
  have d6 : Z.cell? ⟨w.heap.size, 6, none⟩ = some (.string ⟨#[]⟩) := blk_cell hz 6
  have d7 : Z.cell? ⟨w.heap.size, 7, none⟩ = some (.slice none 0 0) := blk_cell hz 7
  have d8 : Z.cell? ⟨w.heap.size, 8, none⟩ = some (.slice none 0 0) := blk_cell hz 8
  have de : Z.cell? ⟨w.heap.size + 1, 0, none⟩ = some (.int .i64 ((gt s5).2.2)) := blk_cell hze 0
  clear hz hze hdied
  have HZ := Lib.hid hzb
  clear hzb
  simp [Leaves, settle, results, Tryd.results25, go_sem, d0, d1, d2, d3, d4, d5, d6, d7, d8, de]
  exact ⟨rfl, HZ.out⟩
set_option maxHeartbeats 8000000 in
set_option maxRecDepth 100000 in
theorem dec_no7 (s s1 s2 s3 s4 s5 s6 : ByteArray) (kd : Int) (k1 : Int) (f : ByteArray) (k2 : Int) (t : ByteArray) (k3 : Int) (am : Int) (k4 : Int) (nc : Int) (k5 : Int) (ky' : ByteArray) (k6 : Int) (w : World) (E1 : Hid (gi s 9 0 0 = (kd, k1, 0))) (R1 : Hid (rest s k1 = s1)) (Z1 : Hid (s1.size < 4611686018427387904)) (E2 : Hid (gt s1 = (f, k2, 0))) (R2 : Hid (rest s1 k2 = s2)) (Z2 : Hid (s2.size < 4611686018427387904)) (E3 : Hid (gt s2 = (t, k3, 0))) (R3 : Hid (rest s2 k3 = s3)) (Z3 : Hid (s3.size < 4611686018427387904)) (E4 : Hid (gi s3 9 0 0 = (am, k4, 0))) (R4 : Hid (rest s3 k4 = s4)) (Z4 : Hid (s4.size < 4611686018427387904)) (E5 : Hid (gi s4 9 0 0 = (nc, k5, 0))) (R5 : Hid (rest s4 k5 = s5)) (Z5 : Hid (s5.size < 4611686018427387904)) (E6 : Hid (gt s5 = (ky', k6, 0))) (R6 : Hid (rest s5 k6 = s6)) (Z6 : Hid (s6.size < 4611686018427387904)) (HN : Hid ((gt s6).2.2 ≠ 0)) :
    Calls Tryd.prog 25 #[.string s] w fun e w' => e = .returned (.tuple #[zagg, .int .i64 (gt s6).2.2]) ∧ Below w.heap.size w w' := by
  have hmf : ∀ (fn : Fn) (first cap : Array Value) (w : World), (Instr.makeFunc fn first cap).run Tryd.prog w = .ok (.func fn first cap) w := fun _ _ _ _ => rfl
  go_enter_defers Tryd.func25, Tryd.ntmps25
  have HX := Lib.hid (Dx.first w s)
  go_wp2_with (first
  | (go_at_call 52
     refine (int_ok' (w.heap.size + 1 + 1) s s1 kd k1 _ E1.out R1.out HX.out.rd).mono ?_
     rintro e w2 ⟨rfl, hr⟩
     have HX := Lib.hid (HX.out.read hr)
     obtain ⟨t0, t1, t2, t3, t4, t5, t6, t7, t8, u0, u1, u2, u3, u4, u5, u6, u7, u8⟩ := tx9 HX.out.tx
     clear hr)
  | (go_at_call 53
     refine (text_ok' (w.heap.size + 1 + 1) s1 s2 f k2 _ Z1.out E2.out R2.out HX.out.rd).mono ?_
     rintro e w2 ⟨rfl, hr⟩
     have HX := Lib.hid (HX.out.read hr)
     obtain ⟨t0, t1, t2, t3, t4, t5, t6, t7, t8, u0, u1, u2, u3, u4, u5, u6, u7, u8⟩ := tx9 HX.out.tx
     clear hr)
  | (go_at_call 53
     refine (text_ok' (w.heap.size + 1 + 1) s2 s3 t k3 _ Z2.out E3.out R3.out HX.out.rd).mono ?_
     rintro e w2 ⟨rfl, hr⟩
     have HX := Lib.hid (HX.out.read hr)
     obtain ⟨t0, t1, t2, t3, t4, t5, t6, t7, t8, u0, u1, u2, u3, u4, u5, u6, u7, u8⟩ := tx9 HX.out.tx
     clear hr)
  | (go_at_call 52
     refine (int_ok' (w.heap.size + 1 + 1) s3 s4 am k4 _ E4.out R4.out ((HX.out.set1 (.string f)).set2 (.string t)).rd).mono ?_
     rintro e w2 ⟨rfl, hr⟩
     have HX := Lib.hid (((HX.out.set1 (.string f)).set2 (.string t)).read hr)
     obtain ⟨t0, t1, t2, t3, t4, t5, t6, t7, t8, u0, u1, u2, u3, u4, u5, u6, u7, u8⟩ := tx9 HX.out.tx
     clear hr)
  | (go_at_call 52
     refine (int_ok' (w.heap.size + 1 + 1) s4 s5 nc k5 _ E5.out R5.out HX.out.rd).mono ?_
     rintro e w2 ⟨rfl, hr⟩
     have HX := Lib.hid (HX.out.read hr)
     obtain ⟨t0, t1, t2, t3, t4, t5, t6, t7, t8, u0, u1, u2, u3, u4, u5, u6, u7, u8⟩ := tx9 HX.out.tx
     clear hr)
  | (go_at_call 53
     refine (text_ok' (w.heap.size + 1 + 1) s5 s6 ky' k6 _ Z5.out E6.out R6.out ((HX.out.set3 (.int .u64 am)).set4 (.int .u64 nc)).rd).mono ?_
     rintro e w2 ⟨rfl, hr⟩
     have HX := Lib.hid (((HX.out.set3 (.int .u64 am)).set4 (.int .u64 nc)).read hr)
     obtain ⟨t0, t1, t2, t3, t4, t5, t6, t7, t8, u0, u1, u2, u3, u4, u5, u6, u7, u8⟩ := tx9 HX.out.tx
     clear hr)
  | (go_at_call 53
     refine (text_no (w.heap.size + 1 + 1) s6 _ Z6.out HX.out.rd HN.out).mono ?_
     rintro e w2 ⟨rfl, hB⟩
     have HX := Lib.hid (HX.out.step hB)
     clear hB))
  refine leaves_cons (f := 51) (args := #[.pointer (some ⟨w.heap.size + 1, 0, none⟩)]) (by simp) (by simp [go_sem]) ?_
  refine (caught_panicking ⟨w.heap.size + 1, 0, none⟩ 0 (gt s6).2.2 [] _ (blk_cell HX.out.er 0) (blk_frozen HX.out.er 0)).mono ?_
  rintro e u' w'' ⟨rfl, rfl, rfl⟩
  refine leaves_cons (f := 50) (args := #[.pointer (some ⟨w.heap.size + 1, 0, none⟩), .pointer (some ⟨w.heap.size, 0, none⟩)]) (by simp [settle]) (by simp [go_sem]) ?_
  have hdied := HX.out.died (gt s6).2.2
  refine (undo_yes (w.heap.size + 1) w.heap.size (gt s6).2.2 HN.out _ _ _ _ _ _ _ _ _ _ hdied.1 hdied.2.1).mono ?_
  rintro e u' w'' ⟨rfl, rfl, rfl⟩
  have hz := zset_box _ w.heap.size _ _ _ _ _ _ _ _ _ hdied.2.1
  have hze := (zset_blk _ w.heap.size (w.heap.size + 1) (by omega)).trans hdied.1
  have hzb := zset_below hdied.2.2 (Nat.le_refl _)
  generalize zset _ w.heap.size = Z at hz hze hzb ⊢
  have d0 : Z.cell? ⟨w.heap.size, 0, none⟩ = some (.int .i64 0) := blk_cell hz 0
  have d1 : Z.cell? ⟨w.heap.size, 1, none⟩ = some (.string ⟨#[]⟩) := blk_cell hz 1
  have d2 : Z.cell? ⟨w.heap.size, 2, none⟩ = some (.string ⟨#[]⟩) := blk_cell hz 2
  have d3 : Z.cell? ⟨w.heap.size, 3, none⟩ = some (.int .u64 0) := blk_cell hz 3
  have d4 : Z.cell? ⟨w.heap.size, 4, none⟩ = some (.int .u64 0) := blk_cell hz 4
  have d5 : Z.cell? ⟨w.heap.size, 5, none⟩ = some (.string ⟨#[]⟩) := blk_cell hz 5
  have d6 : Z.cell? ⟨w.heap.size, 6, none⟩ = some (.string ⟨#[]⟩) := blk_cell hz 6
  have d7 : Z.cell? ⟨w.heap.size, 7, none⟩ = some (.slice none 0 0) := blk_cell hz 7
  have d8 : Z.cell? ⟨w.heap.size, 8, none⟩ = some (.slice none 0 0) := blk_cell hz 8
  have de : Z.cell? ⟨w.heap.size + 1, 0, none⟩ = some (.int .i64 ((gt s6).2.2)) := blk_cell hze 0
  clear hz hze hdied
  have HZ := Lib.hid hzb
  clear hzb
  simp [Leaves, settle, results, Tryd.results25, go_sem, d0, d1, d2, d3, d4, d5, d6, d7, d8, de]
  exact ⟨rfl, HZ.out⟩
set_option maxHeartbeats 8000000 in
set_option maxRecDepth 100000 in
theorem dec_no8 (s s1 s2 s3 s4 s5 s6 s7 : ByteArray) (kd : Int) (k1 : Int) (f : ByteArray) (k2 : Int) (t : ByteArray) (k3 : Int) (am : Int) (k4 : Int) (nc : Int) (k5 : Int) (ky' : ByteArray) (k6 : Int) (vl : ByteArray) (k7 : Int) (w : World) (E1 : Hid (gi s 9 0 0 = (kd, k1, 0))) (R1 : Hid (rest s k1 = s1)) (Z1 : Hid (s1.size < 4611686018427387904)) (E2 : Hid (gt s1 = (f, k2, 0))) (R2 : Hid (rest s1 k2 = s2)) (Z2 : Hid (s2.size < 4611686018427387904)) (E3 : Hid (gt s2 = (t, k3, 0))) (R3 : Hid (rest s2 k3 = s3)) (Z3 : Hid (s3.size < 4611686018427387904)) (E4 : Hid (gi s3 9 0 0 = (am, k4, 0))) (R4 : Hid (rest s3 k4 = s4)) (Z4 : Hid (s4.size < 4611686018427387904)) (E5 : Hid (gi s4 9 0 0 = (nc, k5, 0))) (R5 : Hid (rest s4 k5 = s5)) (Z5 : Hid (s5.size < 4611686018427387904)) (E6 : Hid (gt s5 = (ky', k6, 0))) (R6 : Hid (rest s5 k6 = s6)) (Z6 : Hid (s6.size < 4611686018427387904)) (E7 : Hid (gt s6 = (vl, k7, 0))) (R7 : Hid (rest s6 k7 = s7)) (Z7 : Hid (s7.size < 4611686018427387904)) (HN : Hid ((gl s7 8).2.2 ≠ 0)) :
    Calls Tryd.prog 25 #[.string s] w fun e w' => e = .returned (.tuple #[zagg, .int .i64 (gl s7 8).2.2]) ∧ Below w.heap.size w w' := by
  have hmf : ∀ (fn : Fn) (first cap : Array Value) (w : World), (Instr.makeFunc fn first cap).run Tryd.prog w = .ok (.func fn first cap) w := fun _ _ _ _ => rfl
  go_enter_defers Tryd.func25, Tryd.ntmps25
  have HX := Lib.hid (Dx.first w s)
  go_wp2_with (first
  | (go_at_call 52
     refine (int_ok' (w.heap.size + 1 + 1) s s1 kd k1 _ E1.out R1.out HX.out.rd).mono ?_
     rintro e w2 ⟨rfl, hr⟩
     have HX := Lib.hid (HX.out.read hr)
     obtain ⟨t0, t1, t2, t3, t4, t5, t6, t7, t8, u0, u1, u2, u3, u4, u5, u6, u7, u8⟩ := tx9 HX.out.tx
     clear hr)
  | (go_at_call 53
     refine (text_ok' (w.heap.size + 1 + 1) s1 s2 f k2 _ Z1.out E2.out R2.out HX.out.rd).mono ?_
     rintro e w2 ⟨rfl, hr⟩
     have HX := Lib.hid (HX.out.read hr)
     obtain ⟨t0, t1, t2, t3, t4, t5, t6, t7, t8, u0, u1, u2, u3, u4, u5, u6, u7, u8⟩ := tx9 HX.out.tx
     clear hr)
  | (go_at_call 53
     refine (text_ok' (w.heap.size + 1 + 1) s2 s3 t k3 _ Z2.out E3.out R3.out HX.out.rd).mono ?_
     rintro e w2 ⟨rfl, hr⟩
     have HX := Lib.hid (HX.out.read hr)
     obtain ⟨t0, t1, t2, t3, t4, t5, t6, t7, t8, u0, u1, u2, u3, u4, u5, u6, u7, u8⟩ := tx9 HX.out.tx
     clear hr)
  | (go_at_call 52
     refine (int_ok' (w.heap.size + 1 + 1) s3 s4 am k4 _ E4.out R4.out ((HX.out.set1 (.string f)).set2 (.string t)).rd).mono ?_
     rintro e w2 ⟨rfl, hr⟩
     have HX := Lib.hid (((HX.out.set1 (.string f)).set2 (.string t)).read hr)
     obtain ⟨t0, t1, t2, t3, t4, t5, t6, t7, t8, u0, u1, u2, u3, u4, u5, u6, u7, u8⟩ := tx9 HX.out.tx
     clear hr)
  | (go_at_call 52
     refine (int_ok' (w.heap.size + 1 + 1) s4 s5 nc k5 _ E5.out R5.out HX.out.rd).mono ?_
     rintro e w2 ⟨rfl, hr⟩
     have HX := Lib.hid (HX.out.read hr)
     obtain ⟨t0, t1, t2, t3, t4, t5, t6, t7, t8, u0, u1, u2, u3, u4, u5, u6, u7, u8⟩ := tx9 HX.out.tx
     clear hr)
  | (go_at_call 53
     refine (text_ok' (w.heap.size + 1 + 1) s5 s6 ky' k6 _ Z5.out E6.out R6.out ((HX.out.set3 (.int .u64 am)).set4 (.int .u64 nc)).rd).mono ?_
     rintro e w2 ⟨rfl, hr⟩
     have HX := Lib.hid (((HX.out.set3 (.int .u64 am)).set4 (.int .u64 nc)).read hr)
     obtain ⟨t0, t1, t2, t3, t4, t5, t6, t7, t8, u0, u1, u2, u3, u4, u5, u6, u7, u8⟩ := tx9 HX.out.tx
     clear hr)
  | (go_at_call 53
     refine (text_ok' (w.heap.size + 1 + 1) s6 s7 vl k7 _ Z6.out E7.out R7.out HX.out.rd).mono ?_
     rintro e w2 ⟨rfl, hr⟩
     have HX := Lib.hid (HX.out.read hr)
     obtain ⟨t0, t1, t2, t3, t4, t5, t6, t7, t8, u0, u1, u2, u3, u4, u5, u6, u7, u8⟩ := tx9 HX.out.tx
     clear hr)
  | (go_at_call 54
     refine (list_no (w.heap.size + 1 + 1) s7 _ Z7.out ((HX.out.set5 (.string ky')).set6 (.string vl)).rd HN.out).mono ?_
     rintro e w2 ⟨rfl, hB⟩
     have HX := Lib.hid (((HX.out.set5 (.string ky')).set6 (.string vl)).step hB)
     clear hB))
  refine leaves_cons (f := 51) (args := #[.pointer (some ⟨w.heap.size + 1, 0, none⟩)]) (by simp) (by simp [go_sem]) ?_
  refine (caught_panicking ⟨w.heap.size + 1, 0, none⟩ 0 (gl s7 8).2.2 [] _ (blk_cell HX.out.er 0) (blk_frozen HX.out.er 0)).mono ?_
  rintro e u' w'' ⟨rfl, rfl, rfl⟩
  refine leaves_cons (f := 50) (args := #[.pointer (some ⟨w.heap.size + 1, 0, none⟩), .pointer (some ⟨w.heap.size, 0, none⟩)]) (by simp [settle]) (by simp [go_sem]) ?_
  have hdied := HX.out.died (gl s7 8).2.2
  refine (undo_yes (w.heap.size + 1) w.heap.size (gl s7 8).2.2 HN.out _ _ _ _ _ _ _ _ _ _ hdied.1 hdied.2.1).mono ?_
  rintro e u' w'' ⟨rfl, rfl, rfl⟩
  have hz := zset_box _ w.heap.size _ _ _ _ _ _ _ _ _ hdied.2.1
  have hze := (zset_blk _ w.heap.size (w.heap.size + 1) (by omega)).trans hdied.1
  have hzb := zset_below hdied.2.2 (Nat.le_refl _)
  generalize zset _ w.heap.size = Z at hz hze hzb ⊢
  have d0 : Z.cell? ⟨w.heap.size, 0, none⟩ = some (.int .i64 0) := blk_cell hz 0
  have d1 : Z.cell? ⟨w.heap.size, 1, none⟩ = some (.string ⟨#[]⟩) := blk_cell hz 1
  have d2 : Z.cell? ⟨w.heap.size, 2, none⟩ = some (.string ⟨#[]⟩) := blk_cell hz 2
  have d3 : Z.cell? ⟨w.heap.size, 3, none⟩ = some (.int .u64 0) := blk_cell hz 3
  have d4 : Z.cell? ⟨w.heap.size, 4, none⟩ = some (.int .u64 0) := blk_cell hz 4
  have d5 : Z.cell? ⟨w.heap.size, 5, none⟩ = some (.string ⟨#[]⟩) := blk_cell hz 5
  have d6 : Z.cell? ⟨w.heap.size, 6, none⟩ = some (.string ⟨#[]⟩) := blk_cell hz 6
  have d7 : Z.cell? ⟨w.heap.size, 7, none⟩ = some (.slice none 0 0) := blk_cell hz 7
  have d8 : Z.cell? ⟨w.heap.size, 8, none⟩ = some (.slice none 0 0) := blk_cell hz 8
  have de : Z.cell? ⟨w.heap.size + 1, 0, none⟩ = some (.int .i64 ((gl s7 8).2.2)) := blk_cell hze 0
  clear hz hze hdied
  have HZ := Lib.hid hzb
  clear hzb
  simp [Leaves, settle, results, Tryd.results25, go_sem, d0, d1, d2, d3, d4, d5, d6, d7, d8, de]
  exact ⟨rfl, HZ.out⟩
set_option maxHeartbeats 8000000 in
set_option maxRecDepth 100000 in
theorem dec_no9 (s s1 s2 s3 s4 s5 s6 s7 s8 : ByteArray) (kd : Int) (k1 : Int) (f : ByteArray) (k2 : Int) (t : ByteArray) (k3 : Int) (am : Int) (k4 : Int) (nc : Int) (k5 : Int) (ky' : ByteArray) (k6 : Int) (vl : ByteArray) (k7 : Int) (rs : List ByteArray) (k8 : Int) (w : World) (E1 : Hid (gi s 9 0 0 = (kd, k1, 0))) (R1 : Hid (rest s k1 = s1)) (Z1 : Hid (s1.size < 4611686018427387904)) (E2 : Hid (gt s1 = (f, k2, 0))) (R2 : Hid (rest s1 k2 = s2)) (Z2 : Hid (s2.size < 4611686018427387904)) (E3 : Hid (gt s2 = (t, k3, 0))) (R3 : Hid (rest s2 k3 = s3)) (Z3 : Hid (s3.size < 4611686018427387904)) (E4 : Hid (gi s3 9 0 0 = (am, k4, 0))) (R4 : Hid (rest s3 k4 = s4)) (Z4 : Hid (s4.size < 4611686018427387904)) (E5 : Hid (gi s4 9 0 0 = (nc, k5, 0))) (R5 : Hid (rest s4 k5 = s5)) (Z5 : Hid (s5.size < 4611686018427387904)) (E6 : Hid (gt s5 = (ky', k6, 0))) (R6 : Hid (rest s5 k6 = s6)) (Z6 : Hid (s6.size < 4611686018427387904)) (E7 : Hid (gt s6 = (vl, k7, 0))) (R7 : Hid (rest s6 k7 = s7)) (Z7 : Hid (s7.size < 4611686018427387904)) (E8 : Hid (gl s7 8 = (rs, k8, 0))) (R8 : Hid (rest s7 k8 = s8)) (Z8 : Hid (s8.size < 4611686018427387904)) (HN : Hid ((gl s8 8).2.2 ≠ 0)) :
    Calls Tryd.prog 25 #[.string s] w fun e w' => e = .returned (.tuple #[zagg, .int .i64 (gl s8 8).2.2]) ∧ Below w.heap.size w w' := by
  have hmf : ∀ (fn : Fn) (first cap : Array Value) (w : World), (Instr.makeFunc fn first cap).run Tryd.prog w = .ok (.func fn first cap) w := fun _ _ _ _ => rfl
  go_enter_defers Tryd.func25, Tryd.ntmps25
  have HX := Lib.hid (Dx.first w s)
  go_wp2_with (first
  | (go_at_call 52
     refine (int_ok' (w.heap.size + 1 + 1) s s1 kd k1 _ E1.out R1.out HX.out.rd).mono ?_
     rintro e w2 ⟨rfl, hr⟩
     have HX := Lib.hid (HX.out.read hr)
     obtain ⟨t0, t1, t2, t3, t4, t5, t6, t7, t8, u0, u1, u2, u3, u4, u5, u6, u7, u8⟩ := tx9 HX.out.tx
     clear hr)
  | (go_at_call 53
     refine (text_ok' (w.heap.size + 1 + 1) s1 s2 f k2 _ Z1.out E2.out R2.out HX.out.rd).mono ?_
     rintro e w2 ⟨rfl, hr⟩
     have HX := Lib.hid (HX.out.read hr)
     obtain ⟨t0, t1, t2, t3, t4, t5, t6, t7, t8, u0, u1, u2, u3, u4, u5, u6, u7, u8⟩ := tx9 HX.out.tx
     clear hr)
  | (go_at_call 53
     refine (text_ok' (w.heap.size + 1 + 1) s2 s3 t k3 _ Z2.out E3.out R3.out HX.out.rd).mono ?_
     rintro e w2 ⟨rfl, hr⟩
     have HX := Lib.hid (HX.out.read hr)
     obtain ⟨t0, t1, t2, t3, t4, t5, t6, t7, t8, u0, u1, u2, u3, u4, u5, u6, u7, u8⟩ := tx9 HX.out.tx
     clear hr)
  | (go_at_call 52
     refine (int_ok' (w.heap.size + 1 + 1) s3 s4 am k4 _ E4.out R4.out ((HX.out.set1 (.string f)).set2 (.string t)).rd).mono ?_
     rintro e w2 ⟨rfl, hr⟩
     have HX := Lib.hid (((HX.out.set1 (.string f)).set2 (.string t)).read hr)
     obtain ⟨t0, t1, t2, t3, t4, t5, t6, t7, t8, u0, u1, u2, u3, u4, u5, u6, u7, u8⟩ := tx9 HX.out.tx
     clear hr)
  | (go_at_call 52
     refine (int_ok' (w.heap.size + 1 + 1) s4 s5 nc k5 _ E5.out R5.out HX.out.rd).mono ?_
     rintro e w2 ⟨rfl, hr⟩
     have HX := Lib.hid (HX.out.read hr)
     obtain ⟨t0, t1, t2, t3, t4, t5, t6, t7, t8, u0, u1, u2, u3, u4, u5, u6, u7, u8⟩ := tx9 HX.out.tx
     clear hr)
  | (go_at_call 53
     refine (text_ok' (w.heap.size + 1 + 1) s5 s6 ky' k6 _ Z5.out E6.out R6.out ((HX.out.set3 (.int .u64 am)).set4 (.int .u64 nc)).rd).mono ?_
     rintro e w2 ⟨rfl, hr⟩
     have HX := Lib.hid (((HX.out.set3 (.int .u64 am)).set4 (.int .u64 nc)).read hr)
     obtain ⟨t0, t1, t2, t3, t4, t5, t6, t7, t8, u0, u1, u2, u3, u4, u5, u6, u7, u8⟩ := tx9 HX.out.tx
     clear hr)
  | (go_at_call 53
     refine (text_ok' (w.heap.size + 1 + 1) s6 s7 vl k7 _ Z6.out E7.out R7.out HX.out.rd).mono ?_
     rintro e w2 ⟨rfl, hr⟩
     have HX := Lib.hid (HX.out.read hr)
     obtain ⟨t0, t1, t2, t3, t4, t5, t6, t7, t8, u0, u1, u2, u3, u4, u5, u6, u7, u8⟩ := tx9 HX.out.tx
     clear hr)
  | (go_at_call 54
     refine (list_ok' (w.heap.size + 1 + 1) s7 s8 rs k8 _ Z7.out E8.out R8.out ((HX.out.set5 (.string ky')).set6 (.string vl)).rd).mono ?_
     rintro e w2 ⟨v7, rfl, hR7, hr⟩
     obtain ⟨A7, c7, rfl, hc7, hC7⟩ := Kd.R_reads hR7
     have HC7 := Lib.hid hc7
     clear hc7 hC7
     have HR7 := Lib.hid hR7
     have HB7 := Lib.hid (((HX.out.set5 (.string ky')).set6 (.string vl)).low.size)
     have HX := Lib.hid (((HX.out.set5 (.string ky')).set6 (.string vl)).read hr)
     obtain ⟨t0, t1, t2, t3, t4, t5, t6, t7, t8, u0, u1, u2, u3, u4, u5, u6, u7, u8⟩ := tx9 HX.out.tx
     clear hr hR7)
  | (go_at_call 54
     refine (list_no (w.heap.size + 1 + 1) s8 _ Z8.out HX.out.rd HN.out).mono ?_
     rintro e w2 ⟨rfl, hB⟩
     have HX := Lib.hid (HX.out.step hB)
     clear hB))
  refine leaves_cons (f := 51) (args := #[.pointer (some ⟨w.heap.size + 1, 0, none⟩)]) (by simp) (by simp [go_sem]) ?_
  refine (caught_panicking ⟨w.heap.size + 1, 0, none⟩ 0 (gl s8 8).2.2 [] _ (blk_cell HX.out.er 0) (blk_frozen HX.out.er 0)).mono ?_
  rintro e u' w'' ⟨rfl, rfl, rfl⟩
  refine leaves_cons (f := 50) (args := #[.pointer (some ⟨w.heap.size + 1, 0, none⟩), .pointer (some ⟨w.heap.size, 0, none⟩)]) (by simp [settle]) (by simp [go_sem]) ?_
  have hdied := HX.out.died (gl s8 8).2.2
  refine (undo_yes (w.heap.size + 1) w.heap.size (gl s8 8).2.2 HN.out _ _ _ _ _ _ _ _ _ _ hdied.1 hdied.2.1).mono ?_
  rintro e u' w'' ⟨rfl, rfl, rfl⟩
  have hz := zset_box _ w.heap.size _ _ _ _ _ _ _ _ _ hdied.2.1
  have hze := (zset_blk _ w.heap.size (w.heap.size + 1) (by omega)).trans hdied.1
  have hzb := zset_below hdied.2.2 (Nat.le_refl _)
  generalize zset _ w.heap.size = Z at hz hze hzb ⊢
  have d0 : Z.cell? ⟨w.heap.size, 0, none⟩ = some (.int .i64 0) := blk_cell hz 0
  have d1 : Z.cell? ⟨w.heap.size, 1, none⟩ = some (.string ⟨#[]⟩) := blk_cell hz 1
  have d2 : Z.cell? ⟨w.heap.size, 2, none⟩ = some (.string ⟨#[]⟩) := blk_cell hz 2
  have d3 : Z.cell? ⟨w.heap.size, 3, none⟩ = some (.int .u64 0) := blk_cell hz 3
  have d4 : Z.cell? ⟨w.heap.size, 4, none⟩ = some (.int .u64 0) := blk_cell hz 4
  have d5 : Z.cell? ⟨w.heap.size, 5, none⟩ = some (.string ⟨#[]⟩) := blk_cell hz 5
  have d6 : Z.cell? ⟨w.heap.size, 6, none⟩ = some (.string ⟨#[]⟩) := blk_cell hz 6
  have d7 : Z.cell? ⟨w.heap.size, 7, none⟩ = some (.slice none 0 0) := blk_cell hz 7
  have d8 : Z.cell? ⟨w.heap.size, 8, none⟩ = some (.slice none 0 0) := blk_cell hz 8
  have de : Z.cell? ⟨w.heap.size + 1, 0, none⟩ = some (.int .i64 ((gl s8 8).2.2)) := blk_cell hze 0
  clear hz hze hdied
  have HZ := Lib.hid hzb
  clear hzb
  simp [Leaves, settle, results, Tryd.results25, go_sem, d0, d1, d2, d3, d4, d5, d6, d7, d8, de]
  exact ⟨rfl, HZ.out⟩
set_option maxHeartbeats 8000000 in
set_option maxRecDepth 100000 in
theorem dec_kind (s s1 s2 s3 s4 s5 s6 s7 s8 s9 : ByteArray) (kd : Int) (k1 : Int) (f : ByteArray) (k2 : Int) (t : ByteArray) (k3 : Int) (am : Int) (k4 : Int) (nc : Int) (k5 : Int) (ky' : ByteArray) (k6 : Int) (vl : ByteArray) (k7 : Int) (rs : List ByteArray) (k8 : Int) (ws : List ByteArray) (k9 : Int) (w : World) (E1 : Hid (gi s 9 0 0 = (kd, k1, 0))) (R1 : Hid (rest s k1 = s1)) (Z1 : Hid (s1.size < 4611686018427387904)) (E2 : Hid (gt s1 = (f, k2, 0))) (R2 : Hid (rest s1 k2 = s2)) (Z2 : Hid (s2.size < 4611686018427387904)) (E3 : Hid (gt s2 = (t, k3, 0))) (R3 : Hid (rest s2 k3 = s3)) (Z3 : Hid (s3.size < 4611686018427387904)) (E4 : Hid (gi s3 9 0 0 = (am, k4, 0))) (R4 : Hid (rest s3 k4 = s4)) (Z4 : Hid (s4.size < 4611686018427387904)) (E5 : Hid (gi s4 9 0 0 = (nc, k5, 0))) (R5 : Hid (rest s4 k5 = s5)) (Z5 : Hid (s5.size < 4611686018427387904)) (E6 : Hid (gt s5 = (ky', k6, 0))) (R6 : Hid (rest s5 k6 = s6)) (Z6 : Hid (s6.size < 4611686018427387904)) (E7 : Hid (gt s6 = (vl, k7, 0))) (R7 : Hid (rest s6 k7 = s7)) (Z7 : Hid (s7.size < 4611686018427387904)) (E8 : Hid (gl s7 8 = (rs, k8, 0))) (R8 : Hid (rest s7 k8 = s8)) (Z8 : Hid (s8.size < 4611686018427387904)) (E9 : Hid (gl s8 8 = (ws, k9, 0))) (R9 : Hid (rest s8 k9 = s9)) (Z9 : Hid (s9.size < 4611686018427387904)) (hk : ¬ kd ≤ 2) :
    Calls Tryd.prog 25 #[.string s] w fun e w' => e = .returned (.tuple #[zagg, .int .i64 2]) ∧ Below w.heap.size w w' := by
  have d1 : decide (kd ≤ 2) = false := decide_eq_false hk
  clear hk
  have hmf : ∀ (fn : Fn) (first cap : Array Value) (w : World), (Instr.makeFunc fn first cap).run Tryd.prog w = .ok (.func fn first cap) w := fun _ _ _ _ => rfl
  go_enter_defers Tryd.func25, Tryd.ntmps25
  have HX := Lib.hid (Dx.first w s)
  go_upto_region 9 with (first
  | (go_at_call 52
     refine (int_ok' (w.heap.size + 1 + 1) s s1 kd k1 _ E1.out R1.out HX.out.rd).mono ?_
     rintro e w2 ⟨rfl, hr⟩
     have HX := Lib.hid (HX.out.read hr)
     obtain ⟨t0, t1, t2, t3, t4, t5, t6, t7, t8, u0, u1, u2, u3, u4, u5, u6, u7, u8⟩ := tx9 HX.out.tx
     clear hr)
  | (go_at_call 53
     refine (text_ok' (w.heap.size + 1 + 1) s1 s2 f k2 _ Z1.out E2.out R2.out HX.out.rd).mono ?_
     rintro e w2 ⟨rfl, hr⟩
     have HX := Lib.hid (HX.out.read hr)
     obtain ⟨t0, t1, t2, t3, t4, t5, t6, t7, t8, u0, u1, u2, u3, u4, u5, u6, u7, u8⟩ := tx9 HX.out.tx
     clear hr)
  | (go_at_call 53
     refine (text_ok' (w.heap.size + 1 + 1) s2 s3 t k3 _ Z2.out E3.out R3.out HX.out.rd).mono ?_
     rintro e w2 ⟨rfl, hr⟩
     have HX := Lib.hid (HX.out.read hr)
     obtain ⟨t0, t1, t2, t3, t4, t5, t6, t7, t8, u0, u1, u2, u3, u4, u5, u6, u7, u8⟩ := tx9 HX.out.tx
     clear hr)
  | (go_at_call 52
     refine (int_ok' (w.heap.size + 1 + 1) s3 s4 am k4 _ E4.out R4.out ((HX.out.set1 (.string f)).set2 (.string t)).rd).mono ?_
     rintro e w2 ⟨rfl, hr⟩
     have HX := Lib.hid (((HX.out.set1 (.string f)).set2 (.string t)).read hr)
     obtain ⟨t0, t1, t2, t3, t4, t5, t6, t7, t8, u0, u1, u2, u3, u4, u5, u6, u7, u8⟩ := tx9 HX.out.tx
     clear hr)
  | (go_at_call 52
     refine (int_ok' (w.heap.size + 1 + 1) s4 s5 nc k5 _ E5.out R5.out HX.out.rd).mono ?_
     rintro e w2 ⟨rfl, hr⟩
     have HX := Lib.hid (HX.out.read hr)
     obtain ⟨t0, t1, t2, t3, t4, t5, t6, t7, t8, u0, u1, u2, u3, u4, u5, u6, u7, u8⟩ := tx9 HX.out.tx
     clear hr)
  | (go_at_call 53
     refine (text_ok' (w.heap.size + 1 + 1) s5 s6 ky' k6 _ Z5.out E6.out R6.out ((HX.out.set3 (.int .u64 am)).set4 (.int .u64 nc)).rd).mono ?_
     rintro e w2 ⟨rfl, hr⟩
     have HX := Lib.hid (((HX.out.set3 (.int .u64 am)).set4 (.int .u64 nc)).read hr)
     obtain ⟨t0, t1, t2, t3, t4, t5, t6, t7, t8, u0, u1, u2, u3, u4, u5, u6, u7, u8⟩ := tx9 HX.out.tx
     clear hr)
  | (go_at_call 53
     refine (text_ok' (w.heap.size + 1 + 1) s6 s7 vl k7 _ Z6.out E7.out R7.out HX.out.rd).mono ?_
     rintro e w2 ⟨rfl, hr⟩
     have HX := Lib.hid (HX.out.read hr)
     obtain ⟨t0, t1, t2, t3, t4, t5, t6, t7, t8, u0, u1, u2, u3, u4, u5, u6, u7, u8⟩ := tx9 HX.out.tx
     clear hr)
  | (go_at_call 54
     refine (list_ok' (w.heap.size + 1 + 1) s7 s8 rs k8 _ Z7.out E8.out R8.out ((HX.out.set5 (.string ky')).set6 (.string vl)).rd).mono ?_
     rintro e w2 ⟨v7, rfl, hR7, hr⟩
     obtain ⟨A7, c7, rfl, hc7, hC7⟩ := Kd.R_reads hR7
     have HC7 := Lib.hid hc7
     clear hc7 hC7
     have HR7 := Lib.hid hR7
     have HB7 := Lib.hid (((HX.out.set5 (.string ky')).set6 (.string vl)).low.size)
     have HX := Lib.hid (((HX.out.set5 (.string ky')).set6 (.string vl)).read hr)
     obtain ⟨t0, t1, t2, t3, t4, t5, t6, t7, t8, u0, u1, u2, u3, u4, u5, u6, u7, u8⟩ := tx9 HX.out.tx
     clear hr hR7)
  | (go_at_call 54
     refine (list_ok' (w.heap.size + 1 + 1) s8 s9 ws k9 _ Z8.out E9.out R9.out HX.out.rd).mono ?_
     rintro e w2 ⟨v8, rfl, hR8, hr⟩
     have HR7 := Lib.hid (hr.row HR7.out)
     obtain ⟨A8, c8, rfl, hc8, hC8⟩ := Kd.R_reads hR8
     have HC8 := Lib.hid hc8
     clear hc8 hC8
     have HR8 := Lib.hid hR8
     have HB8 := Lib.hid (HX.out.low.size)
     have HX := Lib.hid (HX.out.read hr)
     obtain ⟨t0, t1, t2, t3, t4, t5, t6, t7, t8, u0, u1, u2, u3, u4, u5, u6, u7, u8⟩ := tx9 HX.out.tx
     clear hr hR8))
  have HX := Lib.hid ((HX.out.set7 (.slice A7 rs.length c7)).set8 (.slice A8 ws.length c8))
  go_wp2_with (first | (go_at_call 55; first | (with_reducible refine (check_ok _ _).mono ?_; rintro e w'' ⟨rfl, hw⟩; have hw := hw.symm; subst hw) | (with_reducible refine (check_no _ _).mono ?_; rintro e w'' ⟨rfl, hw⟩; have hw := hw.symm; subst hw)))
  refine leaves_cons (f := 51) (args := #[.pointer (some ⟨w.heap.size + 1, 0, none⟩)]) (by simp) (by simp [go_sem]) ?_
  refine (caught_panicking ⟨w.heap.size + 1, 0, none⟩ 0 2 [] _ (blk_cell HX.out.er 0) (blk_frozen HX.out.er 0)).mono ?_
  rintro e u' w'' ⟨rfl, rfl, rfl⟩
  refine leaves_cons (f := 50) (args := #[.pointer (some ⟨w.heap.size + 1, 0, none⟩), .pointer (some ⟨w.heap.size, 0, none⟩)]) (by simp [settle]) (by simp [go_sem]) ?_
  have hdied := HX.out.died 2
  refine (undo_yes (w.heap.size + 1) w.heap.size 2 (by decide) _ _ _ _ _ _ _ _ _ _ hdied.1 hdied.2.1).mono ?_
  rintro e u' w'' ⟨rfl, rfl, rfl⟩
  have hz := zset_box _ w.heap.size _ _ _ _ _ _ _ _ _ hdied.2.1
  have hze := (zset_blk _ w.heap.size (w.heap.size + 1) (by omega)).trans hdied.1
  have hzb := zset_below hdied.2.2 (Nat.le_refl _)
  generalize zset _ w.heap.size = Z at hz hze hzb ⊢
  have d0 : Z.cell? ⟨w.heap.size, 0, none⟩ = some (.int .i64 0) := blk_cell hz 0
  have d1 : Z.cell? ⟨w.heap.size, 1, none⟩ = some (.string ⟨#[]⟩) := blk_cell hz 1
  have d2 : Z.cell? ⟨w.heap.size, 2, none⟩ = some (.string ⟨#[]⟩) := blk_cell hz 2
  have d3 : Z.cell? ⟨w.heap.size, 3, none⟩ = some (.int .u64 0) := blk_cell hz 3
  have d4 : Z.cell? ⟨w.heap.size, 4, none⟩ = some (.int .u64 0) := blk_cell hz 4
  have d5 : Z.cell? ⟨w.heap.size, 5, none⟩ = some (.string ⟨#[]⟩) := blk_cell hz 5
  have d6 : Z.cell? ⟨w.heap.size, 6, none⟩ = some (.string ⟨#[]⟩) := blk_cell hz 6
  have d7 : Z.cell? ⟨w.heap.size, 7, none⟩ = some (.slice none 0 0) := blk_cell hz 7
  have d8 : Z.cell? ⟨w.heap.size, 8, none⟩ = some (.slice none 0 0) := blk_cell hz 8
  have de : Z.cell? ⟨w.heap.size + 1, 0, none⟩ = some (.int .i64 (2)) := blk_cell hze 0
  clear hz hze hdied
  have HZ := Lib.hid hzb
  clear hzb
  simp [Leaves, settle, results, Tryd.results25, go_sem, d0, d1, d2, d3, d4, d5, d6, d7, d8, de]
  exact ⟨rfl, HZ.out⟩
set_option maxHeartbeats 8000000 in
set_option maxRecDepth 100000 in
theorem dec_more (s s1 s2 s3 s4 s5 s6 s7 s8 s9 : ByteArray) (kd : Int) (k1 : Int) (f : ByteArray) (k2 : Int) (t : ByteArray) (k3 : Int) (am : Int) (k4 : Int) (nc : Int) (k5 : Int) (ky' : ByteArray) (k6 : Int) (vl : ByteArray) (k7 : Int) (rs : List ByteArray) (k8 : Int) (ws : List ByteArray) (k9 : Int) (w : World) (E1 : Hid (gi s 9 0 0 = (kd, k1, 0))) (R1 : Hid (rest s k1 = s1)) (Z1 : Hid (s1.size < 4611686018427387904)) (E2 : Hid (gt s1 = (f, k2, 0))) (R2 : Hid (rest s1 k2 = s2)) (Z2 : Hid (s2.size < 4611686018427387904)) (E3 : Hid (gt s2 = (t, k3, 0))) (R3 : Hid (rest s2 k3 = s3)) (Z3 : Hid (s3.size < 4611686018427387904)) (E4 : Hid (gi s3 9 0 0 = (am, k4, 0))) (R4 : Hid (rest s3 k4 = s4)) (Z4 : Hid (s4.size < 4611686018427387904)) (E5 : Hid (gi s4 9 0 0 = (nc, k5, 0))) (R5 : Hid (rest s4 k5 = s5)) (Z5 : Hid (s5.size < 4611686018427387904)) (E6 : Hid (gt s5 = (ky', k6, 0))) (R6 : Hid (rest s5 k6 = s6)) (Z6 : Hid (s6.size < 4611686018427387904)) (E7 : Hid (gt s6 = (vl, k7, 0))) (R7 : Hid (rest s6 k7 = s7)) (Z7 : Hid (s7.size < 4611686018427387904)) (E8 : Hid (gl s7 8 = (rs, k8, 0))) (R8 : Hid (rest s7 k8 = s8)) (Z8 : Hid (s8.size < 4611686018427387904)) (E9 : Hid (gl s8 8 = (ws, k9, 0))) (R9 : Hid (rest s8 k9 = s9)) (Z9 : Hid (s9.size < 4611686018427387904)) (hk : kd ≤ 2) (h9 : s9.toList.isEmpty = false) :
    Calls Tryd.prog 25 #[.string s] w fun e w' => e = .returned (.tuple #[zagg, .int .i64 6]) ∧ Below w.heap.size w w' := by
  have d1 : decide (kd ≤ 2) = true := decide_eq_true hk
  clear hk
  have hmf : ∀ (fn : Fn) (first cap : Array Value) (w : World), (Instr.makeFunc fn first cap).run Tryd.prog w = .ok (.func fn first cap) w := fun _ _ _ _ => rfl
  go_enter_defers Tryd.func25, Tryd.ntmps25
  have HX := Lib.hid (Dx.first w s)
  go_upto_region 9 with (first
  | (go_at_call 52
     refine (int_ok' (w.heap.size + 1 + 1) s s1 kd k1 _ E1.out R1.out HX.out.rd).mono ?_
     rintro e w2 ⟨rfl, hr⟩
     have HX := Lib.hid (HX.out.read hr)
     obtain ⟨t0, t1, t2, t3, t4, t5, t6, t7, t8, u0, u1, u2, u3, u4, u5, u6, u7, u8⟩ := tx9 HX.out.tx
     clear hr)
  | (go_at_call 53
     refine (text_ok' (w.heap.size + 1 + 1) s1 s2 f k2 _ Z1.out E2.out R2.out HX.out.rd).mono ?_
     rintro e w2 ⟨rfl, hr⟩
     have HX := Lib.hid (HX.out.read hr)
     obtain ⟨t0, t1, t2, t3, t4, t5, t6, t7, t8, u0, u1, u2, u3, u4, u5, u6, u7, u8⟩ := tx9 HX.out.tx
     clear hr)
  | (go_at_call 53
     refine (text_ok' (w.heap.size + 1 + 1) s2 s3 t k3 _ Z2.out E3.out R3.out HX.out.rd).mono ?_
     rintro e w2 ⟨rfl, hr⟩
     have HX := Lib.hid (HX.out.read hr)
     obtain ⟨t0, t1, t2, t3, t4, t5, t6, t7, t8, u0, u1, u2, u3, u4, u5, u6, u7, u8⟩ := tx9 HX.out.tx
     clear hr)
  | (go_at_call 52
     refine (int_ok' (w.heap.size + 1 + 1) s3 s4 am k4 _ E4.out R4.out ((HX.out.set1 (.string f)).set2 (.string t)).rd).mono ?_
     rintro e w2 ⟨rfl, hr⟩
     have HX := Lib.hid (((HX.out.set1 (.string f)).set2 (.string t)).read hr)
     obtain ⟨t0, t1, t2, t3, t4, t5, t6, t7, t8, u0, u1, u2, u3, u4, u5, u6, u7, u8⟩ := tx9 HX.out.tx
     clear hr)
  | (go_at_call 52
     refine (int_ok' (w.heap.size + 1 + 1) s4 s5 nc k5 _ E5.out R5.out HX.out.rd).mono ?_
     rintro e w2 ⟨rfl, hr⟩
     have HX := Lib.hid (HX.out.read hr)
     obtain ⟨t0, t1, t2, t3, t4, t5, t6, t7, t8, u0, u1, u2, u3, u4, u5, u6, u7, u8⟩ := tx9 HX.out.tx
     clear hr)
  | (go_at_call 53
     refine (text_ok' (w.heap.size + 1 + 1) s5 s6 ky' k6 _ Z5.out E6.out R6.out ((HX.out.set3 (.int .u64 am)).set4 (.int .u64 nc)).rd).mono ?_
     rintro e w2 ⟨rfl, hr⟩
     have HX := Lib.hid (((HX.out.set3 (.int .u64 am)).set4 (.int .u64 nc)).read hr)
     obtain ⟨t0, t1, t2, t3, t4, t5, t6, t7, t8, u0, u1, u2, u3, u4, u5, u6, u7, u8⟩ := tx9 HX.out.tx
     clear hr)
  | (go_at_call 53
     refine (text_ok' (w.heap.size + 1 + 1) s6 s7 vl k7 _ Z6.out E7.out R7.out HX.out.rd).mono ?_
     rintro e w2 ⟨rfl, hr⟩
     have HX := Lib.hid (HX.out.read hr)
     obtain ⟨t0, t1, t2, t3, t4, t5, t6, t7, t8, u0, u1, u2, u3, u4, u5, u6, u7, u8⟩ := tx9 HX.out.tx
     clear hr)
  | (go_at_call 54
     refine (list_ok' (w.heap.size + 1 + 1) s7 s8 rs k8 _ Z7.out E8.out R8.out ((HX.out.set5 (.string ky')).set6 (.string vl)).rd).mono ?_
     rintro e w2 ⟨v7, rfl, hR7, hr⟩
     obtain ⟨A7, c7, rfl, hc7, hC7⟩ := Kd.R_reads hR7
     have HC7 := Lib.hid hc7
     clear hc7 hC7
     have HR7 := Lib.hid hR7
     have HB7 := Lib.hid (((HX.out.set5 (.string ky')).set6 (.string vl)).low.size)
     have HX := Lib.hid (((HX.out.set5 (.string ky')).set6 (.string vl)).read hr)
     obtain ⟨t0, t1, t2, t3, t4, t5, t6, t7, t8, u0, u1, u2, u3, u4, u5, u6, u7, u8⟩ := tx9 HX.out.tx
     clear hr hR7)
  | (go_at_call 54
     refine (list_ok' (w.heap.size + 1 + 1) s8 s9 ws k9 _ Z8.out E9.out R9.out HX.out.rd).mono ?_
     rintro e w2 ⟨v8, rfl, hR8, hr⟩
     have HR7 := Lib.hid (hr.row HR7.out)
     obtain ⟨A8, c8, rfl, hc8, hC8⟩ := Kd.R_reads hR8
     have HC8 := Lib.hid hc8
     clear hc8 hC8
     have HR8 := Lib.hid hR8
     have HB8 := Lib.hid (HX.out.low.size)
     have HX := Lib.hid (HX.out.read hr)
     obtain ⟨t0, t1, t2, t3, t4, t5, t6, t7, t8, u0, u1, u2, u3, u4, u5, u6, u7, u8⟩ := tx9 HX.out.tx
     clear hr hR8))
  have HX := Lib.hid ((HX.out.set7 (.slice A7 rs.length c7)).set8 (.slice A8 ws.length c8))
  have q9 : _ = some (Value.string s9) := blk_cell HX.out.rd 0
  go_wp2_with (first | (go_at_call 55; first | (with_reducible refine (check_ok _ _).mono ?_; rintro e w'' ⟨rfl, hw⟩; have hw := hw.symm; subst hw) | (with_reducible refine (check_no _ _).mono ?_; rintro e w'' ⟨rfl, hw⟩; have hw := hw.symm; subst hw)))
  refine leaves_cons (f := 51) (args := #[.pointer (some ⟨w.heap.size + 1, 0, none⟩)]) (by simp) (by simp [go_sem]) ?_
  refine (caught_panicking ⟨w.heap.size + 1, 0, none⟩ 0 6 [] _ (blk_cell HX.out.er 0) (blk_frozen HX.out.er 0)).mono ?_
  rintro e u' w'' ⟨rfl, rfl, rfl⟩
  refine leaves_cons (f := 50) (args := #[.pointer (some ⟨w.heap.size + 1, 0, none⟩), .pointer (some ⟨w.heap.size, 0, none⟩)]) (by simp [settle]) (by simp [go_sem]) ?_
  have hdied := HX.out.died 6
  refine (undo_yes (w.heap.size + 1) w.heap.size 6 (by decide) _ _ _ _ _ _ _ _ _ _ hdied.1 hdied.2.1).mono ?_
  rintro e u' w'' ⟨rfl, rfl, rfl⟩
  have hz := zset_box _ w.heap.size _ _ _ _ _ _ _ _ _ hdied.2.1
  have hze := (zset_blk _ w.heap.size (w.heap.size + 1) (by omega)).trans hdied.1
  have hzb := zset_below hdied.2.2 (Nat.le_refl _)
  generalize zset _ w.heap.size = Z at hz hze hzb ⊢
  have d0 : Z.cell? ⟨w.heap.size, 0, none⟩ = some (.int .i64 0) := blk_cell hz 0
  have d1 : Z.cell? ⟨w.heap.size, 1, none⟩ = some (.string ⟨#[]⟩) := blk_cell hz 1
  have d2 : Z.cell? ⟨w.heap.size, 2, none⟩ = some (.string ⟨#[]⟩) := blk_cell hz 2
  have d3 : Z.cell? ⟨w.heap.size, 3, none⟩ = some (.int .u64 0) := blk_cell hz 3
  have d4 : Z.cell? ⟨w.heap.size, 4, none⟩ = some (.int .u64 0) := blk_cell hz 4
  have d5 : Z.cell? ⟨w.heap.size, 5, none⟩ = some (.string ⟨#[]⟩) := blk_cell hz 5
  have d6 : Z.cell? ⟨w.heap.size, 6, none⟩ = some (.string ⟨#[]⟩) := blk_cell hz 6
  have d7 : Z.cell? ⟨w.heap.size, 7, none⟩ = some (.slice none 0 0) := blk_cell hz 7
  have d8 : Z.cell? ⟨w.heap.size, 8, none⟩ = some (.slice none 0 0) := blk_cell hz 8
  have de : Z.cell? ⟨w.heap.size + 1, 0, none⟩ = some (.int .i64 (6)) := blk_cell hze 0
  clear hz hze hdied
  have HZ := Lib.hid hzb
  clear hzb
  simp [Leaves, settle, results, Tryd.results25, go_sem, d0, d1, d2, d3, d4, d5, d6, d7, d8, de]
  exact ⟨rfl, HZ.out⟩
end Go.Proofs.YtndicjikjcifaaaDoor
/- tx.Decode: its last way out, and all ways joined. -/
namespace Go.Proofs.YtndicjikjcifaaaDoor
open Go.RowKit Go.Shelf Go.Lib Go.Proofs.YtndicjikjcifaaaDoorW.PrintWords Go.Proofs.YtndicjikjcifaaaDoorW.PrintLast
set_option linter.unusedVariables false
set_option linter.unusedSimpArgs false
abbrev Dec := Int × ByteArray × ByteArray × Int × Int × ByteArray × ByteArray × List ByteArray × List ByteArray × Int
def derr (e : Int) : Dec := (0, ⟨#[]⟩, ⟨#[]⟩, 0, 0, ⟨#[]⟩, ⟨#[]⟩, [], [], e)
def fin9 (kd : Int) (f t : ByteArray) (am nc : Int) (ky' vl : ByteArray) (rs ws : List ByteArray) : Dec :=
  if ch kd f t am nc ky' vl rs ws = 0 then (kd, f, t, am, nc, ky', vl, rs, ws, 0) else derr (ch kd f t am nc ky' vl rs ws)
def DP (r : Dec) (w : World) (e : Ending) (w' : World) : Prop :=
  ∃ v8 v9, e = .returned (.tuple #[.agg #[.int .i64 r.1, .string r.2.1, .string r.2.2.1, .int .u64 r.2.2.2.1, .int .u64 r.2.2.2.2.1, .string r.2.2.2.2.2.1, .string r.2.2.2.2.2.2.1, v8, v9], .int .i64 r.2.2.2.2.2.2.2.2.2])
    ∧ Kd.R Kd.string 9 w' w.heap.size (fun k => some k ≠ v9.ownBlock) v8 r.2.2.2.2.2.2.2.1
    ∧ Kd.R Kd.string 9 w' w.heap.size (fun k => some k ≠ v8.ownBlock) v9 r.2.2.2.2.2.2.2.2.1
    ∧ Below w.heap.size w w'
theorem apart_of {u v : Value} {n : Nat} (h1 : ∀ k, u.ownBlock = some k → k < n) (h2 : ∀ k, v.ownBlock = some k → n ≤ k) : (∀ k, u.ownBlock = some k → some k ≠ v.ownBlock) ∧ (∀ k, v.ownBlock = some k → some k ≠ u.ownBlock) :=
  ⟨fun k hk e => by have := h1 k hk; have := h2 k e.symm; omega, fun k hk e => by have := h2 k hk; have := h1 k e.symm; omega⟩
structure Fx (w : World) (c : Array Value) (x : Int) (v7 v8 : Value) (rs ws : List ByteArray) (Z : World) : Prop where
  low : Below w.heap.size w Z
  tx : Z.heap[w.heap.size]? = some (.cells c 33 (0, 0))
  er : Z.heap[w.heap.size + 1]? = some (.cells #[.int .i64 x] 24 (0, 0))
  r7 : Kd.R Kd.string 9 Z w.heap.size (fun k => some k = v7.ownBlock) v7 rs
  r8 : Kd.R Kd.string 9 Z w.heap.size (fun k => some k = v8.ownBlock) v8 ws
theorem DP_err {w w' : World} {e : Ending} (x : Int) (he : e = .returned (.tuple #[zagg, .int .i64 x])) (hb : Below w.heap.size w w') : DP (derr x) w e w' :=
  ⟨_, _, he, Kd.R_nil _ _ _ _ _, Kd.R_nil _ _ _ _ _, hb⟩
theorem Fx.made {w W : World} {b0 b1 b2 b3 b4 b5 b6 b7 b8 : Value} {s : ByteArray} (h : Dx w b0 b1 b2 b3 b4 b5 b6 b7 b8 s W) {v7 v8 : Value} {rs ws : List ByteArray}
    (r7 : Kd.R Kd.string 9 W w.heap.size (fun k => some k = v7.ownBlock) v7 rs) (r8 : Kd.R Kd.string 9 W w.heap.size (fun k => some k = v8.ownBlock) v8 ws) (c0 c1 c2 c3 c4 c5 c6 c7 c8 : Value) (x : Int) :
    Fx w #[c0, c1, c2, c3, c4, c5, c6, c7, c8] x v7 v8 rs ws
      ((((((((((W.setCell ⟨w.heap.size, 0, none⟩ c0).setCell ⟨w.heap.size, 1, none⟩ c1).setCell ⟨w.heap.size, 2, none⟩ c2).setCell ⟨w.heap.size, 3, none⟩ c3).setCell ⟨w.heap.size, 4, none⟩ c4).setCell ⟨w.heap.size, 5, none⟩ c5).setCell ⟨w.heap.size, 6, none⟩ c6).setCell ⟨w.heap.size, 7, none⟩ c7).setCell ⟨w.heap.size, 8, none⟩ c8).setCell ⟨w.heap.size + 1, 0, none⟩ (.int .i64 x)) := by
  have hd := ((((((((h.set0 c0).set1 c1).set2 c2).set3 c3).set4 c4).set5 c5).set6 c6).set7 c7).set8 c8
  have ht33 : ∀ q, q ∈ 9 :: Kd.string.E → q ≠ 24 := by intro q hq; simp [Kd.string, Kd.scalar] at hq; subst hq; decide
  have D7 := Kd.R_ne r7 h.tx (by decide)
  have D8 := Kd.R_ne r8 h.tx (by decide)
  have E7 := Kd.R_ne r7 h.er (by decide)
  have E8 := Kd.R_ne r8 h.er (by decide)
  refine ⟨hd.low.setCell (by simp) _, (Below.heap_setCell _ _ _ _ (by simp)).trans hd.tx, by simpa using blk_set hd.er 0 (.int .i64 x), ?_, ?_⟩
  · refine Kd.R_step r7 (fun k hk hlt => ?_)
    have n1 : k ≠ w.heap.size := fun e => D7 (by rw [← e]; exact hk)
    have n2 : k ≠ w.heap.size + 1 := fun e => E7 (by rw [← e]; exact hk)
    rw [Below.heap_setCell _ _ _ _ n2]
    iterate 9 rw [Below.heap_setCell _ _ _ _ n1]
  · refine Kd.R_step r8 (fun k hk hlt => ?_)
    have n1 : k ≠ w.heap.size := fun e => D8 (by rw [← e]; exact hk)
    have n2 : k ≠ w.heap.size + 1 := fun e => E8 (by rw [← e]; exact hk)
    rw [Below.heap_setCell _ _ _ _ n2]
    iterate 9 rw [Below.heap_setCell _ _ _ _ n1]
set_option maxHeartbeats 8000000 in
set_option maxRecDepth 100000 in
theorem dec_chk (s s1 s2 s3 s4 s5 s6 s7 s8 s9 : ByteArray) (kd : Int) (k1 : Int) (f : ByteArray) (k2 : Int) (t : ByteArray) (k3 : Int) (am : Int) (k4 : Int) (nc : Int) (k5 : Int) (ky' : ByteArray) (k6 : Int) (vl : ByteArray) (k7 : Int) (rs : List ByteArray) (k8 : Int) (ws : List ByteArray) (k9 : Int) (w : World) (E1 : Hid (gi s 9 0 0 = (kd, k1, 0))) (R1 : Hid (rest s k1 = s1)) (Z1 : Hid (s1.size < 4611686018427387904)) (E2 : Hid (gt s1 = (f, k2, 0))) (R2 : Hid (rest s1 k2 = s2)) (Z2 : Hid (s2.size < 4611686018427387904)) (E3 : Hid (gt s2 = (t, k3, 0))) (R3 : Hid (rest s2 k3 = s3)) (Z3 : Hid (s3.size < 4611686018427387904)) (E4 : Hid (gi s3 9 0 0 = (am, k4, 0))) (R4 : Hid (rest s3 k4 = s4)) (Z4 : Hid (s4.size < 4611686018427387904)) (E5 : Hid (gi s4 9 0 0 = (nc, k5, 0))) (R5 : Hid (rest s4 k5 = s5)) (Z5 : Hid (s5.size < 4611686018427387904)) (E6 : Hid (gt s5 = (ky', k6, 0))) (R6 : Hid (rest s5 k6 = s6)) (Z6 : Hid (s6.size < 4611686018427387904)) (E7 : Hid (gt s6 = (vl, k7, 0))) (R7 : Hid (rest s6 k7 = s7)) (Z7 : Hid (s7.size < 4611686018427387904)) (E8 : Hid (gl s7 8 = (rs, k8, 0))) (R8 : Hid (rest s7 k8 = s8)) (Z8 : Hid (s8.size < 4611686018427387904)) (E9 : Hid (gl s8 8 = (ws, k9, 0))) (R9 : Hid (rest s8 k9 = s9)) (Z9 : Hid (s9.size < 4611686018427387904)) (hk : kd ≤ 2) (hk0 : 0 ≤ kd) (h9 : s9.toList.isEmpty = true) :
    Calls Tryd.prog 25 #[.string s] w fun e w' => DP (fin9 kd f t am nc ky' vl rs ws) w e w' := by
  have d1 : decide (kd ≤ 2) = true := decide_eq_true hk
  have d2 : IntKind.i64.wrap kd = kd := by rw [IntKind.wrap_i64]; omega
  clear hk hk0
  have hmf : ∀ (fn : Fn) (first cap : Array Value) (w : World), (Instr.makeFunc fn first cap).run Tryd.prog w = .ok (.func fn first cap) w := fun _ _ _ _ => rfl
  go_enter_defers Tryd.func25, Tryd.ntmps25
  have HX := Lib.hid (Dx.first w s)
  go_upto_region 9 with (first
  | (go_at_call 52
     refine (int_ok' (w.heap.size + 1 + 1) s s1 kd k1 _ E1.out R1.out HX.out.rd).mono ?_
     rintro e w2 ⟨rfl, hr⟩
     have HX := Lib.hid (HX.out.read hr)
     obtain ⟨t0, t1, t2, t3, t4, t5, t6, t7, t8, u0, u1, u2, u3, u4, u5, u6, u7, u8⟩ := tx9 HX.out.tx
     clear hr)
  | (go_at_call 53
     refine (text_ok' (w.heap.size + 1 + 1) s1 s2 f k2 _ Z1.out E2.out R2.out HX.out.rd).mono ?_
     rintro e w2 ⟨rfl, hr⟩
     have HX := Lib.hid (HX.out.read hr)
     obtain ⟨t0, t1, t2, t3, t4, t5, t6, t7, t8, u0, u1, u2, u3, u4, u5, u6, u7, u8⟩ := tx9 HX.out.tx
     clear hr)
  | (go_at_call 53
     refine (text_ok' (w.heap.size + 1 + 1) s2 s3 t k3 _ Z2.out E3.out R3.out HX.out.rd).mono ?_
     rintro e w2 ⟨rfl, hr⟩
     have HX := Lib.hid (HX.out.read hr)
     obtain ⟨t0, t1, t2, t3, t4, t5, t6, t7, t8, u0, u1, u2, u3, u4, u5, u6, u7, u8⟩ := tx9 HX.out.tx
     clear hr)
  | (go_at_call 52
     refine (int_ok' (w.heap.size + 1 + 1) s3 s4 am k4 _ E4.out R4.out ((HX.out.set1 (.string f)).set2 (.string t)).rd).mono ?_
     rintro e w2 ⟨rfl, hr⟩
     have HX := Lib.hid (((HX.out.set1 (.string f)).set2 (.string t)).read hr)
     obtain ⟨t0, t1, t2, t3, t4, t5, t6, t7, t8, u0, u1, u2, u3, u4, u5, u6, u7, u8⟩ := tx9 HX.out.tx
     clear hr)
  | (go_at_call 52
     refine (int_ok' (w.heap.size + 1 + 1) s4 s5 nc k5 _ E5.out R5.out HX.out.rd).mono ?_
     rintro e w2 ⟨rfl, hr⟩
     have HX := Lib.hid (HX.out.read hr)
     obtain ⟨t0, t1, t2, t3, t4, t5, t6, t7, t8, u0, u1, u2, u3, u4, u5, u6, u7, u8⟩ := tx9 HX.out.tx
     clear hr)
  | (go_at_call 53
     refine (text_ok' (w.heap.size + 1 + 1) s5 s6 ky' k6 _ Z5.out E6.out R6.out ((HX.out.set3 (.int .u64 am)).set4 (.int .u64 nc)).rd).mono ?_
     rintro e w2 ⟨rfl, hr⟩
     have HX := Lib.hid (((HX.out.set3 (.int .u64 am)).set4 (.int .u64 nc)).read hr)
     obtain ⟨t0, t1, t2, t3, t4, t5, t6, t7, t8, u0, u1, u2, u3, u4, u5, u6, u7, u8⟩ := tx9 HX.out.tx
     clear hr)
  | (go_at_call 53
     refine (text_ok' (w.heap.size + 1 + 1) s6 s7 vl k7 _ Z6.out E7.out R7.out HX.out.rd).mono ?_
     rintro e w2 ⟨rfl, hr⟩
     have HX := Lib.hid (HX.out.read hr)
     obtain ⟨t0, t1, t2, t3, t4, t5, t6, t7, t8, u0, u1, u2, u3, u4, u5, u6, u7, u8⟩ := tx9 HX.out.tx
     clear hr)
  | (go_at_call 54
     refine (list_ok' (w.heap.size + 1 + 1) s7 s8 rs k8 _ Z7.out E8.out R8.out ((HX.out.set5 (.string ky')).set6 (.string vl)).rd).mono ?_
     rintro e w2 ⟨v7, rfl, hR7, hr⟩
     obtain ⟨A7, c7, rfl, hc7, hC7⟩ := Kd.R_reads hR7
     have HC7 := Lib.hid hc7
     clear hc7 hC7
     have HR7 := Lib.hid hR7
     have HB7 := Lib.hid (((HX.out.set5 (.string ky')).set6 (.string vl)).low.size)
     have HX := Lib.hid (((HX.out.set5 (.string ky')).set6 (.string vl)).read hr)
     obtain ⟨t0, t1, t2, t3, t4, t5, t6, t7, t8, u0, u1, u2, u3, u4, u5, u6, u7, u8⟩ := tx9 HX.out.tx
     clear hr hR7)
  | (go_at_call 54
     refine (list_ok' (w.heap.size + 1 + 1) s8 s9 ws k9 _ Z8.out E9.out R9.out HX.out.rd).mono ?_
     rintro e w2 ⟨v8, rfl, hR8, hr⟩
     have HN7 := Lib.hid (Kd.R_lt HR7.out)
     have HR7 := Lib.hid (hr.row (Kd.R_mono (Kd.R_bound HR7.out) (ok' := fun k => k < _) (fun k hk => hk.2.2.1)))
     obtain ⟨A8, c8, rfl, hc8, hC8⟩ := Kd.R_reads hR8
     have HC8 := Lib.hid hc8
     clear hc8 hC8
     have HR8 := Lib.hid hR8
     have HB8 := Lib.hid (HX.out.low.size)
     have HX := Lib.hid (HX.out.read hr)
     obtain ⟨t0, t1, t2, t3, t4, t5, t6, t7, t8, u0, u1, u2, u3, u4, u5, u6, u7, u8⟩ := tx9 HX.out.tx
     clear hr hR8))
  have H0 := HX
  have HX := Lib.hid ((HX.out.set7 (.slice A7 rs.length c7)).set8 (.slice A8 ws.length c8))
  have q9 : _ = some (Value.string s9) := blk_cell HX.out.rd 0
  go_upto_region 12 with (first | (go_at_call 55; first | (with_reducible refine (check_ok _ _).mono ?_; rintro e w'' ⟨rfl, hw⟩; have hw := hw.symm; subst hw) | (with_reducible refine (check_no _ _).mono ?_; rintro e w'' ⟨rfl, hw⟩; have hw := hw.symm; subst hw)))
  have HX1 := HX.out.set0 (.int .i64 kd)
  have HX := Lib.hid HX1
  have y0 := blk_cell HX1.tx 0; have z0 := blk_frozen HX1.tx 0; simp only [List.getElem?_toArray, List.getElem?_cons_zero, List.getElem?_cons_succ] at y0
  have y1 := blk_cell HX1.tx 1; have z1 := blk_frozen HX1.tx 1; simp only [List.getElem?_toArray, List.getElem?_cons_zero, List.getElem?_cons_succ] at y1
  have y2 := blk_cell HX1.tx 2; have z2 := blk_frozen HX1.tx 2; simp only [List.getElem?_toArray, List.getElem?_cons_zero, List.getElem?_cons_succ] at y2
  have y3 := blk_cell HX1.tx 3; have z3 := blk_frozen HX1.tx 3; simp only [List.getElem?_toArray, List.getElem?_cons_zero, List.getElem?_cons_succ] at y3
  have y4 := blk_cell HX1.tx 4; have z4 := blk_frozen HX1.tx 4; simp only [List.getElem?_toArray, List.getElem?_cons_zero, List.getElem?_cons_succ] at y4
  have y5 := blk_cell HX1.tx 5; have z5 := blk_frozen HX1.tx 5; simp only [List.getElem?_toArray, List.getElem?_cons_zero, List.getElem?_cons_succ] at y5
  have y6 := blk_cell HX1.tx 6; have z6 := blk_frozen HX1.tx 6; simp only [List.getElem?_toArray, List.getElem?_cons_zero, List.getElem?_cons_succ] at y6
  have y7 := blk_cell HX1.tx 7; have z7 := blk_frozen HX1.tx 7; simp only [List.getElem?_toArray, List.getElem?_cons_zero, List.getElem?_cons_succ] at y7
  have y8 := blk_cell HX1.tx 8; have z8 := blk_frozen HX1.tx 8; simp only [List.getElem?_toArray, List.getElem?_cons_zero, List.getElem?_cons_succ] at y8
  clear HX1
  have ht9 : ∀ q, q ∈ 9 :: Kd.string.E → q ≠ 33 := by intro q hq; simp [Kd.string, Kd.scalar] at hq; subst hq; decide
  have C7 := Lib.hid (C_of_R (Kd.R_drew (Kd.R_set (Kd.R_set (Kd.R_set HR7.out H0.out.tx ht9 7 (.slice A7 rs.length c7)) (H0.out.set7 _).tx ht9 8 (.slice A8 ws.length c8)) ((H0.out.set7 _).set8 _).tx ht9 0 (.int .i64 kd))))
  have C8 := Lib.hid (C_of_R (Kd.R_drew (Kd.R_set (Kd.R_set (Kd.R_set HR8.out H0.out.tx ht9 7 (.slice A7 rs.length c7)) (H0.out.set7 _).tx ht9 8 (.slice A8 ws.length c8)) ((H0.out.set7 _).set8 _).tx ht9 0 (.int .i64 kd))))
  have ht9 := Lib.hid ht9
  go_region_with (first
    | (go_at_call 41
       go_must (refine (chk_calls kd f t am nc ky' vl A7 A8 c7 c8 rs ws _ C7.out HC7.out C8.out HC8.out).mono ?_)
       rintro e w3 ⟨rfl, hB⟩
       have T7 := Lib.hid (Kd.R_tight rfl (Kd.R_lower (Kd.R_below (Kd.R_drew (Kd.R_set (Kd.R_set (Kd.R_set HR7.out H0.out.tx ht9.out 7 (.slice A7 rs.length c7)) (H0.out.set7 _).tx ht9.out 8 (.slice A8 ws.length c8)) ((H0.out.set7 _).set8 _).tx ht9.out 0 (.int .i64 kd))) hB) HB7.out))
       have T8 := Lib.hid (Kd.R_tight rfl (Kd.R_lower (Kd.R_below (Kd.R_drew (Kd.R_set (Kd.R_set (Kd.R_set HR8.out H0.out.tx ht9.out 7 (.slice A7 rs.length c7)) (H0.out.set7 _).tx ht9.out 8 (.slice A8 ws.length c8)) ((H0.out.set7 _).set8 _).tx ht9.out 0 (.int .i64 kd))) hB) HB8.out))
       have P7 := Lib.hid (apart_of HN7.out (Kd.R_base HR8.out))
       have HX := Lib.hid ((HX.out.step ((Below.refl _ _).drew)).step hB)
       clear C7 C8
       clear hB
       have y0 := blk_cell HX.out.tx 0; have z0 := blk_frozen HX.out.tx 0; simp only [List.getElem?_toArray, List.getElem?_cons_zero, List.getElem?_cons_succ] at y0
       have y1 := blk_cell HX.out.tx 1; have z1 := blk_frozen HX.out.tx 1; simp only [List.getElem?_toArray, List.getElem?_cons_zero, List.getElem?_cons_succ] at y1
       have y2 := blk_cell HX.out.tx 2; have z2 := blk_frozen HX.out.tx 2; simp only [List.getElem?_toArray, List.getElem?_cons_zero, List.getElem?_cons_succ] at y2
       have y3 := blk_cell HX.out.tx 3; have z3 := blk_frozen HX.out.tx 3; simp only [List.getElem?_toArray, List.getElem?_cons_zero, List.getElem?_cons_succ] at y3
       have y4 := blk_cell HX.out.tx 4; have z4 := blk_frozen HX.out.tx 4; simp only [List.getElem?_toArray, List.getElem?_cons_zero, List.getElem?_cons_succ] at y4
       have y5 := blk_cell HX.out.tx 5; have z5 := blk_frozen HX.out.tx 5; simp only [List.getElem?_toArray, List.getElem?_cons_zero, List.getElem?_cons_succ] at y5
       have y6 := blk_cell HX.out.tx 6; have z6 := blk_frozen HX.out.tx 6; simp only [List.getElem?_toArray, List.getElem?_cons_zero, List.getElem?_cons_succ] at y6
       have y7 := blk_cell HX.out.tx 7; have z7 := blk_frozen HX.out.tx 7; simp only [List.getElem?_toArray, List.getElem?_cons_zero, List.getElem?_cons_succ] at y7
       have y8 := blk_cell HX.out.tx 8; have z8 := blk_frozen HX.out.tx 8; simp only [List.getElem?_toArray, List.getElem?_cons_zero, List.getElem?_cons_succ] at y8
       have ye : w3.cell? ⟨w.heap.size + 1, 0, none⟩ = some (.int .i64 0) := blk_cell HX.out.er 0
       have ze := blk_frozen HX.out.er 0
       clear HR7 HR8 HN7 HB7 HB8 HC7 HC8 H0))
  all_goals go_wp2
  all_goals
    refine at_world (Fx.made HX.out T7.out T8.out (.int .i64 kd) (.string f) (.string t) (.int .u64 am) (.int .u64 nc) (.string ky') (.string vl) (.slice A7 rs.length c7) (.slice A8 ws.length c8) (ch kd f t am nc ky' vl rs ws)) ?_
    clear y0 y1 y2 y3 y4 y5 y6 y7 y8 ye z0 z1 z2 z3 z4 z5 z6 z7 z8 ze u0 u1 u2 u3 u4 u5 u6 u7 u8 t0 t1 t2 t3 t4 t5 t6 t7 t8 q9 HX T7 T8 ht9 d1 d2 h9
    intro Z HZ
    have HZ := Lib.hid HZ
    refine leaves_cons (f := 51) (args := #[.pointer (some ⟨w.heap.size + 1, 0, none⟩)]) (by simp) (by simp [go_sem]) ?_
    refine (caught_idle ⟨w.heap.size + 1, 0, none⟩ _).mono ?_
    rintro e u' w'' ⟨rfl, rfl, rfl⟩
    refine leaves_cons (f := 50) (args := #[.pointer (some ⟨w.heap.size + 1, 0, none⟩), .pointer (some ⟨w.heap.size, 0, none⟩)]) (by simp [settle]) (by simp [go_sem]) ?_
    by_cases hc : ch kd f t am nc ky' vl rs ws = 0
    · have hze := HZ.out.er
      rw [hc] at hze
      refine (undo_no (w.heap.size + 1) w.heap.size _ hze).mono ?_
      rintro e u' w'' ⟨rfl, rfl, rfl⟩
      have hz := HZ.out.tx
      have e0 := blk_cell hz 0
      have e1 := blk_cell hz 1
      have e2 := blk_cell hz 2
      have e3 := blk_cell hz 3
      have e4 := blk_cell hz 4
      have e5 := blk_cell hz 5
      have e6 := blk_cell hz 6
      have e7 := blk_cell hz 7
      have e8 := blk_cell hz 8
      have e9 := blk_cell hze 0
      simp only [List.getElem?_toArray, List.getElem?_cons_zero, List.getElem?_cons_succ] at e0 e1 e2 e3 e4 e5 e6 e7 e8 e9
      clear hz hze
      rw [fin9, if_pos hc]
      clear hc
      simp [Leaves, settle, results, Tryd.results25, go_sem, e0, e1, e2, e3, e4, e5, e6, e7, e8, e9]
      exact ⟨_, _, rfl, Kd.R_reok rfl HZ.out.r7 P7.out.1, Kd.R_reok rfl HZ.out.r8 P7.out.2, HZ.out.low⟩
    · rw [fin9, if_neg hc]
      refine (undo_yes (w.heap.size + 1) w.heap.size _ hc _ _ _ _ _ _ _ _ _ _ HZ.out.er HZ.out.tx).mono ?_
      rintro e u' w'' ⟨rfl, rfl, rfl⟩
      have hz := zset_box _ w.heap.size _ _ _ _ _ _ _ _ _ HZ.out.tx
      have hze := (zset_blk _ w.heap.size (w.heap.size + 1) (by omega)).trans HZ.out.er
      have hzb := zset_below HZ.out.low (Nat.le_refl _)
      generalize ch kd f t am nc ky' vl rs ws = x at hze hc ⊢
      clear HZ
      generalize zset _ w.heap.size = Y at hz hze hzb ⊢
      have d0 : Y.cell? ⟨w.heap.size, 0, none⟩ = some (.int .i64 0) := blk_cell hz 0
      have d1 : Y.cell? ⟨w.heap.size, 1, none⟩ = some (.string ⟨#[]⟩) := blk_cell hz 1
      have d2 : Y.cell? ⟨w.heap.size, 2, none⟩ = some (.string ⟨#[]⟩) := blk_cell hz 2
      have d3 : Y.cell? ⟨w.heap.size, 3, none⟩ = some (.int .u64 0) := blk_cell hz 3
      have d4 : Y.cell? ⟨w.heap.size, 4, none⟩ = some (.int .u64 0) := blk_cell hz 4
      have d5 : Y.cell? ⟨w.heap.size, 5, none⟩ = some (.string ⟨#[]⟩) := blk_cell hz 5
      have d6 : Y.cell? ⟨w.heap.size, 6, none⟩ = some (.string ⟨#[]⟩) := blk_cell hz 6
      have d7 : Y.cell? ⟨w.heap.size, 7, none⟩ = some (.slice none 0 0) := blk_cell hz 7
      have d8 : Y.cell? ⟨w.heap.size, 8, none⟩ = some (.slice none 0 0) := blk_cell hz 8
      have de : Y.cell? ⟨w.heap.size + 1, 0, none⟩ = some (.int .i64 x) := blk_cell hze 0
      clear hz hze
      have HZ := Lib.hid hzb
      clear hzb hc
      simp [Leaves, settle, results, Tryd.results25, go_sem, d0, d1, d2, d3, d4, d5, d6, d7, d8, de]
      exact DP_err _ rfl HZ.out
end Go.Proofs.YtndicjikjcifaaaDoor
/- tx.Decode: all ways joined. -/
namespace Go.Proofs.YtndicjikjcifaaaDoor
open Go.RowKit Go.Shelf Go.Lib Go.Proofs.YtndicjikjcifaaaDoorW.PrintWords Go.Proofs.YtndicjikjcifaaaDoorW.PrintLast
set_option linter.unusedVariables false
set_option linter.unusedSimpArgs false
def bindE {α : Type} (x : α × Int × Int) (s : ByteArray) (k : α → ByteArray → Dec) : Dec := if x.2.2 = 0 then k x.1 (rest s x.2.1) else derr x.2.2
theorem bindE_no {α : Type} {x : α × Int × Int} {s : ByteArray} {k : α → ByteArray → Dec} (h : x.2.2 ≠ 0) : bindE x s k = derr x.2.2 := if_neg h
theorem bindE_ok {α : Type} {x : α × Int × Int} {s s' : ByteArray} {k : α → ByteArray → Dec} {a : α} {n : Int} (h : x = (a, n, 0)) (hr : rest s n = s') : bindE x s k = k a s' := by
  subst h
  subst hr
  exact if_pos rfl
theorem ok_of {α : Type} {x : α × Int × Int} (h : x.2.2 = 0) : ∃ a n, x = (a, n, 0) := ⟨x.1, x.2.1, by rw [← h]⟩
def dec (s : ByteArray) : Dec :=
  bindE (gi s 9 0 0) s fun kd s1 => bindE (gt s1) s1 fun f s2 => bindE (gt s2) s2 fun t s3 => bindE (gi s3 9 0 0) s3 fun am s4 => bindE (gi s4 9 0 0) s4 fun nc s5 =>
  bindE (gt s5) s5 fun ky' s6 => bindE (gt s6) s6 fun vl s7 => bindE (gl s7 8) s7 fun rs s8 => bindE (gl s8 8) s8 fun ws s9 =>
  if kd ≤ 2 then (if s9.toList.isEmpty = true then fin9 kd f t am nc ky' vl rs ws else derr 6) else derr 2
theorem dec_calls (s : ByteArray) (w : World) (hs : s.size < 4611686018427387904) :
    Calls Tryd.prog 25 #[.string s] w fun e w' => DP (dec s) w e w' := by
  have D : dec s = dec s := rfl
  conv at D => rhs; unfold dec
  by_cases h1 : (gi s 9 0 0).2.2 = 0
  case neg =>
    rw [D.trans (bindE_no h1)]
    exact (dec_no1 s w (Lib.hid h1)).mono fun e w' h => DP_err _ h.1 h.2
  obtain ⟨kd, k1, E1⟩ := ok_of h1
  have hkd := (gi_ok s 9 0 0 (by omega) h1).1
  rw [E1] at hkd
  obtain ⟨s1, R1⟩ : ∃ s1, rest s k1 = s1 := ⟨_, rfl⟩
  have Z1 : s1.size < 4611686018427387904 := by have := rest_size s k1; rw [R1] at this; omega
  have D := D.trans (bindE_ok E1 R1)
  clear h1
  by_cases h2 : (gt s1).2.2 = 0
  case neg =>
    rw [D.trans (bindE_no h2)]
    exact (dec_no2 s s1 kd k1 w (Lib.hid E1) (Lib.hid R1) (Lib.hid Z1) (Lib.hid h2)).mono fun e w' h => DP_err _ h.1 h.2
  obtain ⟨f, k2, E2⟩ := ok_of h2
  obtain ⟨s2, R2⟩ : ∃ s2, rest s1 k2 = s2 := ⟨_, rfl⟩
  have Z2 : s2.size < 4611686018427387904 := by have := rest_size s1 k2; rw [R2] at this; omega
  have D := D.trans (bindE_ok E2 R2)
  clear h2
  by_cases h3 : (gt s2).2.2 = 0
  case neg =>
    rw [D.trans (bindE_no h3)]
    exact (dec_no3 s s1 s2 kd k1 f k2 w (Lib.hid E1) (Lib.hid R1) (Lib.hid Z1) (Lib.hid E2) (Lib.hid R2) (Lib.hid Z2) (Lib.hid h3)).mono fun e w' h => DP_err _ h.1 h.2
  obtain ⟨t, k3, E3⟩ := ok_of h3
  obtain ⟨s3, R3⟩ : ∃ s3, rest s2 k3 = s3 := ⟨_, rfl⟩
  have Z3 : s3.size < 4611686018427387904 := by have := rest_size s2 k3; rw [R3] at this; omega
  have D := D.trans (bindE_ok E3 R3)
  clear h3
  by_cases h4 : (gi s3 9 0 0).2.2 = 0
  case neg =>
    rw [D.trans (bindE_no h4)]
    exact (dec_no4 s s1 s2 s3 kd k1 f k2 t k3 w (Lib.hid E1) (Lib.hid R1) (Lib.hid Z1) (Lib.hid E2) (Lib.hid R2) (Lib.hid Z2) (Lib.hid E3) (Lib.hid R3) (Lib.hid Z3) (Lib.hid h4)).mono fun e w' h => DP_err _ h.1 h.2
  obtain ⟨am, k4, E4⟩ := ok_of h4
  obtain ⟨s4, R4⟩ : ∃ s4, rest s3 k4 = s4 := ⟨_, rfl⟩
  have Z4 : s4.size < 4611686018427387904 := by have := rest_size s3 k4; rw [R4] at this; omega
  have D := D.trans (bindE_ok E4 R4)
  clear h4
  by_cases h5 : (gi s4 9 0 0).2.2 = 0
  case neg =>
    rw [D.trans (bindE_no h5)]
    exact (dec_no5 s s1 s2 s3 s4 kd k1 f k2 t k3 am k4 w (Lib.hid E1) (Lib.hid R1) (Lib.hid Z1) (Lib.hid E2) (Lib.hid R2) (Lib.hid Z2) (Lib.hid E3) (Lib.hid R3) (Lib.hid Z3) (Lib.hid E4) (Lib.hid R4) (Lib.hid Z4) (Lib.hid h5)).mono fun e w' h => DP_err _ h.1 h.2
  obtain ⟨nc, k5, E5⟩ := ok_of h5
  obtain ⟨s5, R5⟩ : ∃ s5, rest s4 k5 = s5 := ⟨_, rfl⟩
  have Z5 : s5.size < 4611686018427387904 := by have := rest_size s4 k5; rw [R5] at this; omega
  have D := D.trans (bindE_ok E5 R5)
  clear h5
  by_cases h6 : (gt s5).2.2 = 0
  case neg =>
    rw [D.trans (bindE_no h6)]
    exact (dec_no6 s s1 s2 s3 s4 s5 kd k1 f k2 t k3 am k4 nc k5 w (Lib.hid E1) (Lib.hid R1) (Lib.hid Z1) (Lib.hid E2) (Lib.hid R2) (Lib.hid Z2) (Lib.hid E3) (Lib.hid R3) (Lib.hid Z3) (Lib.hid E4) (Lib.hid R4) (Lib.hid Z4) (Lib.hid E5) (Lib.hid R5) (Lib.hid Z5) (Lib.hid h6)).mono fun e w' h => DP_err _ h.1 h.2
  obtain ⟨ky', k6, E6⟩ := ok_of h6
  obtain ⟨s6, R6⟩ : ∃ s6, rest s5 k6 = s6 := ⟨_, rfl⟩
  have Z6 : s6.size < 4611686018427387904 := by have := rest_size s5 k6; rw [R6] at this; omega
  have D := D.trans (bindE_ok E6 R6)
  clear h6
  by_cases h7 : (gt s6).2.2 = 0
  case neg =>
    rw [D.trans (bindE_no h7)]
    exact (dec_no7 s s1 s2 s3 s4 s5 s6 kd k1 f k2 t k3 am k4 nc k5 ky' k6 w (Lib.hid E1) (Lib.hid R1) (Lib.hid Z1) (Lib.hid E2) (Lib.hid R2) (Lib.hid Z2) (Lib.hid E3) (Lib.hid R3) (Lib.hid Z3) (Lib.hid E4) (Lib.hid R4) (Lib.hid Z4) (Lib.hid E5) (Lib.hid R5) (Lib.hid Z5) (Lib.hid E6) (Lib.hid R6) (Lib.hid Z6) (Lib.hid h7)).mono fun e w' h => DP_err _ h.1 h.2
  obtain ⟨vl, k7, E7⟩ := ok_of h7
  obtain ⟨s7, R7⟩ : ∃ s7, rest s6 k7 = s7 := ⟨_, rfl⟩
  have Z7 : s7.size < 4611686018427387904 := by have := rest_size s6 k7; rw [R7] at this; omega
  have D := D.trans (bindE_ok E7 R7)
  clear h7
  by_cases h8 : (gl s7 8).2.2 = 0
  case neg =>
    rw [D.trans (bindE_no h8)]
    exact (dec_no8 s s1 s2 s3 s4 s5 s6 s7 kd k1 f k2 t k3 am k4 nc k5 ky' k6 vl k7 w (Lib.hid E1) (Lib.hid R1) (Lib.hid Z1) (Lib.hid E2) (Lib.hid R2) (Lib.hid Z2) (Lib.hid E3) (Lib.hid R3) (Lib.hid Z3) (Lib.hid E4) (Lib.hid R4) (Lib.hid Z4) (Lib.hid E5) (Lib.hid R5) (Lib.hid Z5) (Lib.hid E6) (Lib.hid R6) (Lib.hid Z6) (Lib.hid E7) (Lib.hid R7) (Lib.hid Z7) (Lib.hid h8)).mono fun e w' h => DP_err _ h.1 h.2
  obtain ⟨rs, k8, E8⟩ := ok_of h8
  obtain ⟨s8, R8⟩ : ∃ s8, rest s7 k8 = s8 := ⟨_, rfl⟩
  have Z8 : s8.size < 4611686018427387904 := by have := rest_size s7 k8; rw [R8] at this; omega
  have D := D.trans (bindE_ok E8 R8)
  clear h8
  by_cases h9 : (gl s8 8).2.2 = 0
  case neg =>
    rw [D.trans (bindE_no h9)]
    exact (dec_no9 s s1 s2 s3 s4 s5 s6 s7 s8 kd k1 f k2 t k3 am k4 nc k5 ky' k6 vl k7 rs k8 w (Lib.hid E1) (Lib.hid R1) (Lib.hid Z1) (Lib.hid E2) (Lib.hid R2) (Lib.hid Z2) (Lib.hid E3) (Lib.hid R3) (Lib.hid Z3) (Lib.hid E4) (Lib.hid R4) (Lib.hid Z4) (Lib.hid E5) (Lib.hid R5) (Lib.hid Z5) (Lib.hid E6) (Lib.hid R6) (Lib.hid Z6) (Lib.hid E7) (Lib.hid R7) (Lib.hid Z7) (Lib.hid E8) (Lib.hid R8) (Lib.hid Z8) (Lib.hid h9)).mono fun e w' h => DP_err _ h.1 h.2
  obtain ⟨ws, k9, E9⟩ := ok_of h9
  obtain ⟨s9, R9⟩ : ∃ s9, rest s8 k9 = s9 := ⟨_, rfl⟩
  have Z9 : s9.size < 4611686018427387904 := by have := rest_size s8 k9; rw [R9] at this; omega
  have D := D.trans (bindE_ok E9 R9)
  clear h9
  rw [D]
  clear D
  by_cases hk : kd ≤ 2
  case neg =>
    rw [if_neg hk]
    exact (dec_kind s s1 s2 s3 s4 s5 s6 s7 s8 s9 kd k1 f k2 t k3 am k4 nc k5 ky' k6 vl k7 rs k8 ws k9 w (Lib.hid E1) (Lib.hid R1) (Lib.hid Z1) (Lib.hid E2) (Lib.hid R2) (Lib.hid Z2) (Lib.hid E3) (Lib.hid R3) (Lib.hid Z3) (Lib.hid E4) (Lib.hid R4) (Lib.hid Z4) (Lib.hid E5) (Lib.hid R5) (Lib.hid Z5) (Lib.hid E6) (Lib.hid R6) (Lib.hid Z6) (Lib.hid E7) (Lib.hid R7) (Lib.hid Z7) (Lib.hid E8) (Lib.hid R8) (Lib.hid Z8) (Lib.hid E9) (Lib.hid R9) (Lib.hid Z9) hk).mono fun e w' h => DP_err _ h.1 h.2
  rw [if_pos hk]
  cases hm : s9.toList.isEmpty with
  | false =>
    rw [if_neg (by simp)]
    exact (dec_more s s1 s2 s3 s4 s5 s6 s7 s8 s9 kd k1 f k2 t k3 am k4 nc k5 ky' k6 vl k7 rs k8 ws k9 w (Lib.hid E1) (Lib.hid R1) (Lib.hid Z1) (Lib.hid E2) (Lib.hid R2) (Lib.hid Z2) (Lib.hid E3) (Lib.hid R3) (Lib.hid Z3) (Lib.hid E4) (Lib.hid R4) (Lib.hid Z4) (Lib.hid E5) (Lib.hid R5) (Lib.hid Z5) (Lib.hid E6) (Lib.hid R6) (Lib.hid Z6) (Lib.hid E7) (Lib.hid R7) (Lib.hid Z7) (Lib.hid E8) (Lib.hid R8) (Lib.hid Z8) (Lib.hid E9) (Lib.hid R9) (Lib.hid Z9) hk hm).mono fun e w' h => DP_err _ h.1 h.2
  | true =>
    rw [if_pos rfl]
    exact dec_chk s s1 s2 s3 s4 s5 s6 s7 s8 s9 kd k1 f k2 t k3 am k4 nc k5 ky' k6 vl k7 rs k8 ws k9 w (Lib.hid E1) (Lib.hid R1) (Lib.hid Z1) (Lib.hid E2) (Lib.hid R2) (Lib.hid Z2) (Lib.hid E3) (Lib.hid R3) (Lib.hid Z3) (Lib.hid E4) (Lib.hid R4) (Lib.hid Z4) (Lib.hid E5) (Lib.hid R5) (Lib.hid Z5) (Lib.hid E6) (Lib.hid R6) (Lib.hid Z6) (Lib.hid E7) (Lib.hid R7) (Lib.hid Z7) (Lib.hid E8) (Lib.hid R8) (Lib.hid Z8) (Lib.hid E9) (Lib.hid R9) (Lib.hid Z9) hk hkd hm
end Go.Proofs.YtndicjikjcifaaaDoor

/- tuskref04.In: its four methods, in total form. -/
namespace Go.Proofs.YtndicjikjcifaaaDoor
open Go.RowKit Go.Shelf Go.Lib Go.Proofs.YtndicjikjcifaaaDoorW.PrintWords Go.Proofs.YtndicjikjcifaaaDoorW.PrintLast
set_option linter.unusedVariables false
set_option linter.unusedSimpArgs false
def inG {α : Type} (z : α) (g : ByteArray → α × Int × Int) (S : ByteArray) (E : Int) : α × ByteArray × Int := if E = 0 then ((g S).1, rest S (g S).2.1, (g S).2.2) else (z, S, E)
structure Ri (p : Nat) (S : ByteArray) (E : Int) (w w' : World) : Prop where
  box : w'.heap[p]? = some (.cells #[.string S, .int .i64 E] 84 (0, 0))
  only : Only (fun k => k = p) w w'
theorem Ri.of_below {p : Nat} {S S' : ByteArray} {E E' : Int} {w w1 : World} (h : w1.heap[p]? = some (.cells #[.string S, .int .i64 E] 84 (0, 0))) (hd : Below w.heap.size w w1) :
    Ri p S' E' w ((w1.setCell ⟨p, 1, none⟩ (.int .i64 E')).setCell ⟨p, 0, none⟩ (.string S')) :=
  ⟨by simpa using blk_set (blk_set h 1 (.int .i64 E')) 0 (.string S'), ((Only.of_below (S := fun k => k = p) hd).set (p := ⟨p, 1, none⟩) (.inl rfl) _).set (p := ⟨p, 0, none⟩) (.inl rfl) _⟩
theorem Ri.same {p : Nat} {S : ByteArray} {E : Int} {w : World} (h : w.heap[p]? = some (.cells #[.string S, .int .i64 E] 84 (0, 0))) : Ri p S E w w := ⟨h, Only.refl _ _⟩
end Go.Proofs.YtndicjikjcifaaaDoor

/- tuskref04.Decode: the walk. (Laid by wip/tools/refdecgen.py.) -/
namespace Go.Proofs.YtndicjikjcifaaaDoor
open Go.RowKit Go.Shelf Go.Lib Go.Proofs.YtndicjikjcifaaaDoorW.PrintWords Go.Proofs.YtndicjikjcifaaaDoorW.PrintLast
set_option linter.unusedVariables false
set_option linter.unusedSimpArgs false
structure Dy (w : World) (b0 b1 b2 b3 b4 b5 b6 b7 b8 : Value) (s : ByteArray) (E : Int) (W : World) : Prop where
  low : Below w.heap.size w W
  res : W.heap[w.heap.size]? = some (.cells #[.int .i64 0, .string ⟨#[]⟩, .string ⟨#[]⟩, .int .u64 0, .int .u64 0, .string ⟨#[]⟩, .string ⟨#[]⟩, .slice none 0 0, .slice none 0 0] 33 (0, 0))
  inn : W.heap[w.heap.size + 1]? = some (.cells #[.string s, .int .i64 E] 84 (0, 0))
  tx : W.heap[w.heap.size + 1 + 1]? = some (.cells #[b0, b1, b2, b3, b4, b5, b6, b7, b8] 33 (0, 0))
theorem below_low {w W W' : World} {B : Nat} (h : Below B w W) (hb : Below B W W') : Below B w W' :=
  h.trans hb
theorem Dy.size {w W : World} {b0 b1 b2 b3 b4 b5 b6 b7 b8 : Value} {s : ByteArray} {E : Int} (h : Dy w b0 b1 b2 b3 b4 b5 b6 b7 b8 s E W) : w.heap.size + 1 + 1 < W.heap.size := blk_lt h.tx
theorem Dy.read {w W W' : World} {b0 b1 b2 b3 b4 b5 b6 b7 b8 : Value} {s s' : ByteArray} {E E' : Int} (h : Dy w b0 b1 b2 b3 b4 b5 b6 b7 b8 s E W) (hr : Ri (w.heap.size + 1) s' E' W W') : Dy w b0 b1 b2 b3 b4 b5 b6 b7 b8 s' E' W' :=
  ⟨below_low h.low (hr.only.below (B := w.heap.size) h.low.size (fun i hi => by omega)), (hr.only.block _ (blk_lt h.res) (by omega)).trans h.res, hr.box, (hr.only.block _ (blk_lt h.tx) (by omega)).trans h.tx⟩
theorem Dy.step {w W W' : World} {b0 b1 b2 b3 b4 b5 b6 b7 b8 : Value} {s : ByteArray} {E : Int} (h : Dy w b0 b1 b2 b3 b4 b5 b6 b7 b8 s E W) (hb : Below W.heap.size W W') : Dy w b0 b1 b2 b3 b4 b5 b6 b7 b8 s E W' :=
  ⟨below_then h.low h.low.size hb, (hb.block _ (blk_lt h.res)).trans h.res, (hb.block _ (blk_lt h.inn)).trans h.inn, (hb.block _ (blk_lt h.tx)).trans h.tx⟩
theorem Dy.set0 {w W : World} {b0 b1 b2 b3 b4 b5 b6 b7 b8 : Value} {s : ByteArray} {E : Int} (h : Dy w b0 b1 b2 b3 b4 b5 b6 b7 b8 s E W) (v : Value) : Dy w v b1 b2 b3 b4 b5 b6 b7 b8 s E (W.setCell ⟨w.heap.size + 1 + 1, 0, none⟩ v) :=
  ⟨h.low.setCell (by simp; omega) v, (Below.heap_setCell _ _ _ _ (by simp; omega)).trans h.res, (Below.heap_setCell _ _ _ _ (by simp)).trans h.inn, by simpa using blk_set h.tx 0 v⟩
theorem Dy.set1 {w W : World} {b0 b1 b2 b3 b4 b5 b6 b7 b8 : Value} {s : ByteArray} {E : Int} (h : Dy w b0 b1 b2 b3 b4 b5 b6 b7 b8 s E W) (v : Value) : Dy w b0 v b2 b3 b4 b5 b6 b7 b8 s E (W.setCell ⟨w.heap.size + 1 + 1, 1, none⟩ v) :=
  ⟨h.low.setCell (by simp; omega) v, (Below.heap_setCell _ _ _ _ (by simp; omega)).trans h.res, (Below.heap_setCell _ _ _ _ (by simp)).trans h.inn, by simpa using blk_set h.tx 1 v⟩
theorem Dy.set2 {w W : World} {b0 b1 b2 b3 b4 b5 b6 b7 b8 : Value} {s : ByteArray} {E : Int} (h : Dy w b0 b1 b2 b3 b4 b5 b6 b7 b8 s E W) (v : Value) : Dy w b0 b1 v b3 b4 b5 b6 b7 b8 s E (W.setCell ⟨w.heap.size + 1 + 1, 2, none⟩ v) :=
  ⟨h.low.setCell (by simp; omega) v, (Below.heap_setCell _ _ _ _ (by simp; omega)).trans h.res, (Below.heap_setCell _ _ _ _ (by simp)).trans h.inn, by simpa using blk_set h.tx 2 v⟩
theorem Dy.set3 {w W : World} {b0 b1 b2 b3 b4 b5 b6 b7 b8 : Value} {s : ByteArray} {E : Int} (h : Dy w b0 b1 b2 b3 b4 b5 b6 b7 b8 s E W) (v : Value) : Dy w b0 b1 b2 v b4 b5 b6 b7 b8 s E (W.setCell ⟨w.heap.size + 1 + 1, 3, none⟩ v) :=
  ⟨h.low.setCell (by simp; omega) v, (Below.heap_setCell _ _ _ _ (by simp; omega)).trans h.res, (Below.heap_setCell _ _ _ _ (by simp)).trans h.inn, by simpa using blk_set h.tx 3 v⟩
theorem Dy.set4 {w W : World} {b0 b1 b2 b3 b4 b5 b6 b7 b8 : Value} {s : ByteArray} {E : Int} (h : Dy w b0 b1 b2 b3 b4 b5 b6 b7 b8 s E W) (v : Value) : Dy w b0 b1 b2 b3 v b5 b6 b7 b8 s E (W.setCell ⟨w.heap.size + 1 + 1, 4, none⟩ v) :=
  ⟨h.low.setCell (by simp; omega) v, (Below.heap_setCell _ _ _ _ (by simp; omega)).trans h.res, (Below.heap_setCell _ _ _ _ (by simp)).trans h.inn, by simpa using blk_set h.tx 4 v⟩
theorem Dy.set5 {w W : World} {b0 b1 b2 b3 b4 b5 b6 b7 b8 : Value} {s : ByteArray} {E : Int} (h : Dy w b0 b1 b2 b3 b4 b5 b6 b7 b8 s E W) (v : Value) : Dy w b0 b1 b2 b3 b4 v b6 b7 b8 s E (W.setCell ⟨w.heap.size + 1 + 1, 5, none⟩ v) :=
  ⟨h.low.setCell (by simp; omega) v, (Below.heap_setCell _ _ _ _ (by simp; omega)).trans h.res, (Below.heap_setCell _ _ _ _ (by simp)).trans h.inn, by simpa using blk_set h.tx 5 v⟩
theorem Dy.set6 {w W : World} {b0 b1 b2 b3 b4 b5 b6 b7 b8 : Value} {s : ByteArray} {E : Int} (h : Dy w b0 b1 b2 b3 b4 b5 b6 b7 b8 s E W) (v : Value) : Dy w b0 b1 b2 b3 b4 b5 v b7 b8 s E (W.setCell ⟨w.heap.size + 1 + 1, 6, none⟩ v) :=
  ⟨h.low.setCell (by simp; omega) v, (Below.heap_setCell _ _ _ _ (by simp; omega)).trans h.res, (Below.heap_setCell _ _ _ _ (by simp)).trans h.inn, by simpa using blk_set h.tx 6 v⟩
theorem Dy.set7 {w W : World} {b0 b1 b2 b3 b4 b5 b6 b7 b8 : Value} {s : ByteArray} {E : Int} (h : Dy w b0 b1 b2 b3 b4 b5 b6 b7 b8 s E W) (v : Value) : Dy w b0 b1 b2 b3 b4 b5 b6 v b8 s E (W.setCell ⟨w.heap.size + 1 + 1, 7, none⟩ v) :=
  ⟨h.low.setCell (by simp; omega) v, (Below.heap_setCell _ _ _ _ (by simp; omega)).trans h.res, (Below.heap_setCell _ _ _ _ (by simp)).trans h.inn, by simpa using blk_set h.tx 7 v⟩
theorem Dy.set8 {w W : World} {b0 b1 b2 b3 b4 b5 b6 b7 b8 : Value} {s : ByteArray} {E : Int} (h : Dy w b0 b1 b2 b3 b4 b5 b6 b7 b8 s E W) (v : Value) : Dy w b0 b1 b2 b3 b4 b5 b6 b7 v s E (W.setCell ⟨w.heap.size + 1 + 1, 8, none⟩ v) :=
  ⟨h.low.setCell (by simp; omega) v, (Below.heap_setCell _ _ _ _ (by simp; omega)).trans h.res, (Below.heap_setCell _ _ _ _ (by simp)).trans h.inn, by simpa using blk_set h.tx 8 v⟩
theorem Ri.row {p : Nat} {S S' : ByteArray} {E E' : Int} {w w' : World} (h : Ri p S' E' w w') (hb : w.heap[p]? = some (.cells #[.string S, .int .i64 E] 84 (0, 0))) {base : Nat} {v : Value} {xs : List ByteArray}
    (hR : Kd.R Kd.string 9 w base (fun k => some k = v.ownBlock) v xs) : Kd.R Kd.string 9 w' base (fun k => some k = v.ownBlock) v xs :=
  Kd.R_only hR h.only (fun k hk e => Kd.R_ne hR hb (by decide) (by rw [← hk, e]))
theorem Dy.first (w : World) (s : ByteArray) : Dy w (.int .i64 0) (.string ⟨#[]⟩) (.string ⟨#[]⟩) (.int .u64 0) (.int .u64 0) (.string ⟨#[]⟩) (.string ⟨#[]⟩) (.slice none 0 0) (.slice none 0 0) s 0
    (((w.alloc (.cells #[.int .i64 0, .string ⟨#[]⟩, .string ⟨#[]⟩, .int .u64 0, .int .u64 0, .string ⟨#[]⟩, .string ⟨#[]⟩, .slice none 0 0, .slice none 0 0] 33)).alloc (.cells #[.string s, .int .i64 0] 84)).alloc (.cells #[.int .i64 0, .string ⟨#[]⟩, .string ⟨#[]⟩, .int .u64 0, .int .u64 0, .string ⟨#[]⟩, .string ⟨#[]⟩, .slice none 0 0, .slice none 0 0] 33)) :=
  ⟨(((Below.refl _ w).alloc (Nat.le_refl _) _).alloc (by simp) _).alloc (by simp; omega) _, blk_alloc (blk_alloc (blk_new _ _) _) _, blk_alloc (blk_newAt _ _ (by simp)) _, blk_newAt _ _ (by simp)⟩
def fin2 (e9 kd : Int) (f t : ByteArray) (am nc : Int) (ky' vl : ByteArray) (rs ws : List ByteArray) (s9 : ByteArray) : Dec :=
  if e9 ≠ 0 then derr e9 else if kd ≤ 2 then (if s9.toList.isEmpty = true then fin9 kd f t am nc ky' vl rs ws else derr 6) else derr 2
structure Dz (w : World) (b0 b1 b2 b3 b4 b5 b6 b7 b8 : Value) (s : ByteArray) (E : Int) (rs ws : List ByteArray) (W : World) : Prop where
  y : Dy w b0 b1 b2 b3 b4 b5 b6 b7 b8 s E W
  r7 : Kd.R Kd.string 9 W w.heap.size (fun k => some k = b7.ownBlock) b7 rs
  r8 : Kd.R Kd.string 9 W w.heap.size (fun k => some k = b8.ownBlock) b8 ws
theorem Dz.read {w W W' : World} {b0 b1 b2 b3 b4 b5 b6 b7 b8 : Value} {s s' : ByteArray} {E E' : Int} {rs ws : List ByteArray} (h : Dz w b0 b1 b2 b3 b4 b5 b6 b7 b8 s E rs ws W) (hr : Ri (w.heap.size + 1) s' E' W W') : Dz w b0 b1 b2 b3 b4 b5 b6 b7 b8 s' E' rs ws W' :=
  ⟨h.y.read hr, hr.row h.y.inn h.r7, hr.row h.y.inn h.r8⟩
theorem Dz.step {w W W' : World} {b0 b1 b2 b3 b4 b5 b6 b7 b8 : Value} {s : ByteArray} {E : Int} {rs ws : List ByteArray} (h : Dz w b0 b1 b2 b3 b4 b5 b6 b7 b8 s E rs ws W) (hb : Below W.heap.size W W') : Dz w b0 b1 b2 b3 b4 b5 b6 b7 b8 s E rs ws W' :=
  ⟨h.y.step hb, Kd.R_below h.r7 hb, Kd.R_below h.r8 hb⟩
theorem Dz.set0 {w W : World} {b0 b1 b2 b3 b4 b5 b6 b7 b8 : Value} {s : ByteArray} {E : Int} {rs ws : List ByteArray} (h : Dz w b0 b1 b2 b3 b4 b5 b6 b7 b8 s E rs ws W) (v : Value) : Dz w v b1 b2 b3 b4 b5 b6 b7 b8 s E rs ws (W.setCell ⟨w.heap.size + 1 + 1, 0, none⟩ v) :=
  have ht : ∀ q, q ∈ 9 :: Kd.string.E → q ≠ 33 := by intro q hq; simp [Kd.string, Kd.scalar] at hq; subst hq; decide
  ⟨h.y.set0 v, Kd.R_set h.r7 h.y.tx ht _ _, Kd.R_set h.r8 h.y.tx ht _ _⟩
structure RdFr (w : World) (c : Array Value) (b7 b8 : Value) (rs ws : List ByteArray) (W : World) : Prop where
  low : Below w.heap.size w W
  res : W.heap[w.heap.size]? = some (.cells c 33 (0, 0))
  r7 : Kd.R Kd.string 9 W w.heap.size (fun k => some k = b7.ownBlock) b7 rs
  r8 : Kd.R Kd.string 9 W w.heap.size (fun k => some k = b8.ownBlock) b8 ws
theorem RdFr.set {w W : World} {c : Array Value} {b7 b8 : Value} {rs ws : List ByteArray} (h : RdFr w c b7 b8 rs ws W) (i : Nat) (v : Value) : RdFr w (c.setIfInBounds i v) b7 b8 rs ws (W.setCell ⟨w.heap.size, i, none⟩ v) :=
  have ht : ∀ q, q ∈ 9 :: Kd.string.E → q ≠ 33 := by intro q hq; simp [Kd.string, Kd.scalar] at hq; subst hq; decide
  ⟨h.low.setCell (by simp) v, blk_set h.res i v, Kd.R_set h.r7 h.res ht _ _, Kd.R_set h.r8 h.res ht _ _⟩
theorem RdFr.made {w W : World} {b0 b1 b2 b3 b4 b5 b6 b7 b8 : Value} {s : ByteArray} {E : Int} {rs ws : List ByteArray} (h : Dz w b0 b1 b2 b3 b4 b5 b6 b7 b8 s E rs ws W) (c0 c1 c2 c3 c4 c5 c6 c7 c8 : Value) :
    RdFr w #[c0, c1, c2, c3, c4, c5, c6, c7, c8] b7 b8 rs ws (((((((((W.setCell ⟨w.heap.size, 0, none⟩ c0).setCell ⟨w.heap.size, 1, none⟩ c1).setCell ⟨w.heap.size, 2, none⟩ c2).setCell ⟨w.heap.size, 3, none⟩ c3).setCell ⟨w.heap.size, 4, none⟩ c4).setCell ⟨w.heap.size, 5, none⟩ c5).setCell ⟨w.heap.size, 6, none⟩ c6).setCell ⟨w.heap.size, 7, none⟩ c7).setCell ⟨w.heap.size, 8, none⟩ c8) := by
  have h0 : RdFr w _ b7 b8 rs ws W := ⟨h.y.low, h.y.res, h.r7, h.r8⟩
  have := ((((((((h0.set 0 c0).set 1 c1).set 2 c2).set 3 c3).set 4 c4).set 5 c5).set 6 c6).set 7 c7).set 8 c8
  simpa using this
theorem RdFr.drew {w W : World} {c : Array Value} {b7 b8 : Value} {rs ws : List ByteArray} (h : RdFr w c b7 b8 rs ws W) : RdFr w c b7 b8 rs ws W.drew :=
  ⟨h.low.drew, h.res, Kd.R_drew h.r7, Kd.R_drew h.r8⟩
end Go.Proofs.YtndicjikjcifaaaDoor

/- tuskref04.Decode: it answers as tx.Decode. -/
namespace Go.Proofs.YtndicjikjcifaaaDoor
open Go.RowKit Go.Shelf Go.Lib Go.Proofs.YtndicjikjcifaaaDoorW.PrintWords Go.Proofs.YtndicjikjcifaaaDoorW.PrintLast
set_option linter.unusedVariables false
set_option linter.unusedSimpArgs false
def D9 (kd : Int) (f : ByteArray) (t : ByteArray) (am : Int) (nc : Int) (ky' : ByteArray) (vl : ByteArray) (rs : List ByteArray) (ws : List ByteArray) (S : ByteArray) (E : Int) : Dec := fin2 E kd f t am nc ky' vl rs ws S
def D8 (kd : Int) (f : ByteArray) (t : ByteArray) (am : Int) (nc : Int) (ky' : ByteArray) (vl : ByteArray) (rs : List ByteArray) (S : ByteArray) (E : Int) : Dec := D9 kd f t am nc ky' vl rs (inG ([] : List ByteArray) (fun s => gl s 8) S E).1 (inG ([] : List ByteArray) (fun s => gl s 8) S E).2.1 (inG ([] : List ByteArray) (fun s => gl s 8) S E).2.2
def D7 (kd : Int) (f : ByteArray) (t : ByteArray) (am : Int) (nc : Int) (ky' : ByteArray) (vl : ByteArray) (S : ByteArray) (E : Int) : Dec := D8 kd f t am nc ky' vl (inG ([] : List ByteArray) (fun s => gl s 8) S E).1 (inG ([] : List ByteArray) (fun s => gl s 8) S E).2.1 (inG ([] : List ByteArray) (fun s => gl s 8) S E).2.2
end Go.Proofs.YtndicjikjcifaaaDoor

/- batch.Decode: what it answers, in plain words. -/
namespace Go.Proofs.YtndicjikjcifaaaDoor
open Go.RowKit Go.Shelf Go.Lib Go.Proofs.YtndicjikjcifaaaDoorW.PrintWords Go.Proofs.YtndicjikjcifaaaDoorW.PrintLast
open PB (S33 k33)
set_option linter.unusedVariables false
set_option linter.unusedSimpArgs false
theorem bgt_size (a : ByteArray) : (gt a).1.size ≤ a.size := by
  have e : (⟨#[]⟩ : ByteArray).size = 0 := rfl
  unfold gt
  repeat' split
  all_goals first | (simp only [ByteArray.size_extract]; omega) | (simp only [e]; omega)
theorem bglL_size (a : ByteArray) : ∀ c p acc M, a.size ≤ M → (∀ x ∈ acc, x.size ≤ M) → ∀ x ∈ (glL a c p acc).1, x.size ≤ M
  | 0, p, acc, M, hM, h, x, hx => h x hx
  | c + 1, p, acc, M, hM, h, x, hx => by
    rw [glL] at hx
    split at hx
    · refine bglL_size a c _ _ M hM (fun y hy => ?_) x hx
      rcases List.mem_append.1 hy with hy | hy
      · exact h y hy
      · rw [List.mem_singleton.1 hy]
        have := bgt_size (a.extract p a.size)
        rw [ByteArray.size_extract] at this
        omega
    · simp at hx
theorem bgl_size (a : ByteArray) (m : Int) : ∀ x ∈ (gl a m).1, x.size ≤ a.size := by
  intro x hx
  unfold gl at hx
  repeat' split at hx
  · simp at hx
  · exact bglL_size a _ _ _ _ (Nat.le_refl _) (by simp) x hx
  · simp at hx
abbrev BDec := Int × Int × List S33 × Int
def bnil (e : Int) : BDec := (0, 0, [], e)
def toS (r : Dec) : S33 := ⟨r.1, r.2.1, r.2.2.1, r.2.2.2.1, r.2.2.2.2.1, r.2.2.2.2.2.1, r.2.2.2.2.2.2.1, r.2.2.2.2.2.2.2.1, r.2.2.2.2.2.2.2.2.1⟩
def errD (r : Dec) : Int := r.2.2.2.2.2.2.2.2.2
def dall : List ByteArray → List S33 × Int
  | [] => ([], 0)
  | x :: r => if errD (dec x) = 0 then (toS (dec x) :: (dall r).1, (dall r).2) else ([], errD (dec x))
def bfin (a n : Int) (s : ByteArray) (k : Int) (D : List S33 × Int) : BDec :=
  if D.2 = 0 then (if k < (s.size : Int) then bnil 6 else if 6 < a then bnil 2 else if bchk a n D.1 = 0 then (a, n, D.1, 0) else bnil (bchk a n D.1)) else bnil D.2
def bdec2 (a n : Int) (s : ByteArray) : BDec := if (gl s 16).2.2 = 0 then bfin a n s (gl s 16).2.1 (dall (gl s 16).1) else bnil (gl s 16).2.2
def bdec1 (a : Int) (s : ByteArray) : BDec := if (gi s 9 0 0).2.2 = 0 then bdec2 a (gi s 9 0 0).1 (rest s (gi s 9 0 0).2.1) else bnil (gi s 9 0 0).2.2
def bdec (s : ByteArray) : BDec := if (gi s 9 0 0).2.2 = 0 then bdec1 (gi s 9 0 0).1 (rest s (gi s 9 0 0).2.1) else bnil (gi s 9 0 0).2.2
def BP (r : BDec) (w : World) (e : Ending) (w' : World) : Prop :=
  ∃ A c, e = .returned (.tuple #[.agg #[.int .i64 r.1, .int .i64 r.2.1, .slice A r.2.2.1.length c], .int .i64 r.2.2.2]) ∧ r.2.2.1.length ≤ c ∧ Foot (fun W => k33.C W A r.2.2.1.length r.2.2.1) w' (fun k => w.heap.size ≤ k ∧ k < w'.heap.size) ∧ Below w.heap.size w w'
theorem dall_at (l : List ByteArray) (j : Nat) (hj : j < l.length) : l.drop j = rdOf ByteArray.empty l (j : Int) :: l.drop (j + 1) := by
  rw [List.drop_eq_getElem_cons hj]
  congr 1
  simp [rdOf, hj]
theorem bdec_tx (s : ByteArray) (w : World) (hs : s.size < 4611686018427387904) {k0 : Int} {f0 t0 : ByteArray} {am0 nc0 : Int} {ky0 vl0 : ByteArray} {rs0 ws0 : List ByteArray} {er : Int} (hr : dec s = (k0, f0, t0, am0, nc0, ky0, vl0, rs0, ws0, er)) :
    Calls Tryd.prog 25 #[.string s] w fun e w' => ∃ A7 c7 A8 c8, e = .returned (.tuple #[.agg #[.int .i64 k0, .string f0, .string t0, .int .u64 am0, .int .u64 nc0, .string ky0, .string vl0, .slice A7 rs0.length c7, .slice A8 ws0.length c8], .int .i64 er])
      ∧ Kd.F Kd.string w' (fun k => w.heap.size ≤ k ∧ k < w'.heap.size) A7 rs0.length rs0 ∧ rs0.length ≤ c7 ∧ Kd.F Kd.string w' (fun k => w.heap.size ≤ k ∧ k < w'.heap.size) A8 ws0.length ws0 ∧ ws0.length ≤ c8 ∧ Below w.heap.size w w' := by
  refine (dec_calls s w hs).mono fun e w' h => ?_
  rw [hr] at h
  obtain ⟨v8, v9, he, h8, h9, hb⟩ := h
  dsimp only at he h8 h9
  obtain ⟨A7, c7, rfl⟩ := Kd.R_slice h8
  obtain ⟨A8, c8, rfl⟩ := Kd.R_slice h9
  exact ⟨A7, c7, A8, c8, he, Kd.F_mono (Kd.R_F (Kd.R_bound h8)) (fun k hk => ⟨hk.2.1, hk.2.2.1⟩), (Kd.R_reads' h8).2.1, Kd.F_mono (Kd.R_F (Kd.R_bound h9)) (fun k hk => ⟨hk.2.1, hk.2.2.1⟩), (Kd.R_reads' h9).2.1, hb⟩
end Go.Proofs.YtndicjikjcifaaaDoor
/- tuskref04.In: its List, for lists of up to 16; what its methods do, in the small logic. -/
namespace Go.Proofs.YtndicjikjcifaaaDoor
open Go.RowKit Go.Shelf Go.Lib Go.Proofs.YtndicjikjcifaaaDoorW.PrintWords Go.Proofs.YtndicjikjcifaaaDoorW.PrintLast
set_option linter.unusedVariables false
set_option linter.unusedSimpArgs false
end Go.Proofs.YtndicjikjcifaaaDoor
/- The document's reader of batches: the plain law. -/
namespace Go.Proofs.YtndicjikjcifaaaDoor
open Go.RowKit Go.Shelf Go.Lib Go.Proofs.YtndicjikjcifaaaDoorW.PrintWords Go.Proofs.YtndicjikjcifaaaDoorW.PrintLast
open PB (S33 k33)
set_option linter.unusedVariables false
set_option linter.unusedSimpArgs false
end Go.Proofs.YtndicjikjcifaaaDoor

/- tuskref05.Same of the same batch; what batch.Decode's lists are like. -/
namespace Go.Proofs.YtndicjikjcifaaaDoor
open Go.RowKit Go.Proofs.YtndicjikjcifaaaDoorW.PrintWords Go.Proofs.YtndicjikjcifaaaDoorW.PrintLast
open PB (S33 k33)
set_option linter.unusedVariables false
set_option linter.unusedSimpArgs false
theorem bsame1_l (xs : List ByteArray) (hx : xs.length < 4611686018427387904) : ∀ d i K, i + d = xs.length → d + 1 ≤ K → PB.tuskref01_Same.l0 K xs xs i = some true
  | 0, i, 0, hi, hK => by omega
  | 0, i, K + 1, hi, hK => by rw [PB.tuskref01_Same.l0, if_neg (by omega)]
  | d + 1, i, 0, hi, hK => by omega
  | d + 1, i, K + 1, hi, hK => by
    have hw : wrap64 ((i : Int) + 1) = ((i + 1 : Nat) : Int) := by rw [w64 _ (by omega) (by omega)]; push_cast; rfl
    rw [PB.tuskref01_Same.l0, if_pos (by omega), if_pos (by omega), if_pos (by omega), if_pos rfl, hw]
    exact bsame1_l xs hx d (i + 1) K (by omega) (by omega)
theorem bsame1 (xs : List ByteArray) (hx : xs.length < 4611686018427387904) (K : Nat) (hK : xs.length + 1 ≤ K) : PB.tuskref01_Same.f K xs xs = some true := by
  rw [PB.tuskref01_Same.f, if_pos rfl]
  exact bsame1_l xs hx xs.length 0 K (by omega) hK
def LenT (t : S33) : Prop := t.f7.length < 4611686018427387904 ∧ t.f8.length < 4611686018427387904
theorem bsame4 (t : S33) (h : LenT t) (K : Nat) (hK : 4611686018427387904 ≤ K) : PB.tuskref04_Same.f K t.f0 t.f1 t.f2 t.f3 t.f4 t.f5 t.f6 t.f7 t.f8 t.f0 t.f1 t.f2 t.f3 t.f4 t.f5 t.f6 t.f7 t.f8 = some true := by
  rw [PB.tuskref04_Same.f]
  have h7 := h.1
  have h8 := h.2
  simp [bsame1 t.f7 h.1 K (by omega), bsame1 t.f8 h.2 K (by omega)]
theorem bsame_l (a n : Int) (l : List S33) (hl : l.length < 4611686018427387904) (hL : ∀ t ∈ l, LenT t) : ∀ d i K, i + d = l.length → d + 4611686018427387905 ≤ K → PB.tuskref05_Same.l0 K (i : Int) a n l a n l = some true
  | 0, i, 0, hi, hK => by omega
  | 0, i, K + 1, hi, hK => by rw [PB.tuskref05_Same.l0, if_neg (by omega)]
  | d + 1, i, 0, hi, hK => by omega
  | d + 1, i, K + 1, hi, hK => by
    have hw : wrap64 ((i : Int) + 1) = ((i + 1 : Nat) : Int) := by rw [w64 _ (by omega) (by omega)]; push_cast; rfl
    have ht : LenT (PB.rd_T33 l (i : Int)) := by
      have e := drop_rd l i (by omega)
      exact hL _ (List.mem_of_mem_drop (i := i) (by rw [e]; exact List.mem_cons_self))
    rw [PB.tuskref05_Same.l0, if_pos (by omega), if_pos (by omega), if_pos (by omega), bsame4 _ ht K (by omega), Option.bind_some, if_pos rfl, hw]
    exact bsame_l a n l hl hL d (i + 1) K (by omega) (by omega)
theorem bsame_calls (a n : Int) (A A' : Option Addr) (c c' : Nat) (l : List S33) (w : World) (hl : l.length < 4611686018427387904) (hL : ∀ t ∈ l, LenT t) (hr : k33.C w A l.length l) (hc : l.length ≤ c) (hr' : k33.C w A' l.length l) (hc' : l.length ≤ c') :
    Calls Tryd.prog 23 #[.agg #[.int .i64 a, .int .i64 n, .slice A l.length c], .agg #[.int .i64 a, .int .i64 n, .slice A' l.length c']] w fun e w' => e = .returned (.bool true) ∧ Below w.heap.size w w' := by
  refine PB.tuskref05_Same.calls (l.length + 4611686018427387906) a n A c l a n A' c' l true w hr hc hr' hc' ?_
  rw [PB.tuskref05_Same.f, if_pos rfl, if_pos rfl, show l.length + 4611686018427387906 = (l.length + 4611686018427387905) + 1 from rfl, PB.tuskref05_Same.j0, if_neg (by simp)]
  exact bsame_l a n l hl hL l.length 0 _ (by omega) (by omega)
end Go.Proofs.YtndicjikjcifaaaDoor

/- tx.Needs, tx.Fits. -/
namespace Go.Proofs
open Go.Shelf
end Go.Proofs
namespace Go.Proofs.YtndicjikjcifaaaDoor
open Go.RowKit Go.Shelf Go.Lib Go.Sort Go.Proofs.YtndicjikjcifaaaDoorW.PrintWords Go.Proofs.YtndicjikjcifaaaDoorW.PrintLast
set_option linter.unusedVariables false
set_option linter.unusedSimpArgs false
def mn (x y : ByteArray) : ByteArray := if lts y x = true then y else x
def mx (x y : ByteArray) : ByteArray := if lts y x = true then x else y
def one2 (x y : ByteArray) : List ByteArray := if x.toList = y.toList then [x] else [x, y]
def nA (f : ByteArray) : ByteArray := ⟨#[97, 58]⟩ ++ f
def nK (f : ByteArray) : ByteArray := ⟨#[107, 58]⟩ ++ f
def nB (k : Int) (t ky' : ByteArray) : ByteArray := if k = 2 then nK ky' else nA t
def need (k : Int) (f t : ByteArray) (am nc : Int) (ky' vl : ByteArray) (rs ws : List ByteArray) : List ByteArray :=
  if ch k f t am nc ky' vl rs ws = 0 then one2 (mn (nA f) (nB k t ky')) (mx (nA f) (nB k t ky')) else []
def tx_Needs.f (k : Int) (f t : ByteArray) (am nc : Int) (ky' vl : ByteArray) (rs ws : List ByteArray) : Option (List ByteArray) := some (need k f t am nc ky' vl rs ws)
end Go.Proofs.YtndicjikjcifaaaDoor

namespace Go.Proofs.YtndicjikjcifaaaDoor.POw
open Go.RowKit Go.Proofs.YtndicjikjcifaaaDoorW.PrintWords Go.Proofs.YtndicjikjcifaaaDoorW.PrintLast Go.Proofs.YtndicjikjcifaaaDoorW.PrintMore
attribute [local go_sem] max2_int min2_int max_two min_two max_three min_three max_four min_four   -- for this text's walks alone
set_option linter.unusedVariables false
set_option linter.unusedSimpArgs false
def errW : Option Int → Value
  | none => .nilIface
  | some c => .iface 0 (.int .i64 c)
theorem errW_none : errW none = .nilIface := rfl
theorem errW_some (c : Int) : errW (some c) = .iface 0 (.int .i64 c) := rfl
theorem info9 : (Tryd.prog.info? 9).map (fun i => (i.zero, i.size, i.bytes)) = some (some (.string ⟨#[]⟩), 1, 16) := by kernel_rfl
-- the values' own types
end Go.Proofs.YtndicjikjcifaaaDoor.POw
