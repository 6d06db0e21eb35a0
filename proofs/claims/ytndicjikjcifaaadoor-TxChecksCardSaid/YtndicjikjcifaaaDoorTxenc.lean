/- tx.Encode: a transaction's bytes. -/
import Derived.Test.YtndicjikjcifaaaDoorWlist
import Derived.Test.YtndicjikjcifaaaDoorRefchk
import Derived.Shelf.Strings.OnBuilder
import Derived.Deep.RegionHeld3
namespace Go.Proofs
open Go.Shelf
def Tryd.lays156_ren : Go.Shelf.Ren := ⟨fun | 156 => 69 | 165 => 89 | 166 => 84 | 169 => 85 | 240 => 96 | 241 => 102 | 276 => 122 | 277 => 127 | n => n, fun | 31 => 31 | 9 => 9 | 3 => 3 | 4 => 4 | 0 => 0 | 20 => 20 | 72 => 108 | 76 => 111 | 70 => 106 | 37 => 104 | 75 => 110 | 127 => 123 | 164 => 151 | 5 => 5 | 80 => 79 | n => n, fun | n => n⟩
theorem Tryd.lays156 : Go.Proofs.Lays.n156 Tryd.prog Tryd.lays156_ren := {
  mixed := by kernel_rfl
  f156 := Tryd.func69.trans (congrArg some (by kernel_rfl))
  f165 := Tryd.func89.trans (congrArg some (by kernel_rfl))
  f166 := Tryd.func84.trans (congrArg some (by kernel_rfl))
  f169 := Tryd.func85.trans (congrArg some (by kernel_rfl))
  f240 := Tryd.func96.trans (congrArg some (by kernel_rfl))
  f241 := Tryd.func102.trans (congrArg some (by kernel_rfl))
  f276 := Tryd.func122.trans (congrArg some (by kernel_rfl))
  f277 := Tryd.func127.trans (congrArg some (by kernel_rfl))
  t0 := Tryd.underlying0
  a0 := Tryd.isAgg0
  z0 := Tryd.sizeOf0
  v0 := Tryd.zeroValue0
  t3 := Tryd.underlying3
  a3 := Tryd.isAgg3
  z3 := Tryd.sizeOf3
  v3 := Tryd.zeroValue3
  t4 := Tryd.underlying4
  a4 := Tryd.isAgg4
  z4 := Tryd.sizeOf4
  v4 := Tryd.zeroValue4
  t9 := Tryd.underlying9
  a9 := Tryd.isAgg9
  z9 := Tryd.sizeOf9
  v9 := Tryd.zeroValue9
  t20 := Tryd.underlying20
  a20 := Tryd.isAgg20
  z20 := Tryd.sizeOf20
  v20 := Tryd.zeroValue20
  t31 := Tryd.underlying31
  a31 := Tryd.isAgg31
  z31 := Tryd.sizeOf31
  v31 := Tryd.zeroValue31
  t37 := Tryd.underlying104
  a37 := Tryd.isAgg104
  z37 := Tryd.sizeOf104
  v37 := Tryd.zeroValue104
  t70 := Tryd.underlying106
  a70 := Tryd.isAgg106
  z70 := Tryd.sizeOf106
  v70 := Tryd.zeroValue106
  t72 := Tryd.underlying108
  a72 := Tryd.isAgg108
  z72 := Tryd.sizeOf108
  v72 := Tryd.zeroValue108
  t75 := Tryd.underlying110
  a75 := Tryd.isAgg110
  z75 := Tryd.sizeOf110
  v75 := Tryd.zeroValue110
  t76 := Tryd.underlying111
  a76 := Tryd.isAgg111
  z76 := Tryd.sizeOf111
  v76 := Tryd.zeroValue111
  t127 := Tryd.underlying123
  a127 := Tryd.isAgg123
  z127 := Tryd.sizeOf123
  v127 := Tryd.zeroValue123
  t164 := Tryd.underlying151
  a164 := Tryd.isAgg151
  z164 := Tryd.sizeOf151
  v164 := Tryd.zeroValue151 }
theorem Tryd.Builder_Extra_156 : Builder.Extra Tryd.prog Tryd.lays156_ren := {
  sizeBuilder := by kernel_rfl
  liesBuilder := by kernel_rfl
  t5 := Tryd.underlying5
  a5 := Tryd.isAgg5
  z5 := Tryd.sizeOf5
  v5 := Tryd.zeroValue5
  infoByte := by kernel_rfl
  cellsByte := by kernel_rfl
  sizeByte := by kernel_rfl
  neB5 := by decide }
end Go.Proofs
namespace Go.Proofs.YtndicjikjcifaaaDoor
open Go.RowKit Go.Shelf Go.Lib Go.Proofs.YtndicjikjcifaaaDoorW.PrintWords Go.Proofs.YtndicjikjcifaaaDoorW.PrintLast
set_option linter.unusedVariables false
set_option linter.unusedSimpArgs false

theorem join_calls (bk c : Nat) (xs : List ByteArray) (w : World) (hcells : ∀ (j : Nat) x, xs[j]? = some x → w.cell? ⟨bk, 0 + j, none⟩ = some (.string x))
    (hbk : bk < w.heap.size) (hN : xs.length ≤ 140737488355328) (hcap : xs.length ≤ c) (hlen : (Lib.join (xs.map (·.data.toList)) []).length ≤ 140737488355328) :
    Calls Tryd.prog 69 #[.slice (some ⟨bk, 0, none⟩) xs.length c, .string ⟨#[]⟩] w fun e w' => e = .returned (.string ⟨(Lib.join (xs.map (·.data.toList)) []).toArray⟩) ∧ Below w.heap.size w w' :=
  Any.strings_Join Tryd.lays156 Tryd.Builder_Extra_156 bk 0 c xs ⟨#[]⟩ w hcells hbk hN hcap hlen
theorem vints_len : ∀ k n, n < 128 ^ (k + 1) → (vints n).length ≤ k + 1
  | 0, n, h => by
    rw [vints, dif_pos (by omega)]
    simp
  | k + 1, n, h => by
    rw [vints]
    split
    · simp
    · have := vints_len k (n / 128) (by rw [Nat.pow_succ] at h; omega)
      simp only [List.length_cons]
      omega
theorem ib_size (n : Int) : (ib n).size ≤ 9 := by
  unfold ib
  split
  · exact Nat.zero_le _
  · have h1 := vints_len 8 n.toNat (by omega)
    have h2 : (strOfNums (vints n.toNat)).size = (vints n.toNat).length := by simp [strOfNums, ByteArray.size]
    omega
theorem tb_size (x : ByteArray) : (tb x).size ≤ 9 + x.size := by
  have := ib_size x.size
  have e : (tb x).size = (ib x.size).size + x.size := ByteArray.size_append
  omega
theorem tbs_size (M : Nat) : ∀ xs : List ByteArray, (∀ x ∈ xs, x.size ≤ M) → (tbs xs).length ≤ xs.length * (9 + M)
  | [], _ => Nat.zero_le _
  | x :: r, h => by
    have h1 := tbs_size M r (fun y hy => h y (by simp [hy]))
    have h2 := tb_size x
    have h3 := h x (by simp)
    have e : (tb x).data.toList.length = (tb x).size := by rw [Array.length_toList]; rfl
    rw [tbs, List.length_append, List.length_cons, Nat.succ_mul]
    omega
theorem lb_size (M : Nat) (xs : List ByteArray) (h : ∀ x ∈ xs, x.size ≤ M) : (lbL xs).length ≤ 9 + xs.length * (9 + M) := by
  have h1 := tbs_size M xs h
  have h2 := ib_size xs.length
  have e : (ib xs.length).data.toList.length = (ib xs.length).size := by rw [Array.length_toList]; rfl
  rw [lbL, List.length_append]
  omega
theorem nm_size {s : ByteArray} (h : nm s = true) : s.size ≤ 32 := by
  have := of_decide_eq_true h
  exact this.2.1
theorem ky_size {s : ByteArray} (h : ky s = true) : s.size ≤ 34 := by
  unfold ky at h
  rw [Bool.and_eq_true, Bool.and_eq_true] at h
  have h1 := nm_size h.2
  rw [ByteArray.size_extract] at h1
  omega
theorem join_nil : ∀ l : List (List UInt8), Lib.join l [] = l.flatten
  | [] => rfl
  | [a] => by simp [Lib.join, List.intercalate]
  | a :: b :: r => by
    have := join_nil (b :: r)
    simp [Lib.join, List.intercalate, List.intersperse] at this ⊢
    exact this
theorem keL_size : ∀ p xs, keL p xs = 0 → ∀ x ∈ xs, x.size ≤ 34
  | _, [], _, x, hx => by simp at hx
  | p, s :: r, h, x, hx => by
    unfold keL at h
    cases hk : ky s with
    | false => rw [if_pos hk] at h; cases h
    | true =>
      rw [if_neg (by simp [hk])] at h
      have h2 : keL (some s) r = 0 := by
        cases p with
        | none => simpa using h
        | some q =>
          cases hl : lts q s with
          | false => simp [hl] at h
          | true => simpa [hl] using h
      rcases List.mem_cons.1 hx with rfl | hx
      · exact ky_size hk
      · exact keL_size _ _ h2 x hx
theorem ke_zero {xs : List ByteArray} (h : ke xs = 0) : xs.length ≤ 8 ∧ ∀ x ∈ xs, x.size ≤ 34 := by
  unfold ke at h
  split at h
  · exact ⟨by assumption, keL_size _ _ h⟩
  · cases h
theorem empty_size {s : ByteArray} (h : s.toList.isEmpty = true) : s.size = 0 := by
  rw [Lib.toList_data, List.isEmpty_iff] at h
  have : s.data.toList.length = 0 := by rw [h]; rfl
  rw [Array.length_toList] at this
  exact this
/-- What a transaction without fault is. -/
structure Fine (k : Int) (f t : ByteArray) (am nc : Int) (ky' vl : ByteArray) (rs ws : List ByteArray) : Prop where
  k : k = 1 ∨ k = 2
  f : f.size ≤ 32
  t : t.size ≤ 32
  am : am ≤ 4611686018427387903
  nc : nc ≤ 4611686018427387903
  ky : ky'.size ≤ 32
  vl : vl.size ≤ 64
  rs : ke rs = 0
  ws : ke ws = 0
theorem ch_fine {k : Int} {f t : ByteArray} {am nc : Int} {ky' vl : ByteArray} {rs ws : List ByteArray} (h : ch k f t am nc ky' vl rs ws = 0) : Fine k f t am nc ky' vl rs ws := by
  have hF : chF k f t ky' vl am = 0 := by
    unfold ch at h
    split at h
    · assumption
    · exact absurd h (by assumption)
  have hR : chR am nc rs ws = 0 := by rw [ch, if_pos hF] at h; exact h
  have hk : (am ≤ 4611686018427387903 ∧ nc ≤ 4611686018427387903) ∧ ke rs = 0 ∧ ke ws = 0 := by
    unfold chR at hR
    split at hR
    · split at hR
      · exact ⟨by assumption, by assumption, hR⟩
      · exact absurd hR (by assumption)
    · cases hR
  unfold chF at hF
  split at hF
  · split at hF
    · rename_i h1 h2
      simp only [Bool.and_eq_true] at h2
      have e1 := empty_size h2.1.2
      have e2 := empty_size h2.2
      exact ⟨.inl h1, nm_size h2.1.1.1, nm_size h2.1.1.2, hk.1.1, hk.1.2, by omega, by omega, hk.2.1, hk.2.2⟩
    · cases hF
  · split at hF
    · split at hF
      · rename_i h1 h2 h3
        simp only [Bool.and_eq_true, decide_eq_true_eq] at h3
        have e1 := empty_size h3.1.2
        exact ⟨.inr h2, nm_size h3.1.1.1.1, by omega, hk.1.1, hk.1.2, nm_size h3.1.1.1.2, h3.1.1.2, hk.2.1, hk.2.2⟩
      · cases hF
    · cases hF
theorem keep9 {w W W' : World} {bs : Array Value} (hb : Below W.heap.size W W') (h : Bq w bs W) : Bq w bs W' := h.step hb
def encL (k : Int) (f t : ByteArray) (am nc : Int) (ky' vl : ByteArray) (rs ws : List ByteArray) : List ByteArray := [ib k, tb f, tb t, ib am, ib nc, tb ky', tb vl, lb rs, lb ws]
def encB (k : Int) (f t : ByteArray) (am nc : Int) (ky' vl : ByteArray) (rs ws : List ByteArray) : ByteArray := ⟨(Lib.join ((encL k f t am nc ky' vl rs ws).map (·.data.toList)) []).toArray⟩
def enc (k : Int) (f t : ByteArray) (am nc : Int) (ky' vl : ByteArray) (rs ws : List ByteArray) : ByteArray × Int :=
  if ch k f t am nc ky' vl rs ws = 0 then (encB k f t am nc ky' vl rs ws, 0) else (⟨#[]⟩, ch k f t am nc ky' vl rs ws)
def EP (r : ByteArray × Int) (w : World) (e : Ending) (w' : World) : Prop := e = .returned (.tuple #[.string r.1, .int .i64 r.2]) ∧ Below w.heap.size w w'
set_option maxHeartbeats 8000000 in
set_option maxRecDepth 100000 in
theorem enc_no (k : Int) (f t : ByteArray) (am nc : Int) (ky' vl : ByteArray) (A B : Option Addr) (c d : Nat) (rs ws : List ByteArray) (w : World) (x : Int) (hx : ch k f t am nc ky' vl rs ws = x) (h0 : x ≠ 0)
    (hr : Kd.C Kd.string w A rs.length rs) (hc : rs.length ≤ c) (hs : Kd.C Kd.string w B ws.length ws) (hd : ws.length ≤ d) :
    Calls Tryd.prog 39 #[.agg #[.int .i64 k, .string f, .string t, .int .u64 am, .int .u64 nc, .string ky', .string vl, .slice A rs.length c, .slice B ws.length d]] w
      fun e w' => EP (⟨#[]⟩, x) w e w' := by
  have HR := Lib.hid hr
  have HC := Lib.hid hc
  have HS := Lib.hid hs
  have HD := Lib.hid hd
  clear hr hc hs hd
  have hx2 : (x != 0) = true := by simpa using h0
  have hch := Lib.hid (fun W hw => chk_calls k f t am nc ky' vl A B c d rs ws W (Kd.C_below HR.out hw) HC.out (Kd.C_below HS.out hw) HD.out)
  rw [hx] at hch
  go_enter Tryd.func39, Tryd.ntmps39
  have HX := Lib.hid (Bq.first w #[.int .i64 k, .string f, .string t, .int .u64 am, .int .u64 nc, .string ky', .string vl, .slice A rs.length c, .slice B ws.length d])
  go_wp2_with (first
    | (go_at_call 41
       go_must (refine (hch.out _ HX.out.low).mono ?_)
       rintro e w2 ⟨rfl, hB⟩
       have HX := Lib.hid (HX.out.step hB)
       clear hB))
  go_ret2
  exact ⟨rfl, HX.out.low⟩
set_option maxHeartbeats 8000000 in
set_option maxRecDepth 100000 in
theorem enc_ok (k : Int) (f t : ByteArray) (am nc : Int) (ky' vl : ByteArray) (A B : Option Addr) (c d : Nat) (rs ws : List ByteArray) (w : World) (hx : ch k f t am nc ky' vl rs ws = 0)
    (hr : Kd.C Kd.string w A rs.length rs) (hc : rs.length ≤ c) (hs : Kd.C Kd.string w B ws.length ws) (hd : ws.length ≤ d) (ha : 0 ≤ am) (hn : 0 ≤ nc) :
    Calls Tryd.prog 39 #[.agg #[.int .i64 k, .string f, .string t, .int .u64 am, .int .u64 nc, .string ky', .string vl, .slice A rs.length c, .slice B ws.length d]] w
      fun e w' => EP (encB k f t am nc ky' vl rs ws, 0) w e w' := by
  have hf := ch_fine hx
  have HR := Lib.hid hr
  have HC := Lib.hid hc
  have HS := Lib.hid hs
  have HD := Lib.hid hd
  have hr1 := ke_zero hf.rs
  have hs1 := ke_zero hf.ws
  have L1 := lb_size 34 rs hr1.2
  have L2 := lb_size 34 ws hs1.2
  have S1 : (lb rs).size = (lbL rs).length := by simp [lb, ByteArray.size]
  have S2 : (lb ws).size = (lbL ws).length := by simp [lb, ByteArray.size]
  have L1 : (lbL rs).length ≤ 353 := by have := hr1.1; omega
  have L2 : (lbL ws).length ≤ 353 := by have := hs1.1; omega
  have T1 := tb_size f
  have T2 := tb_size t
  have T3 := tb_size ky'
  have T4 := tb_size vl
  have Q1 := hf.f
  have Q2 := hf.t
  have Q3 := hf.ky
  have Q4 := hf.vl
  have HT := Lib.hid (show (tb f).size ≤ 9223372036854775807 ∧ (tb t).size ≤ 9223372036854775807 ∧ (tb ky').size ≤ 9223372036854775807 ∧ (tb vl).size ≤ 9223372036854775807 from ⟨by omega, by omega, by omega, by omega⟩)
  have HL := Lib.hid (show (lbL rs).length ≤ 140737488355328 ∧ (lbL ws).length ≤ 140737488355328 from ⟨by omega, by omega⟩)
  have HJ := Lib.hid (show (Lib.join ((encL k f t am nc ky' vl rs ws).map (·.data.toList)) []).length ≤ 140737488355328 by
    have I1 := ib_size k
    have I2 := ib_size am
    have I3 := ib_size nc
    have e : ∀ s : ByteArray, s.data.toList.length = s.size := fun s => by rw [Array.length_toList]; rfl
    rw [join_nil]
    simp only [encL, List.map_cons, List.map_nil, List.flatten_cons, List.flatten_nil, List.length_append, e, List.length_nil]
    omega)
  have wa : IntKind.i64.wrap am = am := by have := hf.am; rw [IntKind.wrap_i64]; omega
  have wn : IntKind.i64.wrap nc = nc := by have := hf.nc; rw [IntKind.wrap_i64]; omega
  have hch := Lib.hid (fun W hw => chk_calls k f t am nc ky' vl A B c d rs ws W (Kd.C_below HR.out hw) HC.out (Kd.C_below HS.out hw) HD.out)
  rw [hx] at hch
  clear hr hc hs hd hx ha hn hf hr1 hs1 L1 L2 T1 T2 T3 T4 Q1 Q2 Q3 Q4 S1 S2
  go_enter Tryd.func39, Tryd.ntmps39
  have HX := Lib.hid (Bq.first w #[.int .i64 k, .string f, .string t, .int .u64 am, .int .u64 nc, .string ky', .string vl, .slice A rs.length c, .slice B ws.length d])
  go_wp2_with (first
    | (go_at_call 41
       go_must (refine (hch.out _ HX.out.low).mono ?_)
       rintro e w2 ⟨rfl, hB⟩
       have HX := Lib.hid (HX.out.step hB)
       clear hB))
  have hq : ∀ W, Bq w #[.int .i64 k, .string f, .string t, .int .u64 am, .int .u64 nc, .string ky', .string vl, .slice A rs.length c, .slice B ws.length d] W →
      Bq w #[.int .i64 k, .string f, .string t, .int .u64 am, .int .u64 nc, .string ky', .string vl, .slice A rs.length c, .slice B ws.length d] W ∧
      W.cell? ⟨w.heap.size, 0, none⟩ = some (.int .i64 k) ∧ W.cell? ⟨w.heap.size, 1, none⟩ = some (.string f) ∧ W.cell? ⟨w.heap.size, 2, none⟩ = some (.string t) ∧ W.cell? ⟨w.heap.size, 3, none⟩ = some (.int .u64 am) ∧ W.cell? ⟨w.heap.size, 4, none⟩ = some (.int .u64 nc) ∧ W.cell? ⟨w.heap.size, 5, none⟩ = some (.string ky') ∧ W.cell? ⟨w.heap.size, 6, none⟩ = some (.string vl) ∧ W.cell? ⟨w.heap.size, 7, none⟩ = some (.slice A rs.length c) ∧ W.cell? ⟨w.heap.size, 8, none⟩ = some (.slice B ws.length d) :=
    fun W h => ⟨h, blk_cell h.box 0, blk_cell h.box 1, blk_cell h.box 2, blk_cell h.box 3, blk_cell h.box 4, blk_cell h.box 5, blk_cell h.box 6, blk_cell h.box 7, blk_cell h.box 8⟩
  have hq0 := hq _ HX.out
  have hq := Lib.hid hq
  obtain ⟨B0, q0, q1, q2, q3, q4, q5, q6, q7, q8⟩ := hq0
  go_region_held3 (fun W => Bq w #[.int .i64 k, .string f, .string t, .int .u64 am, .int .u64 nc, .string ky', .string vl, .slice A rs.length c, .slice B ws.length d] W ∧
      W.cell? ⟨w.heap.size, 0, none⟩ = some (.int .i64 k) ∧ W.cell? ⟨w.heap.size, 1, none⟩ = some (.string f) ∧ W.cell? ⟨w.heap.size, 2, none⟩ = some (.string t) ∧ W.cell? ⟨w.heap.size, 3, none⟩ = some (.int .u64 am) ∧ W.cell? ⟨w.heap.size, 4, none⟩ = some (.int .u64 nc) ∧ W.cell? ⟨w.heap.size, 5, none⟩ = some (.string ky') ∧ W.cell? ⟨w.heap.size, 6, none⟩ = some (.string vl) ∧ W.cell? ⟨w.heap.size, 7, none⟩ = some (.slice A rs.length c) ∧ W.cell? ⟨w.heap.size, 8, none⟩ = some (.slice B ws.length d))
    (first
      | exact hq.out _ HX.out
      | exact hq.out _ (HX.out.step ((Below.refl _ _).drew))
      | exact hq.out _ (HX.out.step ((Below.refl _ _).alloc (Nat.le_refl _) _)))
    (first
      | (go_at_call 62; refine (int_calls _ _).mono ?_; rintro e w2 ⟨rfl, hB⟩; first | have HX := Lib.hid (HX.out.step hB) | have HX := Lib.hid ((HX.out.step ((Below.refl _ _).drew)).step hB))
      | (go_at_call 68; first | with_reducible refine (text_calls f _ HT.out.1).mono ?_ | with_reducible refine (text_calls t _ HT.out.2.1).mono ?_ | with_reducible refine (text_calls ky' _ HT.out.2.2.1).mono ?_ | with_reducible refine (text_calls vl _ HT.out.2.2.2).mono ?_
         rintro e w2 ⟨rfl, hB⟩; first | have HX := Lib.hid (HX.out.step hB) | have HX := Lib.hid ((HX.out.step ((Below.refl _ _).drew)).step hB))
      | (go_at_call 63; first | with_reducible refine Calls.mono (list_calls A c rs _ ?_ HC.out HL.out.1) ?_ | with_reducible refine Calls.mono (list_calls B d ws _ ?_ HD.out HL.out.2) ?_
         · first | exact Kd.C_below HR.out (Bq.low (And.left (by assumption))) | exact Kd.C_below HS.out (Bq.low (And.left (by assumption)))
         rintro e w2 ⟨rfl, hB⟩; first | have HX := Lib.hid (HX.out.step hB) | have HX := Lib.hid ((HX.out.step ((Below.refl _ _).drew)).step hB)))
  have hbl := blk_new w2 (.cells #[.string (ib k), .string (tb f), .string (tb t), .string (ib am), .string (ib nc), .string (tb ky'), .string (tb vl), .string (lb rs), .string (lb ws)] 9)
  have HA := Lib.hid ((Below.refl w2.heap.size w2).alloc (Nat.le_refl _) (.cells #[.string (ib k), .string (tb f), .string (tb t), .string (ib am), .string (ib nc), .string (tb ky'), .string (tb vl), .string (lb rs), .string (lb ws)] 9))
  have HX := Lib.hid (HX.out.step HA.out)
  generalize w2.alloc (.cells #[.string (ib k), .string (tb f), .string (tb t), .string (ib am), .string (ib nc), .string (tb ky'), .string (tb vl), .string (lb rs), .string (lb ws)] 9) = W at hbl HX ⊢
  have hcell := Lib.hid (show ∀ (j : Nat) x, (encL k f t am nc ky' vl rs ws)[j]? = some x → W.cell? ⟨w2.heap.size, 0 + j, none⟩ = some (.string x) by
    intro j x hx
    rw [Nat.zero_add]
    refine (blk_cell hbl j).trans ?_
    have e : (#[.string (ib k), .string (tb f), .string (tb t), .string (ib am), .string (ib nc), .string (tb ky'), .string (tb vl), .string (lb rs), .string (lb ws)] : Array Value) = ((encL k f t am nc ky' vl rs ws).map Value.string).toArray := rfl
    rw [e, List.getElem?_toArray, List.getElem?_map, hx]
    rfl)
  have hlt := Lib.hid (blk_lt hbl)
  clear hbl
  go_wp2_with (first
    | (go_at_call 69
       go_must (refine (join_calls w2.heap.size 9 (encL k f t am nc ky' vl rs ws) W hcell.out hlt.out (by simp [encL]) (by simp [encL]) HJ.out).mono ?_)
       rintro e w3 ⟨rfl, hB⟩
       have HX := Lib.hid (HX.out.step hB)
       clear hB))
  go_ret2
  exact ⟨rfl, HX.out.low⟩
/-- The printer's form. -/
theorem enc_calls (k : Int) (f t : ByteArray) (am nc : Int) (ky' vl : ByteArray) (A B : Option Addr) (c d : Nat) (rs ws : List ByteArray) (w : World)
    (hr : Kd.C Kd.string w A rs.length rs) (hc : rs.length ≤ c) (hs : Kd.C Kd.string w B ws.length ws) (hd : ws.length ≤ d) (ha : 0 ≤ am) (hn : 0 ≤ nc) :
    Calls Tryd.prog 39 #[.agg #[.int .i64 k, .string f, .string t, .int .u64 am, .int .u64 nc, .string ky', .string vl, .slice A rs.length c, .slice B ws.length d]] w
      fun e w' => EP (enc k f t am nc ky' vl rs ws) w e w' := by
  unfold enc
  split
  · exact enc_ok k f t am nc ky' vl A B c d rs ws w (by assumption) hr hc hs hd ha hn
  · exact enc_no k f t am nc ky' vl A B c d rs ws w _ rfl (by assumption) hr hc hs hd
def tx_Encode.f (k : Int) (f t : ByteArray) (am nc : Int) (ky' vl : ByteArray) (rs ws : List ByteArray) : Option (ByteArray × Int) := if 0 ≤ am ∧ 0 ≤ nc then some (enc k f t am nc ky' vl rs ws) else none
theorem tx_Encode.calls (a0_0 : Int) (a0_1 a0_2 : ByteArray) (a0_3 a0_4 : Int) (a0_5 a0_6 : ByteArray) (A0_7 : Option Addr) (c0_7 : Nat) (l0_7 : List ByteArray) (A0_8 : Option Addr) (c0_8 : Nat) (l0_8 : List ByteArray) (r1 : ByteArray) (r2 : Int) (w : World) (hr0_7 : Kd.C Kd.string w A0_7 l0_7.length l0_7) (hc0_7 : l0_7.length ≤ c0_7) (hr0_8 : Kd.C Kd.string w A0_8 l0_8.length l0_8) (hc0_8 : l0_8.length ≤ c0_8) (h : tx_Encode.f a0_0 a0_1 a0_2 a0_3 a0_4 a0_5 a0_6 l0_7 l0_8 = some (r1, r2)) :
    Calls Tryd.prog 39 #[.agg #[.int .i64 a0_0, .string a0_1, .string a0_2, .int .u64 a0_3, .int .u64 a0_4, .string a0_5, .string a0_6, .slice A0_7 l0_7.length c0_7, .slice A0_8 l0_8.length c0_8]] w fun e w' => e = .returned (.tuple #[.string r1, .int .i64 r2]) ∧ Below w.heap.size w w' := by
  unfold tx_Encode.f at h
  split at h
  · rename_i h1
    have e := Option.some.inj h
    have := enc_calls a0_0 a0_1 a0_2 a0_3 a0_4 a0_5 a0_6 A0_7 A0_8 c0_7 c0_8 l0_7 l0_8 w hr0_7 hc0_7 hr0_8 hc0_8 h1.1 h1.2
    rw [e] at this
    exact this
  · cases h
end Go.Proofs.YtndicjikjcifaaaDoor
