/- tx.Needs, tx.Fits. -/
import Derived.Test.YtndicjikjcifaaaDoorTxenc
import Derived.Test.YtndicjikjcifaaaDoorStrle
import Derived.Test.YtndicjikjcifaaaDoorBase
import Derived.Shelf.Sort.Plain
import Derived.Shelf.Slices.CompactS
import Derived.Shelf.Slices.Turned
namespace Go.Proofs
open Go.Shelf
def Tryd.lays190_ren : Go.Shelf.Ren := ⟨fun | 190 => 74 | 125 => 94 | 258 => 93 | 128 => 120 | 129 => 121 | 302 => 111 | 303 => 112 | 304 => 113 | 305 => 114 | 306 => 115 | 307 => 116 | 308 => 117 | 309 => 118 | 310 => 119 | 333 => 133 | 329 => 134 | 330 => 135 | 334 => 136 | 335 => 137 | 336 => 138 | 344 => 144 | n => n, fun | 31 => 31 | 9 => 9 | 3 => 3 | 46 => 105 | 0 => 0 | 51 => 113 | 53 => 30 | 4 => 4 | 183 => 143 | 182 => 142 | 131 => 147 | 5 => 5 | 218 => 168 | 222 => 171 | 228 => 175 | 229 => 176 | n => n, fun | n => n⟩
theorem Tryd.lays190 : Go.Proofs.Lays.n190 Tryd.prog Tryd.lays190_ren := {
  mixed := by kernel_rfl
  f125 := Tryd.func94.trans (congrArg some (by kernel_rfl))
  f128 := Tryd.func120.trans (congrArg some (by kernel_rfl))
  f129 := Tryd.func121.trans (congrArg some (by kernel_rfl))
  f190 := Tryd.func74.trans (congrArg some (by kernel_rfl))
  f258 := Tryd.func93.trans (congrArg some (by kernel_rfl))
  f302 := Tryd.func111.trans (congrArg some (by kernel_rfl))
  f303 := Tryd.func112.trans (congrArg some (by kernel_rfl))
  f304 := Tryd.func113.trans (congrArg some (by kernel_rfl))
  f305 := Tryd.func114.trans (congrArg some (by kernel_rfl))
  f306 := Tryd.func115.trans (congrArg some (by kernel_rfl))
  f307 := Tryd.func116.trans (congrArg some (by kernel_rfl))
  f308 := Tryd.func117.trans (congrArg some (by kernel_rfl))
  f309 := Tryd.func118.trans (congrArg some (by kernel_rfl))
  f310 := Tryd.func119.trans (congrArg some (by kernel_rfl))
  f329 := Tryd.func134.trans (congrArg some (by kernel_rfl))
  f330 := Tryd.func135.trans (congrArg some (by kernel_rfl))
  f333 := Tryd.func133.trans (congrArg some (by kernel_rfl))
  f334 := Tryd.func136.trans (congrArg some (by kernel_rfl))
  f335 := Tryd.func137.trans (congrArg some (by kernel_rfl))
  f336 := Tryd.func138.trans (congrArg some (by kernel_rfl))
  f344 := Tryd.func144.trans (congrArg some (by kernel_rfl))
  t0 := Tryd.underlying0
  a0 := Tryd.isAgg0
  z0 := Tryd.sizeOf0
  v0 := Tryd.zeroValue0
  t3 := Tryd.underlying3
  a3 := Tryd.isAgg3
  z3 := Tryd.sizeOf3
  v3 := Tryd.zeroValue3
  t4 := Tryd.underlying4
  a4 := Tryd.isAgg4
  z4 := Tryd.sizeOf4
  v4 := Tryd.zeroValue4
  t5 := Tryd.underlying5
  a5 := Tryd.isAgg5
  z5 := Tryd.sizeOf5
  v5 := Tryd.zeroValue5
  t9 := Tryd.underlying9
  a9 := Tryd.isAgg9
  z9 := Tryd.sizeOf9
  v9 := Tryd.zeroValue9
  t31 := Tryd.underlying31
  a31 := Tryd.isAgg31
  z31 := Tryd.sizeOf31
  v31 := Tryd.zeroValue31
  t46 := Tryd.underlying105
  a46 := Tryd.isAgg105
  z46 := Tryd.sizeOf105
  v46 := Tryd.zeroValue105
  t51 := Tryd.underlying113
  a51 := Tryd.isAgg113
  z51 := Tryd.sizeOf113
  v51 := Tryd.zeroValue113
  t53 := Tryd.underlying30
  a53 := Tryd.isAgg30
  z53 := Tryd.sizeOf30
  v53 := Tryd.zeroValue30
  t131 := Tryd.underlying147
  a131 := Tryd.isAgg147
  z131 := Tryd.sizeOf147
  v131 := Tryd.zeroValue147
  t182 := Tryd.underlying142
  a182 := Tryd.isAgg142
  z182 := Tryd.sizeOf142
  v182 := Tryd.zeroValue142
  t183 := Tryd.underlying143
  a183 := Tryd.isAgg143
  z183 := Tryd.sizeOf143
  v183 := Tryd.zeroValue143
  t218 := Tryd.underlying168
  a218 := Tryd.isAgg168
  z218 := Tryd.sizeOf168
  v218 := Tryd.zeroValue168
  t222 := Tryd.underlying171
  a222 := Tryd.isAgg171
  z222 := Tryd.sizeOf171
  v222 := Tryd.zeroValue171
  t228 := Tryd.underlying175
  a228 := Tryd.isAgg175
  z228 := Tryd.sizeOf175
  v228 := Tryd.zeroValue175
  t229 := Tryd.underlying176
  a229 := Tryd.isAgg176
  z229 := Tryd.sizeOf176
  v229 := Tryd.zeroValue176 }
def Tryd.lays194_ren : Go.Shelf.Ren := ⟨fun | 194 => 75 | n => n, fun | 31 => 31 | 9 => 9 | 3 => 3 | 4 => 4 | 0 => 0 | n => n, fun | n => n⟩
theorem Tryd.lays194 : Go.Proofs.Lays.n194 Tryd.prog Tryd.lays194_ren := {
  mixed := by kernel_rfl
  f194 := Tryd.func75.trans (congrArg some (by kernel_rfl))
  t0 := Tryd.underlying0
  a0 := Tryd.isAgg0
  z0 := Tryd.sizeOf0
  v0 := Tryd.zeroValue0
  t3 := Tryd.underlying3
  a3 := Tryd.isAgg3
  z3 := Tryd.sizeOf3
  v3 := Tryd.zeroValue3
  t4 := Tryd.underlying4
  a4 := Tryd.isAgg4
  z4 := Tryd.sizeOf4
  v4 := Tryd.zeroValue4
  t9 := Tryd.underlying9
  a9 := Tryd.isAgg9
  z9 := Tryd.sizeOf9
  v9 := Tryd.zeroValue9
  t31 := Tryd.underlying31
  a31 := Tryd.isAgg31
  z31 := Tryd.sizeOf31
  v31 := Tryd.zeroValue31 }
def Tryd.lays110_ren : Go.Shelf.Ren := ⟨fun | 110 => 76 | 109 => 95 | n => n, fun | 31 => 31 | 9 => 9 | 4 => 4 | 3 => 3 | 0 => 0 | n => n, fun | n => n⟩
theorem Tryd.lays110 : Go.Proofs.Lays.n110 Tryd.prog Tryd.lays110_ren := {
  mixed := by kernel_rfl
  f109 := Tryd.func95.trans (congrArg some (by kernel_rfl))
  f110 := Tryd.func76.trans (congrArg some (by kernel_rfl))
  t0 := Tryd.underlying0
  a0 := Tryd.isAgg0
  z0 := Tryd.sizeOf0
  v0 := Tryd.zeroValue0
  t3 := Tryd.underlying3
  a3 := Tryd.isAgg3
  z3 := Tryd.sizeOf3
  v3 := Tryd.zeroValue3
  t4 := Tryd.underlying4
  a4 := Tryd.isAgg4
  z4 := Tryd.sizeOf4
  v4 := Tryd.zeroValue4
  t9 := Tryd.underlying9
  a9 := Tryd.isAgg9
  z9 := Tryd.sizeOf9
  v9 := Tryd.zeroValue9
  t31 := Tryd.underlying31
  a31 := Tryd.isAgg31
  z31 := Tryd.sizeOf31
  v31 := Tryd.zeroValue31 }
end Go.Proofs
namespace Go.Proofs.YtndicjikjcifaaaDoor
open Go.RowKit Go.Shelf Go.Lib Go.Sort Go.Proofs.YtndicjikjcifaaaDoorW.PrintWords Go.Proofs.YtndicjikjcifaaaDoorW.PrintLast
set_option linter.unusedVariables false
set_option linter.unusedSimpArgs false

def mn (x y : ByteArray) : ByteArray := if lts y x = true then y else x
def mx (x y : ByteArray) : ByteArray := if lts y x = true then x else y
theorem bytesLess_lt (x y : List UInt8) : Op.bytesLess x y = decide (x < y) := bytesLess_eq x y
theorem merge2 {α : Type} (le : α → α → Bool) (a b : α) : [a, b].mergeSort le = if le a b = true then [a, b] else [b, a] := by
  cases h : le a b <;> simp [List.mergeSort, List.MergeSort.Internal.splitInTwo, List.merge, h]
theorem sort2_list (x y : ByteArray) : ([x.data.toList, y.data.toList].mergeSort fun a b => decide (a ≤ b)) = [(mn x y).data.toList, (mx x y).data.toList] := by
  have h : decide (x.data.toList ≤ y.data.toList) = !lts y x := by
    rw [lts, Lib.toList_data, Lib.toList_data, bytesLess_lt, ← decide_not]
    exact decide_eq_decide.2 (by rw [List.not_lt])
  rw [merge2, h]
  unfold mn mx
  cases hl : lts y x <;> rfl
theorem only_put {g : Nat} {w : World} (n : Nat) (os : Array Obj) (d : Array (List UInt8)) (hlt : g < w.heap.size) : Only (fun k => k = g) w (grow (putRow encStr (Sort.ahead w n) g 0 d) os) := by
  refine ⟨rfl, rfl, rfl, by simp [grow, putRow, mapBlock, Sort.ahead], fun k hk hn => ?_⟩
  simp only [grow, putRow, mapBlock, Sort.ahead]
  rw [Array.getElem?_append_left (by simpa using hk), Array.getElem?_modify, if_neg (fun e => hn e.symm)]
theorem put_blk {g : Nat} {w : World} (n : Nat) (os : Array Obj) (d : Array (List UInt8)) {cs : Array Value} {t : TypeId} (hb : w.heap[g]? = some (.cells cs t (0, 0))) :
    (grow (putRow encStr (Sort.ahead w n) g 0 d) os).heap[g]? = some (.cells (putCells encStr 0 d cs) t (0, 0)) := by
  simp only [grow, putRow, mapBlock, Sort.ahead]
  rw [Array.getElem?_append_left (by simpa using blk_lt hb), Array.getElem?_modify, if_pos rfl, hb]
  rfl
theorem sort2_calls (g : Nat) (x y : ByteArray) (w : World) (hb : w.heap[g]? = some (.cells #[.string x, .string y] 9 (0, 0))) :
    Calls Tryd.prog 74 #[.slice (some ⟨g, 0, none⟩) 2 2] w fun e w' => e = .returned (.tuple #[]) ∧ w'.heap[g]? = some (.cells #[.string (mn x y), .string (mx x y)] 9 (0, 0)) ∧ Only (fun k => k = g) w w' := by
  have hlt := blk_lt hb
  have hH : Holds encStr w g 0 [x.data.toList, y.data.toList].toArray := by
    intro j hj
    have h2 : j = 0 ∨ j = 1 := by simp at hj; omega
    rcases h2 with rfl | rfl
    · exact ⟨by simpa [encStr] using blk_cell hb 0, blk_frozen hb 0⟩
    · exact ⟨by simpa [encStr] using blk_cell hb 1, blk_frozen hb 1⟩
  refine (Any.slices_Sort_string Tryd.lays190 g 0 2 [x.data.toList, y.data.toList] w hH hlt (by simp)).mono ?_
  rintro e w' ⟨rfl, n, os, rfl⟩
  rw [sort2_list]
  refine ⟨rfl, ?_, only_put n os _ hlt⟩
  rw [put_blk n os _ hb]
  simp [putCells, encStr]
/-- Of a sorted pair each once. -/
def one2 (x y : ByteArray) : List ByteArray := if x.toList = y.toList then [x] else [x, y]
theorem compact2 (x y : List UInt8) : Lib.compact [x, y] = if x = y then [x] else [x, y] := by
  unfold Lib.compact Lib.compactUpTo
  have h2 : List.range [x, y].length = [0, 1] := rfl
  rw [h2]
  have k0 : Lib.keeps [x, y].toArray 0 = true := by simp [Lib.keeps]
  have k1 : Lib.keeps [x, y].toArray 1 = decide (y ≠ x) := by simp [Lib.keeps]
  by_cases h : x = y
  · subst h
    simp [List.filter, k0, k1]
  · have h' : y ≠ x := fun e => h e.symm
    simp [List.filter, k0, k1, h, h']
theorem compact2_calls (g : Nat) (x y : ByteArray) (w : World) (base : Nat) (hbase : base ≤ g) (hb : w.heap[g]? = some (.cells #[.string x, .string y] 9 (0, 0))) :
    Calls Tryd.prog 75 #[.slice (some ⟨g, 0, none⟩) 2 2] w fun e w' => ∃ v, e = .returned v ∧ Kd.R Kd.string 9 w' base (fun _ => True) v (one2 x y) ∧ Only (fun k => k = g) w w' ∧ v = .slice (some ⟨g, 0, none⟩) (one2 x y).length 2 := by
  have hlt := blk_lt hb
  have hH : Holds encStr w g 0 [x.data.toList, y.data.toList].toArray := by
    intro j hj
    have h2 : j = 0 ∨ j = 1 := by simp at hj; omega
    rcases h2 with rfl | rfl
    · exact ⟨by simpa [encStr] using blk_cell hb 0, blk_frozen hb 0⟩
    · exact ⟨by simpa [encStr] using blk_cell hb 1, blk_frozen hb 1⟩
  refine (Any.slices_Compact_string Tryd.lays194 g 0 2 [x.data.toList, y.data.toList] w hH (by simp) (by simp)).mono ?_
  rintro e w' ⟨rfl, q, hw⟩
  have hw2 : w' = grow (putRow encStr (Sort.ahead w q) g 0 (Lib.compact [x.data.toList, y.data.toList] ++ List.replicate ([x.data.toList, y.data.toList].length - (Lib.compact [x.data.toList, y.data.toList]).length) []).toArray) #[] := by rw [grow_empty]; exact hw
  subst hw2
  clear hw
  have hone : one2 x y = if x.data.toList = y.data.toList then [x] else [x, y] := by rw [one2, Lib.toList_data, Lib.toList_data]
  refine ⟨_, rfl, ?_, only_put q #[] _ hlt, by rw [compact2, hone]; split <;> rfl⟩
  have hp := put_blk (w := w) q #[] (Lib.compact [x.data.toList, y.data.toList] ++ List.replicate ([x.data.toList, y.data.toList].length - (Lib.compact [x.data.toList, y.data.toList]).length) []).toArray hb
  rw [compact2] at hp ⊢
  rw [hone]
  by_cases h : x.data.toList = y.data.toList
  · rw [if_pos h] at hp ⊢
    rw [if_pos h]
    refine Kd.R_of_own ⟨rfl, .inr ⟨g, 2, _, rfl, hbase, hp, by simp, by decide, by simp [putCells], ?_⟩⟩ (fun _ _ => trivial)
    simp [putCells, encStr, encs]
  · rw [if_neg h] at hp ⊢
    rw [if_neg h]
    refine Kd.R_of_own ⟨rfl, .inr ⟨g, 2, _, rfl, hbase, hp, by simp, by decide, by simp [putCells], ?_⟩⟩ (fun _ _ => trivial)
    simp [putCells, encStr, encs]
def nA (f : ByteArray) : ByteArray := ⟨#[97, 58]⟩ ++ f
def nK (f : ByteArray) : ByteArray := ⟨#[107, 58]⟩ ++ f
def nB (k : Int) (t ky' : ByteArray) : ByteArray := if k = 2 then nK ky' else nA t
def need (k : Int) (f t : ByteArray) (am nc : Int) (ky' vl : ByteArray) (rs ws : List ByteArray) : List ByteArray :=
  if ch k f t am nc ky' vl rs ws = 0 then one2 (mn (nA f) (nB k t ky')) (mx (nA f) (nB k t ky')) else []
set_option maxHeartbeats 8000000 in
set_option maxRecDepth 100000 in
theorem need_calls (k : Int) (f t : ByteArray) (am nc : Int) (ky' vl : ByteArray) (A B : Option Addr) (c d : Nat) (rs ws : List ByteArray) (w : World)
    (hr : Kd.C Kd.string w A rs.length rs) (hc : rs.length ≤ c) (hs : Kd.C Kd.string w B ws.length ws) (hd : ws.length ≤ d) :
    Calls Tryd.prog 44 #[.agg #[.int .i64 k, .string f, .string t, .int .u64 am, .int .u64 nc, .string ky', .string vl, .slice A rs.length c, .slice B ws.length d]] w
      fun e w' => ∃ v, e = .returned v ∧ Kd.R Kd.string 9 w' w.heap.size (fun _ => True) v (need k f t am nc ky' vl rs ws) ∧ Below w.heap.size w w' ∧ (ch k f t am nc ky' vl rs ws = 0 → ∃ g, v = .slice (some ⟨g, 0, none⟩) (need k f t am nc ky' vl rs ws).length 2) := by
  have HR := Lib.hid hr
  have HC := Lib.hid hc
  have HS := Lib.hid hs
  have HD := Lib.hid hd
  clear hr hc hs hd
  obtain ⟨x, hx⟩ : ∃ x, ch k f t am nc ky' vl rs ws = x := ⟨_, rfl⟩
  have hch := Lib.hid (fun W hw => chk_calls k f t am nc ky' vl A B c d rs ws W (Kd.C_below HR.out hw) HC.out (Kd.C_below HS.out hw) HD.out)
  rw [hx] at hch
  by_cases h0 : x = 0
  case neg =>
    have hN := Lib.hid (show need k f t am nc ky' vl rs ws = [] from if_neg (fun e => h0 (hx.symm.trans e)))
    have hx2 : (x != 0) = true := by simpa using h0
    have hC := Lib.hid (show ch k f t am nc ky' vl rs ws ≠ 0 from fun e => h0 (hx.symm.trans e))
    clear hx h0
    go_enter Tryd.func44, Tryd.ntmps44
    have HX := Lib.hid (Bq.first w #[.int .i64 k, .string f, .string t, .int .u64 am, .int .u64 nc, .string ky', .string vl, .slice A rs.length c, .slice B ws.length d])
    go_wp2_with (first
      | (go_at_call 41
         go_must (refine (hch.out _ HX.out.low).mono ?_)
         rintro e w2 ⟨rfl, hB⟩
         have HX := Lib.hid (HX.out.step hB)
         clear hB))
    go_ret
    refine ⟨_, rfl, ?_, HX.out.low, fun e => absurd e hC.out⟩
    rw [hN.out]
    exact Kd.R_nil _ _ _ _ _
  subst h0
  have hf := ch_fine hx
  have s1 : (⟨#[97, 58]⟩ : ByteArray).size + f.size ≤ 9223372036854775807 := by have := hf.f; have e : (⟨#[97, 58]⟩ : ByteArray).size = 2 := rfl; omega
  have s2 : (⟨#[97, 58]⟩ : ByteArray).size + t.size ≤ 9223372036854775807 := by have := hf.t; have e : (⟨#[97, 58]⟩ : ByteArray).size = 2 := rfl; omega
  have s3 : (⟨#[107, 58]⟩ : ByteArray).size + ky'.size ≤ 9223372036854775807 := by have := hf.ky; have e : (⟨#[107, 58]⟩ : ByteArray).size = 2 := rfl; omega
  have hN := Lib.hid (show need k f t am nc ky' vl rs ws = one2 (mn (nA f) (nB k t ky')) (mx (nA f) (nB k t ky')) from if_pos hx)
  have hk := hf.k
  clear hf hx
  go_enter Tryd.func44, Tryd.ntmps44
  have HX := Lib.hid (Bq.first w #[.int .i64 k, .string f, .string t, .int .u64 am, .int .u64 nc, .string ky', .string vl, .slice A rs.length c, .slice B ws.length d])
  go_upto_region 4 with (first
    | (go_at_call 41
       go_must (refine (hch.out _ HX.out.low).mono ?_)
       rintro e w2 ⟨rfl, hB⟩
       have HX := Lib.hid (HX.out.step hB)
       have c1 := blk_cell HX.out.box 1
       have c2 := blk_cell HX.out.box 2
       simp only [List.getElem?_toArray, List.getElem?_cons_zero, List.getElem?_cons_succ] at c1 c2
       clear hB))
  have hlow : w.heap.size < w2.heap.size := blk_lt HX.out.box
  have hg := blk_new w2 (.cells #[.string (nA f), .string (nA t)] 9)
  have HX := Lib.hid (HX.out.step ((Below.refl w2.heap.size w2).alloc (Nat.le_refl _) (.cells #[.string (nA f), .string (nA t)] 9)))
  change Code.wp _ _ _ _ (w2.alloc (.cells #[.string (nA f), .string (nA t)] 9))
  generalize w2.alloc (.cells #[.string (nA f), .string (nA t)] 9) = W at hg HX ⊢
  generalize w2.heap.size = g at hlow hg ⊢
  have HG := Lib.hid hg
  clear hg c1 c2 s1 s2
  have e0 := blk_cell HX.out.box 0
  have e5 := blk_cell HX.out.box 5
  have e6 := blk_cell HG.out 1
  have f6 := blk_frozen HG.out 1
  simp only [List.getElem?_toArray, List.getElem?_cons_zero, List.getElem?_cons_succ] at e0 e5 e6
  have hK : nK ky' = ⟨#[107, 58]⟩ ++ ky' := rfl
  rcases hk with rfl | rfl
  · have hb : nB 1 t ky' = nA t := rfl
    rw [hb] at hN
    go_wp2_with (first
      | (go_at_call 74
         go_must (refine (sort2_calls g (nA f) (nA t) _ HG.out).mono ?_)
         rintro e w4 ⟨rfl, hb, ho⟩
         have HG := Lib.hid hb
         have HB := Lib.hid (HX.out.low.trans (ho.below (B := w.heap.size) HX.out.low.size (fun i hi => by omega)))
         clear hb ho)
      | (go_at_call 75
         go_must (refine (compact2_calls g _ _ _ w.heap.size (Nat.le_of_lt hlow) HG.out).mono ?_)
         rintro e w5 ⟨v, rfl, hR, ho, hv⟩
         have HV := Lib.hid hv
         have HB := Lib.hid (HB.out.trans (ho.below (B := w.heap.size) HB.out.size (fun i hi => by omega)))
         have HR5 := Lib.hid hR
         clear hR ho hv))
    go_ret
    refine ⟨_, rfl, ?_, HB.out, fun _ => ⟨g, by rw [hN.out]; exact HV.out⟩⟩
    rw [hN.out]
    exact HR5.out
  · have hb : nB 2 t ky' = nK ky' := rfl
    rw [hb] at hN
    have hs := Lib.hid (show (W.setCell ⟨g, 1, none⟩ (.string (⟨#[107, 58]⟩ ++ ky'))).heap[g]? = some (.cells #[.string (nA f), .string (nK ky')] 9 (0, 0)) by simpa [nK] using blk_set HG.out 1 (.string (nK ky')))
    have hl := Lib.hid (show RowKit.Below w.heap.size w (W.setCell ⟨g, 1, none⟩ (.string (⟨#[107, 58]⟩ ++ ky'))) from HX.out.low.setCell (by dsimp only; omega) _)
    go_wp2_with (first
      | (go_at_call 74
         go_must (refine (sort2_calls g (nA f) (nK ky') _ hs.out).mono ?_)
         rintro e w4 ⟨rfl, hb, ho⟩
         have HG := Lib.hid hb
         have HB := Lib.hid (hl.out.trans (ho.below (B := w.heap.size) hl.out.size (fun i hi => by omega)))
         clear hb ho)
      | (go_at_call 75
         go_must (refine (compact2_calls g _ _ _ w.heap.size (Nat.le_of_lt hlow) HG.out).mono ?_)
         rintro e w5 ⟨v, rfl, hR, ho, hv⟩
         have HV := Lib.hid hv
         have HB := Lib.hid (HB.out.trans (ho.below (B := w.heap.size) HB.out.size (fun i hi => by omega)))
         have HR5 := Lib.hid hR
         clear hR ho hv))
    go_ret
    refine ⟨_, rfl, ?_, HB.out, fun _ => ⟨g, by rw [hN.out]; exact HV.out⟩⟩
    rw [hN.out]
    exact HR5.out
/-- The printer's form. -/
def tx_Needs.f (k : Int) (f t : ByteArray) (am nc : Int) (ky' vl : ByteArray) (rs ws : List ByteArray) : Option (List ByteArray) := some (need k f t am nc ky' vl rs ws)
theorem tx_Needs.calls (a0_0 : Int) (a0_1 a0_2 : ByteArray) (a0_3 a0_4 : Int) (a0_5 a0_6 : ByteArray) (A0_7 : Option Addr) (c0_7 : Nat) (l0_7 : List ByteArray) (A0_8 : Option Addr) (c0_8 : Nat) (l0_8 : List ByteArray) (r : List ByteArray) (w : World) (hr0_7 : Kd.C Kd.string w A0_7 l0_7.length l0_7) (hc0_7 : l0_7.length ≤ c0_7) (hr0_8 : Kd.C Kd.string w A0_8 l0_8.length l0_8) (hc0_8 : l0_8.length ≤ c0_8) (h : tx_Needs.f a0_0 a0_1 a0_2 a0_3 a0_4 a0_5 a0_6 l0_7 l0_8 = some r) :
    Calls Tryd.prog 44 #[.agg #[.int .i64 a0_0, .string a0_1, .string a0_2, .int .u64 a0_3, .int .u64 a0_4, .string a0_5, .string a0_6, .slice A0_7 l0_7.length c0_7, .slice A0_8 l0_8.length c0_8]] w fun e w' => ∃ v0_ : Value, e = .returned v0_ ∧ Kd.R Kd.string 9 w' w.heap.size (fun _ => True) v0_ r ∧ RowKit.Below w.heap.size w w' := by
  obtain rfl := Option.some.inj h
  exact (need_calls a0_0 a0_1 a0_2 a0_3 a0_4 a0_5 a0_6 A0_7 A0_8 c0_7 c0_8 l0_7 l0_8 w hr0_7 hc0_7 hr0_8 hc0_8).mono fun e w' ⟨v, h1, h2, h3, _⟩ => ⟨v, h1, h2, h3⟩
end Go.Proofs.YtndicjikjcifaaaDoor
