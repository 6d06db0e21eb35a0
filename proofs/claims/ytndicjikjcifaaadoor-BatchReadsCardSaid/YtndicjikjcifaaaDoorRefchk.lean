/- tuskref04.Name, Key, keys: the same as tx's. -/
import Derived.Test.YtndicjikjcifaaaDoorTxchk
import Derived.Test.YtndicjikjcifaaaDoorWirel
import Derived.Test.YtndicjikjcifaaaDoorPCkx1
import Derived.Test.YtndicjikjcifaaaDoorTxread
namespace Go.Proofs.YtndicjikjcifaaaDoor
open Go.RowKit Go.Shelf Go.Lib Go.Proofs.YtndicjikjcifaaaDoorW.PrintWords Go.Proofs.YtndicjikjcifaaaDoorW.PrintLast
open Go.Proofs.YtndicjikjcifaaaDoor.PCk
set_option linter.unusedVariables false
set_option linter.unusedSimpArgs false

theorem dropWhile_nil {α : Type} (p : α → Bool) : ∀ l : List α, l.dropWhile p = [] ↔ l.all p = true
  | [] => by simp
  | a :: r => by
    by_cases h : p a = true
    · rw [List.dropWhile_cons_of_pos h, dropWhile_nil p r]; simp [h]
    · rw [List.dropWhile_cons_of_neg h]; simp [h]
theorem trimS_nil (l cs : List UInt8) : trimS l cs = [] ↔ l.all (cs.contains ·) = true := by
  unfold trimS trimLeftS
  rw [dropWhile_nil]
  unfold trimRightS
  constructor
  · intro h
    cases hd : l.reverse.dropWhile (cs.contains ·) with
    | nil =>
      have := (dropWhile_nil _ _).1 hd
      simpa using this
    | cons a r =>
      rw [hd] at h
      have ha : cs.contains a = true := by
        rw [List.all_eq_true] at h
        exact h a (by simp)
      have := List.head_dropWhile_not (p := (cs.contains ·)) (l := l.reverse) (w := by rw [hd]; simp)
      simp only [hd, List.head_cons] at this
      rw [ha] at this
      cases this
  · intro h
    have : l.reverse.dropWhile (cs.contains ·) = [] := (dropWhile_nil _ _).2 (by simpa using h)
    rw [this]
    rfl
def okb (n : Nat) : Bool := decide ((97 ≤ n ∧ n ≤ 122) ∨ (48 ≤ n ∧ n ≤ 57))
theorem okb_t {n : Nat} (h : (97 ≤ n ∧ n ≤ 122) ∨ (48 ≤ n ∧ n ≤ 57)) : okb n = true := decide_eq_true h
theorem okb_f {n : Nat} (h : ¬ ((97 ≤ n ∧ n ≤ 122) ∨ (48 ≤ n ∧ n ≤ 57))) : okb n = false := decide_eq_false h
set_option maxRecDepth 100000 in
theorem cut_mem : ∀ n : Fin 256, cutset.contains (UInt8.ofNat n.val) = okb n.val := by decide
theorem cut_bn (s : ByteArray) (i : Nat) (h : i < s.size) : cutset.contains (s[i]'h) = okb (bn s i) := by
  have e : (s[i]'h) = UInt8.ofNat (bn s i) := by simp [bn, h]
  rw [e]
  exact cut_mem ⟨bn s i, bn_lt s i⟩
theorem drop_cons (s : ByteArray) (i : Nat) (h : i < s.size) : s.data.toList.drop i = (s[i]'h) :: s.data.toList.drop (i + 1) := by
  have h' : i < s.data.toList.length := by simpa using h
  rw [List.drop_eq_getElem_cons h']
  congr 1
theorem ref_name_l (s : ByteArray) (hs : s.size < 4611686018427387904) : ∀ d i K, i + d = s.size → d + 1 ≤ K →
    tuskref04_Name.l0 K s i = some ((s.data.toList.drop i).all (cutset.contains ·) && decide (1 ≤ s.size ∧ s.size ≤ 32))
  | 0, i, 0, hi, hK => by omega
  | 0, i, K + 1, hi, hK => by
    have e : s.data.toList.drop i = [] := List.drop_eq_nil_of_le (by simp; omega)
    rw [tuskref04_Name.l0, if_neg (by omega), e]
    by_cases h1 : 1 ≤ s.size
    · rw [if_pos (by omega)]
      simp only [List.all_nil, Bool.true_and]
      exact congrArg some (decide_eq_decide.2 (by omega))
    · rw [if_neg (by omega)]
      simp [h1]
  | d + 1, i, 0, hi, hK => by omega
  | d + 1, i, K + 1, hi, hK => by
    have hlt : i < s.size := by omega
    have ih := ref_name_l s hs d (i + 1) K (by omega) (by omega)
    have hw : wrap64 ((i : Int) + 1) = ((i + 1 : Nat) : Int) := by rw [w64 _ (by omega) (by omega)]; push_cast; rfl
    rw [tuskref04_Name.l0, if_pos (by omega), if_pos (by omega), bt_bn, hw, ih, drop_cons s i hlt, List.all_cons, cut_bn s i hlt]
    by_cases a1 : bn s i < 97
    · rw [if_pos (by omega)]
      by_cases a2 : bn s i < 48
      · rw [if_pos (by omega), okb_f (by omega)]; rfl
      · rw [if_neg (by omega)]
        by_cases a3 : bn s i > 57
        · rw [if_pos (by omega), okb_f (by omega)]; rfl
        · rw [if_neg (by omega), okb_t (by omega), Bool.true_and]
    · rw [if_neg (by omega)]
      by_cases a2 : bn s i > 122
      · rw [if_pos (by omega)]
        rw [if_neg (by omega), if_pos (by omega), okb_f (by omega)]; rfl
      · rw [if_neg (by omega), okb_t (by omega), Bool.true_and]
theorem ref_name (s : ByteArray) (hs : s.size < 4611686018427387904) (K : Nat) (hK : s.size + 1 ≤ K) : tuskref04_Name.f K s = some (nm s) := by
  have := ref_name_l s hs s.size 0 K (by omega) hK
  rw [tuskref04_Name.f]
  refine this.trans ?_
  rw [nm]
  congr 1
  rw [List.drop_zero]
  cases h : s.data.toList.all (cutset.contains ·) with
  | true =>
    have := (trimS_nil s.data.toList cutset).2 h
    simp only [this, and_true, Bool.true_and]
    exact decide_eq_decide.2 (by omega)
  | false =>
    have : ¬ trimS s.data.toList cutset = [] := fun e => by rw [(trimS_nil _ _).1 e] at h; cases h
    simp [this]
theorem ext2 (s : ByteArray) (h : 2 < s.size) (a b : UInt8) : ((s.extract 0 2).toList = [a, b]) ↔ Lib.hasPrefix s.data.toList [a, b] = true := by
  have e : (s.extract 0 2).toList = s.data.toList.take 2 := by
    rw [Lib.toList_data]
    simp
  rw [e]
  unfold Lib.hasPrefix
  rw [List.isPrefixOf_iff_prefix, List.prefix_iff_eq_take]
  exact ⟨fun h => h.symm, fun h => h.symm⟩
theorem ref_key (s : ByteArray) (hs : s.size < 4611686018427387904) (K : Nat) (hK : s.size + 1 ≤ K) : tuskref04_Key.f K s = some (ky s) := by
  rw [tuskref04_Key.f, ky]
  by_cases h : 2 < s.size
  · have hz : (s.extract 2 s.size).size < 4611686018427387904 := by rw [ByteArray.size_extract]; omega
    have hn := ref_name (s.extract 2 s.size) hz K (by rw [ByteArray.size_extract]; omega)
    rw [if_pos (by omega), if_pos (by omega), if_pos (by omega), hn, decide_eq_true h, Bool.true_and]
    by_cases h1 : Lib.hasPrefix s.data.toList [97, 58] = true
    · rw [if_pos ((ext2 s h 97 58).2 h1), h1]; rfl
    · rw [if_neg (fun e => h1 ((ext2 s h 97 58).1 e))]
      have h1 : Lib.hasPrefix s.data.toList [97, 58] = false := by simpa using h1
      by_cases h2 : Lib.hasPrefix s.data.toList [107, 58] = true
      · rw [if_pos ((ext2 s h 107 58).2 h2), h1, h2]; rfl
      · rw [if_neg (fun e => h2 ((ext2 s h 107 58).1 e))]
        have h2 : Lib.hasPrefix s.data.toList [107, 58] = false := by simpa using h2
        rw [h1, h2]; rfl
  · rw [if_neg (by omega), decide_eq_false h]
    rfl
theorem rd_at (xs : List ByteArray) (i : Nat) (h : i < xs.length) : rdOf ByteArray.empty xs (i : Int) = xs[i] := by
  simp [rdOf, h]
theorem ref_keys_l (xs : List ByteArray) (hx : xs.length ≤ 8) (M : Nat) (hs : ∀ x ∈ xs, x.size + 1 ≤ M ∧ x.size < 4611686018427387904) : ∀ d i K, i + d = xs.length → d + M + 1 ≤ K →
    tuskref04_keys.l0 K xs i = some (keL (prv xs i) (xs.drop i))
  | 0, i, 0, hi, hK => by omega
  | 0, i, K + 1, hi, hK => by
    rw [tuskref04_keys.l0, if_neg (by omega), show xs.drop i = [] by simp; omega]
    rfl
  | d + 1, i, 0, hi, hK => by omega
  | d + 1, i, K + 1, hi, hK => by
    have hlt : i < xs.length := by omega
    have ih := ref_keys_l xs hx M hs d (i + 1) K (by omega) (by omega)
    have hw : wrap64 ((i : Int) + 1) = ((i + 1 : Nat) : Int) := by rw [w64 _ (by omega) (by omega)]; push_cast; rfl
    have hm := hs xs[i] (List.getElem_mem hlt)
    rw [tuskref04_keys.l0, if_pos (by omega), if_pos (by omega), rd_at xs i hlt, ref_key _ hm.2 K (by omega), List.drop_eq_getElem_cons hlt, Option.bind_some]
    unfold keL
    cases hk : ky xs[i] with
    | false => simp
    | true =>
      rw [if_pos rfl, if_neg (show ¬ ((true : Bool) = false) by simp), hw, ih]
      cases i with
      | zero =>
        have h0 := rd_at xs 0 hlt
        rw [if_neg (by omega)]
        show some (keL (some (rdOf ByteArray.empty xs ((0 : Nat) : Int))) (List.drop (0 + 1) xs)) = some (if true = false then 9 else keL (some xs[0]) (List.drop (0 + 1) xs))
        rw [h0, if_neg (show ¬ ((true : Bool) = false) by simp)]
      | succ j =>
        have hv : wrap64 (((j + 1 : Nat) : Int) - 1) = (j : Int) := by rw [w64 _ (by omega) (by omega)]; omega
        have h0 := rd_at xs (j + 1) hlt
        rw [if_pos (by omega), hv, if_pos (by omega), if_pos (by omega)]
        show (if Op.bytesLess (rdOf ByteArray.empty xs (j : Int)).toList xs[j + 1].toList = true then some (keL (some (rdOf ByteArray.empty xs ((j + 1 : Nat) : Int))) (List.drop (j + 1 + 1) xs)) else some 9) = some (if Op.bytesLess (rdOf ByteArray.empty xs (j : Int)).toList xs[j + 1].toList = false then 9 else keL (some xs[j + 1]) (List.drop (j + 1 + 1) xs))
        rw [h0]
        cases Op.bytesLess (rdOf ByteArray.empty xs (j : Int)).toList xs[j + 1].toList <;> simp
theorem ref_keys (xs : List ByteArray) (M : Nat) (hs : ∀ x ∈ xs, x.size + 1 ≤ M ∧ x.size < 4611686018427387904) (K : Nat) (hK : M + 9 ≤ K) : tuskref04_keys.f K xs = some (ke xs) := by
  rw [tuskref04_keys.f, ke]
  by_cases h : xs.length ≤ 8
  · rw [if_neg (by omega), if_pos h]
    exact ref_keys_l xs h M hs xs.length 0 K (by omega) (by omega)
  · rw [if_pos (by omega), if_neg h]
end Go.Proofs.YtndicjikjcifaaaDoor

/- tuskref04.Check: what is wrong with a transaction. -/
namespace Go.Proofs.YtndicjikjcifaaaDoor
open Go.RowKit Go.Shelf Go.Lib Go.Proofs.YtndicjikjcifaaaDoorW.PrintWords Go.Proofs.YtndicjikjcifaaaDoorW.PrintLast
open Go.Proofs.YtndicjikjcifaaaDoor.PCk
set_option linter.unusedVariables false
set_option linter.unusedSimpArgs false

theorem name2_calls (s : ByteArray) (w : World) (hs : s.size < 4611686018427387904) :
    Calls Tryd.prog 49 #[.string s] w fun e w' => e = .returned (.bool (nm s)) ∧ Below w.heap.size w w' :=
  (tuskref04_Name.calls (s.size + 1) s (nm s) w (ref_name s hs _ (Nat.le_refl _))).mono fun e w' h => ⟨h.1, drawn_below h.2⟩
/-- Texts of a bounded size. -/
def Small (M : Nat) (xs : List ByteArray) : Prop := ∀ x ∈ xs, x.size + 1 ≤ M ∧ x.size < 4611686018427387904
theorem keys2_calls (A : Option Addr) (c : Nat) (xs : List ByteArray) (w : World) (hr : Kd.C Kd.string w A xs.length xs) (hc : xs.length ≤ c) (M : Nat) (hs : Small M xs) :
    Calls Tryd.prog 73 #[.slice A xs.length c] w fun e w' => e = .returned (.int .i64 (ke xs)) ∧ Below w.heap.size w w' :=
  (tuskref04_keys.calls (M + 9) A c xs (ke xs) w hr hc (ref_keys xs M hs _ (Nat.le_refl _))).mono fun e w' h => ⟨h.1, drawn_below h.2⟩
structure Bq (w : World) (bs : Array Value) (W : World) : Prop where
  low : Below w.heap.size w W
  box : W.heap[w.heap.size]? = some (.cells bs 33 (0, 0))
theorem Bq.step {w W W' : World} {bs : Array Value} (h : Bq w bs W) (hb : Below W.heap.size W W') : Bq w bs W' :=
  ⟨below_then h.low h.low.size hb, (hb.block _ (blk_lt h.box)).trans h.box⟩
theorem Bq.first (w : World) (bs : Array Value) : Bq w bs (w.alloc (.cells bs 33)) :=
  ⟨(Below.refl _ w).alloc (Nat.le_refl _) _, blk_new _ _⟩
set_option maxHeartbeats 8000000 in
set_option maxRecDepth 100000 in
theorem chk2_calls (k : Int) (f t : ByteArray) (am nc : Int) (ky' vl : ByteArray) (A B : Option Addr) (c d : Nat) (rs ws : List ByteArray) (w : World) (M : Nat)
    (hr : Kd.C Kd.string w A rs.length rs) (hc : rs.length ≤ c) (hs : Kd.C Kd.string w B ws.length ws) (hd : ws.length ≤ d)
    (hf : f.size < 4611686018427387904) (ht : t.size < 4611686018427387904) (hkk : ky'.size < 4611686018427387904) (hm : Small M rs) (hn : Small M ws) :
    Calls Tryd.prog 42 #[.agg #[.int .i64 k, .string f, .string t, .int .u64 am, .int .u64 nc, .string ky', .string vl, .slice A rs.length c, .slice B ws.length d]] w
      fun e w' => e = .returned (.int .i64 (ch k f t am nc ky' vl rs ws)) ∧ Below w.heap.size w w' := by
  have HR := Lib.hid hr
  have HC := Lib.hid hc
  have HS := Lib.hid hs
  have HD := Lib.hid hd
  have HF := Lib.hid hf
  have HT := Lib.hid ht
  have HK := Lib.hid hkk
  have HM := Lib.hid hm
  have HN := Lib.hid hn
  clear hr hc hs hd hf ht hkk hm hn
  go_enter Tryd.func42, Tryd.ntmps42
  have HX := Lib.hid (Bq.first w #[.int .i64 k, .string f, .string t, .int .u64 am, .int .u64 nc, .string ky', .string vl, .slice A rs.length c, .slice B ws.length d])
  by_cases h5 : chF k f t ky' vl am = 5
  · have hE : ch k f t am nc ky' vl rs ws = 5 := by rw [ch, h5]; rfl
    have e1 : (k == 1) = false := by
      cases h : (k == 1)
      · rfl
      · simp at h; subst h; simp [chF] at h5; split at h5 <;> cases h5
    have e2 : (k == 2) = false := by
      cases h : (k == 2)
      · rfl
      · simp at h; subst h; simp [chF] at h5; split at h5 <;> cases h5
    have n1 : (k != 1) = true := by simp [bne, e1]
    have n2 : (k != 2) = true := by simp [bne, e2]
    have n3 : (k != 1 && k != 2) = true := by rw [n1, n2]; rfl
    rw [hE]
    clear hE h5 e1 e2
    go_wp2
    go_ret
    exact ⟨rfl, HX.out.low⟩
  have hnil : ∀ s : ByteArray, s.toList.isEmpty = true ∨ s.toList.isEmpty = false := fun s => by cases s.toList.isEmpty <;> simp
  rcases (show k = 1 ∨ k = 2 by
    by_cases h1 : k = 1
    · exact .inl h1
    · by_cases h2 : k = 2
      · exact .inr h2
      · exact absurd (by simp [chF, h1, h2]) h5) with rfl | rfl
  · clear h5
    cases h1 : nm f with
    | false =>
      have hE : ch 1 f t am nc ky' vl rs ws = 3 := by simp [ch, chF, h1]
      rw [hE]
      clear hE hnil
      go_wp2_with (first
        | (go_at_call 49
           first
             | (with_reducible refine (name2_calls f _ HF.out).mono ?_)
             | (with_reducible refine (name2_calls t _ HT.out).mono ?_)
             | (with_reducible refine (name2_calls ky' _ HK.out).mono ?_)
           rintro e w2 ⟨rfl, hB⟩
           have HX := Lib.hid (HX.out.step hB)
           clear hB
           have c1 : w2.cell? ⟨w.heap.size, 1, none⟩ = some (.string f) := blk_cell HX.out.box 1
           have c2 : w2.cell? ⟨w.heap.size, 2, none⟩ = some (.string t) := blk_cell HX.out.box 2
           have c3 : w2.cell? ⟨w.heap.size, 3, none⟩ = some (.int .u64 am) := blk_cell HX.out.box 3
           have c4 : w2.cell? ⟨w.heap.size, 4, none⟩ = some (.int .u64 nc) := blk_cell HX.out.box 4
           have c5 : w2.cell? ⟨w.heap.size, 5, none⟩ = some (.string ky') := blk_cell HX.out.box 5
           have c6 : w2.cell? ⟨w.heap.size, 6, none⟩ = some (.string vl) := blk_cell HX.out.box 6
           have c7 : w2.cell? ⟨w.heap.size, 7, none⟩ = some (.slice A rs.length c) := blk_cell HX.out.box 7
           have c8 : w2.cell? ⟨w.heap.size, 8, none⟩ = some (.slice B ws.length d) := blk_cell HX.out.box 8
           skip)
        | (go_at_call 73
           first
             | (with_reducible refine (keys2_calls A c rs _ (Kd.C_below HR.out HX.out.low) HC.out M HM.out).mono ?_)
             | (with_reducible refine (keys2_calls B d ws _ (Kd.C_below HS.out HX.out.low) HD.out M HN.out).mono ?_)
           rintro e w2 ⟨rfl, hB⟩
           have HX := Lib.hid (HX.out.step hB)
           clear hB
           have c1 : w2.cell? ⟨w.heap.size, 1, none⟩ = some (.string f) := blk_cell HX.out.box 1
           have c2 : w2.cell? ⟨w.heap.size, 2, none⟩ = some (.string t) := blk_cell HX.out.box 2
           have c3 : w2.cell? ⟨w.heap.size, 3, none⟩ = some (.int .u64 am) := blk_cell HX.out.box 3
           have c4 : w2.cell? ⟨w.heap.size, 4, none⟩ = some (.int .u64 nc) := blk_cell HX.out.box 4
           have c5 : w2.cell? ⟨w.heap.size, 5, none⟩ = some (.string ky') := blk_cell HX.out.box 5
           have c6 : w2.cell? ⟨w.heap.size, 6, none⟩ = some (.string vl) := blk_cell HX.out.box 6
           have c7 : w2.cell? ⟨w.heap.size, 7, none⟩ = some (.slice A rs.length c) := blk_cell HX.out.box 7
           have c8 : w2.cell? ⟨w.heap.size, 8, none⟩ = some (.slice B ws.length d) := blk_cell HX.out.box 8
           skip))
      go_ret
      exact ⟨rfl, HX.out.low⟩
    | true =>
      cases h2 : nm t with
      | false =>
        have hE : ch 1 f t am nc ky' vl rs ws = 3 := by simp [ch, chF, h1, h2]
        rw [hE]
        clear hE hnil
        go_wp2_with (first
          | (go_at_call 49
             first
               | (with_reducible refine (name2_calls f _ HF.out).mono ?_)
               | (with_reducible refine (name2_calls t _ HT.out).mono ?_)
               | (with_reducible refine (name2_calls ky' _ HK.out).mono ?_)
             rintro e w2 ⟨rfl, hB⟩
             have HX := Lib.hid (HX.out.step hB)
             clear hB
             have c1 : w2.cell? ⟨w.heap.size, 1, none⟩ = some (.string f) := blk_cell HX.out.box 1
             have c2 : w2.cell? ⟨w.heap.size, 2, none⟩ = some (.string t) := blk_cell HX.out.box 2
             have c3 : w2.cell? ⟨w.heap.size, 3, none⟩ = some (.int .u64 am) := blk_cell HX.out.box 3
             have c4 : w2.cell? ⟨w.heap.size, 4, none⟩ = some (.int .u64 nc) := blk_cell HX.out.box 4
             have c5 : w2.cell? ⟨w.heap.size, 5, none⟩ = some (.string ky') := blk_cell HX.out.box 5
             have c6 : w2.cell? ⟨w.heap.size, 6, none⟩ = some (.string vl) := blk_cell HX.out.box 6
             have c7 : w2.cell? ⟨w.heap.size, 7, none⟩ = some (.slice A rs.length c) := blk_cell HX.out.box 7
             have c8 : w2.cell? ⟨w.heap.size, 8, none⟩ = some (.slice B ws.length d) := blk_cell HX.out.box 8
             skip)
          | (go_at_call 73
             first
               | (with_reducible refine (keys2_calls A c rs _ (Kd.C_below HR.out HX.out.low) HC.out M HM.out).mono ?_)
               | (with_reducible refine (keys2_calls B d ws _ (Kd.C_below HS.out HX.out.low) HD.out M HN.out).mono ?_)
             rintro e w2 ⟨rfl, hB⟩
             have HX := Lib.hid (HX.out.step hB)
             clear hB
             have c1 : w2.cell? ⟨w.heap.size, 1, none⟩ = some (.string f) := blk_cell HX.out.box 1
             have c2 : w2.cell? ⟨w.heap.size, 2, none⟩ = some (.string t) := blk_cell HX.out.box 2
             have c3 : w2.cell? ⟨w.heap.size, 3, none⟩ = some (.int .u64 am) := blk_cell HX.out.box 3
             have c4 : w2.cell? ⟨w.heap.size, 4, none⟩ = some (.int .u64 nc) := blk_cell HX.out.box 4
             have c5 : w2.cell? ⟨w.heap.size, 5, none⟩ = some (.string ky') := blk_cell HX.out.box 5
             have c6 : w2.cell? ⟨w.heap.size, 6, none⟩ = some (.string vl) := blk_cell HX.out.box 6
             have c7 : w2.cell? ⟨w.heap.size, 7, none⟩ = some (.slice A rs.length c) := blk_cell HX.out.box 7
             have c8 : w2.cell? ⟨w.heap.size, 8, none⟩ = some (.slice B ws.length d) := blk_cell HX.out.box 8
             skip))
        go_ret
        exact ⟨rfl, HX.out.low⟩
      | true =>
        rcases hnil ky' with h3 | h3
        · rcases hnil vl with h4 | h4
          · have hk : ∀ x, chR am nc rs ws = x → ch 1 f t am nc ky' vl rs ws = x := fun x h => by simp [ch, chF, h1, h2, h3, h4]; exact h
            by_cases a1 : am ≤ 4611686018427387903
            · have d1 : decide ((4611686018427387903 : Int) < am) = false := by simp; omega
              by_cases a2 : nc ≤ 4611686018427387903
              · have d2 : decide ((4611686018427387903 : Int) < nc) = false := by simp; omega
                by_cases k1 : ke rs = 0
                · rw [hk (ke ws) (by simp [chR, a1, a2, k1])]
                  have j1 : (ke rs == 0) = true := by simp [k1]
                  clear hk hnil a1 a2 k1
                  go_wp2_with (first
                    | (go_at_call 49
                       first
                         | (with_reducible refine (name2_calls f _ HF.out).mono ?_)
                         | (with_reducible refine (name2_calls t _ HT.out).mono ?_)
                         | (with_reducible refine (name2_calls ky' _ HK.out).mono ?_)
                       rintro e w2 ⟨rfl, hB⟩
                       have HX := Lib.hid (HX.out.step hB)
                       clear hB
                       have c1 : w2.cell? ⟨w.heap.size, 1, none⟩ = some (.string f) := blk_cell HX.out.box 1
                       have c2 : w2.cell? ⟨w.heap.size, 2, none⟩ = some (.string t) := blk_cell HX.out.box 2
                       have c3 : w2.cell? ⟨w.heap.size, 3, none⟩ = some (.int .u64 am) := blk_cell HX.out.box 3
                       have c4 : w2.cell? ⟨w.heap.size, 4, none⟩ = some (.int .u64 nc) := blk_cell HX.out.box 4
                       have c5 : w2.cell? ⟨w.heap.size, 5, none⟩ = some (.string ky') := blk_cell HX.out.box 5
                       have c6 : w2.cell? ⟨w.heap.size, 6, none⟩ = some (.string vl) := blk_cell HX.out.box 6
                       have c7 : w2.cell? ⟨w.heap.size, 7, none⟩ = some (.slice A rs.length c) := blk_cell HX.out.box 7
                       have c8 : w2.cell? ⟨w.heap.size, 8, none⟩ = some (.slice B ws.length d) := blk_cell HX.out.box 8
                       skip)
                    | (go_at_call 73
                       first
                         | (with_reducible refine (keys2_calls A c rs _ (Kd.C_below HR.out HX.out.low) HC.out M HM.out).mono ?_)
                         | (with_reducible refine (keys2_calls B d ws _ (Kd.C_below HS.out HX.out.low) HD.out M HN.out).mono ?_)
                       rintro e w2 ⟨rfl, hB⟩
                       have HX := Lib.hid (HX.out.step hB)
                       clear hB
                       have c1 : w2.cell? ⟨w.heap.size, 1, none⟩ = some (.string f) := blk_cell HX.out.box 1
                       have c2 : w2.cell? ⟨w.heap.size, 2, none⟩ = some (.string t) := blk_cell HX.out.box 2
                       have c3 : w2.cell? ⟨w.heap.size, 3, none⟩ = some (.int .u64 am) := blk_cell HX.out.box 3
                       have c4 : w2.cell? ⟨w.heap.size, 4, none⟩ = some (.int .u64 nc) := blk_cell HX.out.box 4
                       have c5 : w2.cell? ⟨w.heap.size, 5, none⟩ = some (.string ky') := blk_cell HX.out.box 5
                       have c6 : w2.cell? ⟨w.heap.size, 6, none⟩ = some (.string vl) := blk_cell HX.out.box 6
                       have c7 : w2.cell? ⟨w.heap.size, 7, none⟩ = some (.slice A rs.length c) := blk_cell HX.out.box 7
                       have c8 : w2.cell? ⟨w.heap.size, 8, none⟩ = some (.slice B ws.length d) := blk_cell HX.out.box 8
                       skip))
                  go_ret
                  exact ⟨rfl, HX.out.low⟩
                · rw [hk (ke rs) (by simp [chR, a1, a2, k1])]
                  have j1 : (ke rs == 0) = false := by simpa using k1
                  clear hk hnil a1 a2 k1
                  go_wp2_with (first
                    | (go_at_call 49
                       first
                         | (with_reducible refine (name2_calls f _ HF.out).mono ?_)
                         | (with_reducible refine (name2_calls t _ HT.out).mono ?_)
                         | (with_reducible refine (name2_calls ky' _ HK.out).mono ?_)
                       rintro e w2 ⟨rfl, hB⟩
                       have HX := Lib.hid (HX.out.step hB)
                       clear hB
                       have c1 : w2.cell? ⟨w.heap.size, 1, none⟩ = some (.string f) := blk_cell HX.out.box 1
                       have c2 : w2.cell? ⟨w.heap.size, 2, none⟩ = some (.string t) := blk_cell HX.out.box 2
                       have c3 : w2.cell? ⟨w.heap.size, 3, none⟩ = some (.int .u64 am) := blk_cell HX.out.box 3
                       have c4 : w2.cell? ⟨w.heap.size, 4, none⟩ = some (.int .u64 nc) := blk_cell HX.out.box 4
                       have c5 : w2.cell? ⟨w.heap.size, 5, none⟩ = some (.string ky') := blk_cell HX.out.box 5
                       have c6 : w2.cell? ⟨w.heap.size, 6, none⟩ = some (.string vl) := blk_cell HX.out.box 6
                       have c7 : w2.cell? ⟨w.heap.size, 7, none⟩ = some (.slice A rs.length c) := blk_cell HX.out.box 7
                       have c8 : w2.cell? ⟨w.heap.size, 8, none⟩ = some (.slice B ws.length d) := blk_cell HX.out.box 8
                       skip)
                    | (go_at_call 73
                       first
                         | (with_reducible refine (keys2_calls A c rs _ (Kd.C_below HR.out HX.out.low) HC.out M HM.out).mono ?_)
                         | (with_reducible refine (keys2_calls B d ws _ (Kd.C_below HS.out HX.out.low) HD.out M HN.out).mono ?_)
                       rintro e w2 ⟨rfl, hB⟩
                       have HX := Lib.hid (HX.out.step hB)
                       clear hB
                       have c1 : w2.cell? ⟨w.heap.size, 1, none⟩ = some (.string f) := blk_cell HX.out.box 1
                       have c2 : w2.cell? ⟨w.heap.size, 2, none⟩ = some (.string t) := blk_cell HX.out.box 2
                       have c3 : w2.cell? ⟨w.heap.size, 3, none⟩ = some (.int .u64 am) := blk_cell HX.out.box 3
                       have c4 : w2.cell? ⟨w.heap.size, 4, none⟩ = some (.int .u64 nc) := blk_cell HX.out.box 4
                       have c5 : w2.cell? ⟨w.heap.size, 5, none⟩ = some (.string ky') := blk_cell HX.out.box 5
                       have c6 : w2.cell? ⟨w.heap.size, 6, none⟩ = some (.string vl) := blk_cell HX.out.box 6
                       have c7 : w2.cell? ⟨w.heap.size, 7, none⟩ = some (.slice A rs.length c) := blk_cell HX.out.box 7
                       have c8 : w2.cell? ⟨w.heap.size, 8, none⟩ = some (.slice B ws.length d) := blk_cell HX.out.box 8
                       skip))
                  go_ret
                  exact ⟨rfl, HX.out.low⟩
              · have d2 : decide ((4611686018427387903 : Int) < nc) = true := by simp; omega
                rw [hk 2 (by simp [chR, a2])]
                clear hk hnil a1 a2
                go_wp2_with (first
                  | (go_at_call 49
                     first
                       | (with_reducible refine (name2_calls f _ HF.out).mono ?_)
                       | (with_reducible refine (name2_calls t _ HT.out).mono ?_)
                       | (with_reducible refine (name2_calls ky' _ HK.out).mono ?_)
                     rintro e w2 ⟨rfl, hB⟩
                     have HX := Lib.hid (HX.out.step hB)
                     clear hB
                     have c1 : w2.cell? ⟨w.heap.size, 1, none⟩ = some (.string f) := blk_cell HX.out.box 1
                     have c2 : w2.cell? ⟨w.heap.size, 2, none⟩ = some (.string t) := blk_cell HX.out.box 2
                     have c3 : w2.cell? ⟨w.heap.size, 3, none⟩ = some (.int .u64 am) := blk_cell HX.out.box 3
                     have c4 : w2.cell? ⟨w.heap.size, 4, none⟩ = some (.int .u64 nc) := blk_cell HX.out.box 4
                     have c5 : w2.cell? ⟨w.heap.size, 5, none⟩ = some (.string ky') := blk_cell HX.out.box 5
                     have c6 : w2.cell? ⟨w.heap.size, 6, none⟩ = some (.string vl) := blk_cell HX.out.box 6
                     have c7 : w2.cell? ⟨w.heap.size, 7, none⟩ = some (.slice A rs.length c) := blk_cell HX.out.box 7
                     have c8 : w2.cell? ⟨w.heap.size, 8, none⟩ = some (.slice B ws.length d) := blk_cell HX.out.box 8
                     skip)
                  | (go_at_call 73
                     first
                       | (with_reducible refine (keys2_calls A c rs _ (Kd.C_below HR.out HX.out.low) HC.out M HM.out).mono ?_)
                       | (with_reducible refine (keys2_calls B d ws _ (Kd.C_below HS.out HX.out.low) HD.out M HN.out).mono ?_)
                     rintro e w2 ⟨rfl, hB⟩
                     have HX := Lib.hid (HX.out.step hB)
                     clear hB
                     have c1 : w2.cell? ⟨w.heap.size, 1, none⟩ = some (.string f) := blk_cell HX.out.box 1
                     have c2 : w2.cell? ⟨w.heap.size, 2, none⟩ = some (.string t) := blk_cell HX.out.box 2
                     have c3 : w2.cell? ⟨w.heap.size, 3, none⟩ = some (.int .u64 am) := blk_cell HX.out.box 3
                     have c4 : w2.cell? ⟨w.heap.size, 4, none⟩ = some (.int .u64 nc) := blk_cell HX.out.box 4
                     have c5 : w2.cell? ⟨w.heap.size, 5, none⟩ = some (.string ky') := blk_cell HX.out.box 5
                     have c6 : w2.cell? ⟨w.heap.size, 6, none⟩ = some (.string vl) := blk_cell HX.out.box 6
                     have c7 : w2.cell? ⟨w.heap.size, 7, none⟩ = some (.slice A rs.length c) := blk_cell HX.out.box 7
                     have c8 : w2.cell? ⟨w.heap.size, 8, none⟩ = some (.slice B ws.length d) := blk_cell HX.out.box 8
                     skip))
                go_ret
                exact ⟨rfl, HX.out.low⟩
            · have d1 : decide ((4611686018427387903 : Int) < am) = true := by simp; omega
              rw [hk 2 (by simp [chR, a1])]
              clear hk hnil a1
              go_wp2_with (first
                | (go_at_call 49
                   first
                     | (with_reducible refine (name2_calls f _ HF.out).mono ?_)
                     | (with_reducible refine (name2_calls t _ HT.out).mono ?_)
                     | (with_reducible refine (name2_calls ky' _ HK.out).mono ?_)
                   rintro e w2 ⟨rfl, hB⟩
                   have HX := Lib.hid (HX.out.step hB)
                   clear hB
                   have c1 : w2.cell? ⟨w.heap.size, 1, none⟩ = some (.string f) := blk_cell HX.out.box 1
                   have c2 : w2.cell? ⟨w.heap.size, 2, none⟩ = some (.string t) := blk_cell HX.out.box 2
                   have c3 : w2.cell? ⟨w.heap.size, 3, none⟩ = some (.int .u64 am) := blk_cell HX.out.box 3
                   have c4 : w2.cell? ⟨w.heap.size, 4, none⟩ = some (.int .u64 nc) := blk_cell HX.out.box 4
                   have c5 : w2.cell? ⟨w.heap.size, 5, none⟩ = some (.string ky') := blk_cell HX.out.box 5
                   have c6 : w2.cell? ⟨w.heap.size, 6, none⟩ = some (.string vl) := blk_cell HX.out.box 6
                   have c7 : w2.cell? ⟨w.heap.size, 7, none⟩ = some (.slice A rs.length c) := blk_cell HX.out.box 7
                   have c8 : w2.cell? ⟨w.heap.size, 8, none⟩ = some (.slice B ws.length d) := blk_cell HX.out.box 8
                   skip)
                | (go_at_call 73
                   first
                     | (with_reducible refine (keys2_calls A c rs _ (Kd.C_below HR.out HX.out.low) HC.out M HM.out).mono ?_)
                     | (with_reducible refine (keys2_calls B d ws _ (Kd.C_below HS.out HX.out.low) HD.out M HN.out).mono ?_)
                   rintro e w2 ⟨rfl, hB⟩
                   have HX := Lib.hid (HX.out.step hB)
                   clear hB
                   have c1 : w2.cell? ⟨w.heap.size, 1, none⟩ = some (.string f) := blk_cell HX.out.box 1
                   have c2 : w2.cell? ⟨w.heap.size, 2, none⟩ = some (.string t) := blk_cell HX.out.box 2
                   have c3 : w2.cell? ⟨w.heap.size, 3, none⟩ = some (.int .u64 am) := blk_cell HX.out.box 3
                   have c4 : w2.cell? ⟨w.heap.size, 4, none⟩ = some (.int .u64 nc) := blk_cell HX.out.box 4
                   have c5 : w2.cell? ⟨w.heap.size, 5, none⟩ = some (.string ky') := blk_cell HX.out.box 5
                   have c6 : w2.cell? ⟨w.heap.size, 6, none⟩ = some (.string vl) := blk_cell HX.out.box 6
                   have c7 : w2.cell? ⟨w.heap.size, 7, none⟩ = some (.slice A rs.length c) := blk_cell HX.out.box 7
                   have c8 : w2.cell? ⟨w.heap.size, 8, none⟩ = some (.slice B ws.length d) := blk_cell HX.out.box 8
                   skip))
              go_ret
              exact ⟨rfl, HX.out.low⟩
          ·
            have hE : ch 1 f t am nc ky' vl rs ws = 3 := by simp [ch, chF, h1, h2, h3, h4]
            rw [hE]
            clear hE hnil
            go_wp2_with (first
              | (go_at_call 49
                 first
                   | (with_reducible refine (name2_calls f _ HF.out).mono ?_)
                   | (with_reducible refine (name2_calls t _ HT.out).mono ?_)
                   | (with_reducible refine (name2_calls ky' _ HK.out).mono ?_)
                 rintro e w2 ⟨rfl, hB⟩
                 have HX := Lib.hid (HX.out.step hB)
                 clear hB
                 have c1 : w2.cell? ⟨w.heap.size, 1, none⟩ = some (.string f) := blk_cell HX.out.box 1
                 have c2 : w2.cell? ⟨w.heap.size, 2, none⟩ = some (.string t) := blk_cell HX.out.box 2
                 have c3 : w2.cell? ⟨w.heap.size, 3, none⟩ = some (.int .u64 am) := blk_cell HX.out.box 3
                 have c4 : w2.cell? ⟨w.heap.size, 4, none⟩ = some (.int .u64 nc) := blk_cell HX.out.box 4
                 have c5 : w2.cell? ⟨w.heap.size, 5, none⟩ = some (.string ky') := blk_cell HX.out.box 5
                 have c6 : w2.cell? ⟨w.heap.size, 6, none⟩ = some (.string vl) := blk_cell HX.out.box 6
                 have c7 : w2.cell? ⟨w.heap.size, 7, none⟩ = some (.slice A rs.length c) := blk_cell HX.out.box 7
                 have c8 : w2.cell? ⟨w.heap.size, 8, none⟩ = some (.slice B ws.length d) := blk_cell HX.out.box 8
                 skip)
              | (go_at_call 73
                 first
                   | (with_reducible refine (keys2_calls A c rs _ (Kd.C_below HR.out HX.out.low) HC.out M HM.out).mono ?_)
                   | (with_reducible refine (keys2_calls B d ws _ (Kd.C_below HS.out HX.out.low) HD.out M HN.out).mono ?_)
                 rintro e w2 ⟨rfl, hB⟩
                 have HX := Lib.hid (HX.out.step hB)
                 clear hB
                 have c1 : w2.cell? ⟨w.heap.size, 1, none⟩ = some (.string f) := blk_cell HX.out.box 1
                 have c2 : w2.cell? ⟨w.heap.size, 2, none⟩ = some (.string t) := blk_cell HX.out.box 2
                 have c3 : w2.cell? ⟨w.heap.size, 3, none⟩ = some (.int .u64 am) := blk_cell HX.out.box 3
                 have c4 : w2.cell? ⟨w.heap.size, 4, none⟩ = some (.int .u64 nc) := blk_cell HX.out.box 4
                 have c5 : w2.cell? ⟨w.heap.size, 5, none⟩ = some (.string ky') := blk_cell HX.out.box 5
                 have c6 : w2.cell? ⟨w.heap.size, 6, none⟩ = some (.string vl) := blk_cell HX.out.box 6
                 have c7 : w2.cell? ⟨w.heap.size, 7, none⟩ = some (.slice A rs.length c) := blk_cell HX.out.box 7
                 have c8 : w2.cell? ⟨w.heap.size, 8, none⟩ = some (.slice B ws.length d) := blk_cell HX.out.box 8
                 skip))
            go_ret
            exact ⟨rfl, HX.out.low⟩
        ·
          have hE : ch 1 f t am nc ky' vl rs ws = 3 := by simp [ch, chF, h1, h2, h3]
          rw [hE]
          clear hE hnil
          go_wp2_with (first
            | (go_at_call 49
               first
                 | (with_reducible refine (name2_calls f _ HF.out).mono ?_)
                 | (with_reducible refine (name2_calls t _ HT.out).mono ?_)
                 | (with_reducible refine (name2_calls ky' _ HK.out).mono ?_)
               rintro e w2 ⟨rfl, hB⟩
               have HX := Lib.hid (HX.out.step hB)
               clear hB
               have c1 : w2.cell? ⟨w.heap.size, 1, none⟩ = some (.string f) := blk_cell HX.out.box 1
               have c2 : w2.cell? ⟨w.heap.size, 2, none⟩ = some (.string t) := blk_cell HX.out.box 2
               have c3 : w2.cell? ⟨w.heap.size, 3, none⟩ = some (.int .u64 am) := blk_cell HX.out.box 3
               have c4 : w2.cell? ⟨w.heap.size, 4, none⟩ = some (.int .u64 nc) := blk_cell HX.out.box 4
               have c5 : w2.cell? ⟨w.heap.size, 5, none⟩ = some (.string ky') := blk_cell HX.out.box 5
               have c6 : w2.cell? ⟨w.heap.size, 6, none⟩ = some (.string vl) := blk_cell HX.out.box 6
               have c7 : w2.cell? ⟨w.heap.size, 7, none⟩ = some (.slice A rs.length c) := blk_cell HX.out.box 7
               have c8 : w2.cell? ⟨w.heap.size, 8, none⟩ = some (.slice B ws.length d) := blk_cell HX.out.box 8
               skip)
            | (go_at_call 73
               first
                 | (with_reducible refine (keys2_calls A c rs _ (Kd.C_below HR.out HX.out.low) HC.out M HM.out).mono ?_)
                 | (with_reducible refine (keys2_calls B d ws _ (Kd.C_below HS.out HX.out.low) HD.out M HN.out).mono ?_)
               rintro e w2 ⟨rfl, hB⟩
               have HX := Lib.hid (HX.out.step hB)
               clear hB
               have c1 : w2.cell? ⟨w.heap.size, 1, none⟩ = some (.string f) := blk_cell HX.out.box 1
               have c2 : w2.cell? ⟨w.heap.size, 2, none⟩ = some (.string t) := blk_cell HX.out.box 2
               have c3 : w2.cell? ⟨w.heap.size, 3, none⟩ = some (.int .u64 am) := blk_cell HX.out.box 3
               have c4 : w2.cell? ⟨w.heap.size, 4, none⟩ = some (.int .u64 nc) := blk_cell HX.out.box 4
               have c5 : w2.cell? ⟨w.heap.size, 5, none⟩ = some (.string ky') := blk_cell HX.out.box 5
               have c6 : w2.cell? ⟨w.heap.size, 6, none⟩ = some (.string vl) := blk_cell HX.out.box 6
               have c7 : w2.cell? ⟨w.heap.size, 7, none⟩ = some (.slice A rs.length c) := blk_cell HX.out.box 7
               have c8 : w2.cell? ⟨w.heap.size, 8, none⟩ = some (.slice B ws.length d) := blk_cell HX.out.box 8
               skip))
          go_ret
          exact ⟨rfl, HX.out.low⟩
  · clear h5
    cases h1 : nm f with
    | false =>
      have hE : ch 2 f t am nc ky' vl rs ws = 3 := by simp [ch, chF, h1]
      rw [hE]
      clear hE hnil
      go_wp2_with (first
        | (go_at_call 49
           first
             | (with_reducible refine (name2_calls f _ HF.out).mono ?_)
             | (with_reducible refine (name2_calls t _ HT.out).mono ?_)
             | (with_reducible refine (name2_calls ky' _ HK.out).mono ?_)
           rintro e w2 ⟨rfl, hB⟩
           have HX := Lib.hid (HX.out.step hB)
           clear hB
           have c1 : w2.cell? ⟨w.heap.size, 1, none⟩ = some (.string f) := blk_cell HX.out.box 1
           have c2 : w2.cell? ⟨w.heap.size, 2, none⟩ = some (.string t) := blk_cell HX.out.box 2
           have c3 : w2.cell? ⟨w.heap.size, 3, none⟩ = some (.int .u64 am) := blk_cell HX.out.box 3
           have c4 : w2.cell? ⟨w.heap.size, 4, none⟩ = some (.int .u64 nc) := blk_cell HX.out.box 4
           have c5 : w2.cell? ⟨w.heap.size, 5, none⟩ = some (.string ky') := blk_cell HX.out.box 5
           have c6 : w2.cell? ⟨w.heap.size, 6, none⟩ = some (.string vl) := blk_cell HX.out.box 6
           have c7 : w2.cell? ⟨w.heap.size, 7, none⟩ = some (.slice A rs.length c) := blk_cell HX.out.box 7
           have c8 : w2.cell? ⟨w.heap.size, 8, none⟩ = some (.slice B ws.length d) := blk_cell HX.out.box 8
           skip)
        | (go_at_call 73
           first
             | (with_reducible refine (keys2_calls A c rs _ (Kd.C_below HR.out HX.out.low) HC.out M HM.out).mono ?_)
             | (with_reducible refine (keys2_calls B d ws _ (Kd.C_below HS.out HX.out.low) HD.out M HN.out).mono ?_)
           rintro e w2 ⟨rfl, hB⟩
           have HX := Lib.hid (HX.out.step hB)
           clear hB
           have c1 : w2.cell? ⟨w.heap.size, 1, none⟩ = some (.string f) := blk_cell HX.out.box 1
           have c2 : w2.cell? ⟨w.heap.size, 2, none⟩ = some (.string t) := blk_cell HX.out.box 2
           have c3 : w2.cell? ⟨w.heap.size, 3, none⟩ = some (.int .u64 am) := blk_cell HX.out.box 3
           have c4 : w2.cell? ⟨w.heap.size, 4, none⟩ = some (.int .u64 nc) := blk_cell HX.out.box 4
           have c5 : w2.cell? ⟨w.heap.size, 5, none⟩ = some (.string ky') := blk_cell HX.out.box 5
           have c6 : w2.cell? ⟨w.heap.size, 6, none⟩ = some (.string vl) := blk_cell HX.out.box 6
           have c7 : w2.cell? ⟨w.heap.size, 7, none⟩ = some (.slice A rs.length c) := blk_cell HX.out.box 7
           have c8 : w2.cell? ⟨w.heap.size, 8, none⟩ = some (.slice B ws.length d) := blk_cell HX.out.box 8
           skip))
      go_ret
      exact ⟨rfl, HX.out.low⟩
    | true =>
      cases h2 : nm ky' with
      | false =>
        have hE : ch 2 f t am nc ky' vl rs ws = 3 := by simp [ch, chF, h1, h2]
        rw [hE]
        clear hE hnil
        go_wp2_with (first
          | (go_at_call 49
             first
               | (with_reducible refine (name2_calls f _ HF.out).mono ?_)
               | (with_reducible refine (name2_calls t _ HT.out).mono ?_)
               | (with_reducible refine (name2_calls ky' _ HK.out).mono ?_)
             rintro e w2 ⟨rfl, hB⟩
             have HX := Lib.hid (HX.out.step hB)
             clear hB
             have c1 : w2.cell? ⟨w.heap.size, 1, none⟩ = some (.string f) := blk_cell HX.out.box 1
             have c2 : w2.cell? ⟨w.heap.size, 2, none⟩ = some (.string t) := blk_cell HX.out.box 2
             have c3 : w2.cell? ⟨w.heap.size, 3, none⟩ = some (.int .u64 am) := blk_cell HX.out.box 3
             have c4 : w2.cell? ⟨w.heap.size, 4, none⟩ = some (.int .u64 nc) := blk_cell HX.out.box 4
             have c5 : w2.cell? ⟨w.heap.size, 5, none⟩ = some (.string ky') := blk_cell HX.out.box 5
             have c6 : w2.cell? ⟨w.heap.size, 6, none⟩ = some (.string vl) := blk_cell HX.out.box 6
             have c7 : w2.cell? ⟨w.heap.size, 7, none⟩ = some (.slice A rs.length c) := blk_cell HX.out.box 7
             have c8 : w2.cell? ⟨w.heap.size, 8, none⟩ = some (.slice B ws.length d) := blk_cell HX.out.box 8
             skip)
          | (go_at_call 73
             first
               | (with_reducible refine (keys2_calls A c rs _ (Kd.C_below HR.out HX.out.low) HC.out M HM.out).mono ?_)
               | (with_reducible refine (keys2_calls B d ws _ (Kd.C_below HS.out HX.out.low) HD.out M HN.out).mono ?_)
             rintro e w2 ⟨rfl, hB⟩
             have HX := Lib.hid (HX.out.step hB)
             clear hB
             have c1 : w2.cell? ⟨w.heap.size, 1, none⟩ = some (.string f) := blk_cell HX.out.box 1
             have c2 : w2.cell? ⟨w.heap.size, 2, none⟩ = some (.string t) := blk_cell HX.out.box 2
             have c3 : w2.cell? ⟨w.heap.size, 3, none⟩ = some (.int .u64 am) := blk_cell HX.out.box 3
             have c4 : w2.cell? ⟨w.heap.size, 4, none⟩ = some (.int .u64 nc) := blk_cell HX.out.box 4
             have c5 : w2.cell? ⟨w.heap.size, 5, none⟩ = some (.string ky') := blk_cell HX.out.box 5
             have c6 : w2.cell? ⟨w.heap.size, 6, none⟩ = some (.string vl) := blk_cell HX.out.box 6
             have c7 : w2.cell? ⟨w.heap.size, 7, none⟩ = some (.slice A rs.length c) := blk_cell HX.out.box 7
             have c8 : w2.cell? ⟨w.heap.size, 8, none⟩ = some (.slice B ws.length d) := blk_cell HX.out.box 8
             skip))
        go_ret
        exact ⟨rfl, HX.out.low⟩
      | true =>
        by_cases h3 : vl.size ≤ 64
        · have b3 : decide ((64 : Int) < (vl.size : Int)) = false := by simp; omega
          rcases hnil t with h4 | h4
          · by_cases h5 : am = 0
            · have b5 : (am == 0) = true := by simp [h5]
              have hk : ∀ x, chR am nc rs ws = x → ch 2 f t am nc ky' vl rs ws = x := fun x h => by simp [ch, chF, h1, h2, h3, h4, h5]; rw [← h5]; exact h
              clear h5
              by_cases a1 : am ≤ 4611686018427387903
              · have d1 : decide ((4611686018427387903 : Int) < am) = false := by simp; omega
                by_cases a2 : nc ≤ 4611686018427387903
                · have d2 : decide ((4611686018427387903 : Int) < nc) = false := by simp; omega
                  by_cases k1 : ke rs = 0
                  · rw [hk (ke ws) (by simp [chR, a1, a2, k1])]
                    have j1 : (ke rs == 0) = true := by simp [k1]
                    clear hk hnil a1 a2 k1
                    go_wp2_with (first
                      | (go_at_call 49
                         first
                           | (with_reducible refine (name2_calls f _ HF.out).mono ?_)
                           | (with_reducible refine (name2_calls t _ HT.out).mono ?_)
                           | (with_reducible refine (name2_calls ky' _ HK.out).mono ?_)
                         rintro e w2 ⟨rfl, hB⟩
                         have HX := Lib.hid (HX.out.step hB)
                         clear hB
                         have c1 : w2.cell? ⟨w.heap.size, 1, none⟩ = some (.string f) := blk_cell HX.out.box 1
                         have c2 : w2.cell? ⟨w.heap.size, 2, none⟩ = some (.string t) := blk_cell HX.out.box 2
                         have c3 : w2.cell? ⟨w.heap.size, 3, none⟩ = some (.int .u64 am) := blk_cell HX.out.box 3
                         have c4 : w2.cell? ⟨w.heap.size, 4, none⟩ = some (.int .u64 nc) := blk_cell HX.out.box 4
                         have c5 : w2.cell? ⟨w.heap.size, 5, none⟩ = some (.string ky') := blk_cell HX.out.box 5
                         have c6 : w2.cell? ⟨w.heap.size, 6, none⟩ = some (.string vl) := blk_cell HX.out.box 6
                         have c7 : w2.cell? ⟨w.heap.size, 7, none⟩ = some (.slice A rs.length c) := blk_cell HX.out.box 7
                         have c8 : w2.cell? ⟨w.heap.size, 8, none⟩ = some (.slice B ws.length d) := blk_cell HX.out.box 8
                         skip)
                      | (go_at_call 73
                         first
                           | (with_reducible refine (keys2_calls A c rs _ (Kd.C_below HR.out HX.out.low) HC.out M HM.out).mono ?_)
                           | (with_reducible refine (keys2_calls B d ws _ (Kd.C_below HS.out HX.out.low) HD.out M HN.out).mono ?_)
                         rintro e w2 ⟨rfl, hB⟩
                         have HX := Lib.hid (HX.out.step hB)
                         clear hB
                         have c1 : w2.cell? ⟨w.heap.size, 1, none⟩ = some (.string f) := blk_cell HX.out.box 1
                         have c2 : w2.cell? ⟨w.heap.size, 2, none⟩ = some (.string t) := blk_cell HX.out.box 2
                         have c3 : w2.cell? ⟨w.heap.size, 3, none⟩ = some (.int .u64 am) := blk_cell HX.out.box 3
                         have c4 : w2.cell? ⟨w.heap.size, 4, none⟩ = some (.int .u64 nc) := blk_cell HX.out.box 4
                         have c5 : w2.cell? ⟨w.heap.size, 5, none⟩ = some (.string ky') := blk_cell HX.out.box 5
                         have c6 : w2.cell? ⟨w.heap.size, 6, none⟩ = some (.string vl) := blk_cell HX.out.box 6
                         have c7 : w2.cell? ⟨w.heap.size, 7, none⟩ = some (.slice A rs.length c) := blk_cell HX.out.box 7
                         have c8 : w2.cell? ⟨w.heap.size, 8, none⟩ = some (.slice B ws.length d) := blk_cell HX.out.box 8
                         skip))
                    go_ret
                    exact ⟨rfl, HX.out.low⟩
                  · rw [hk (ke rs) (by simp [chR, a1, a2, k1])]
                    have j1 : (ke rs == 0) = false := by simpa using k1
                    clear hk hnil a1 a2 k1
                    go_wp2_with (first
                      | (go_at_call 49
                         first
                           | (with_reducible refine (name2_calls f _ HF.out).mono ?_)
                           | (with_reducible refine (name2_calls t _ HT.out).mono ?_)
                           | (with_reducible refine (name2_calls ky' _ HK.out).mono ?_)
                         rintro e w2 ⟨rfl, hB⟩
                         have HX := Lib.hid (HX.out.step hB)
                         clear hB
                         have c1 : w2.cell? ⟨w.heap.size, 1, none⟩ = some (.string f) := blk_cell HX.out.box 1
                         have c2 : w2.cell? ⟨w.heap.size, 2, none⟩ = some (.string t) := blk_cell HX.out.box 2
                         have c3 : w2.cell? ⟨w.heap.size, 3, none⟩ = some (.int .u64 am) := blk_cell HX.out.box 3
                         have c4 : w2.cell? ⟨w.heap.size, 4, none⟩ = some (.int .u64 nc) := blk_cell HX.out.box 4
                         have c5 : w2.cell? ⟨w.heap.size, 5, none⟩ = some (.string ky') := blk_cell HX.out.box 5
                         have c6 : w2.cell? ⟨w.heap.size, 6, none⟩ = some (.string vl) := blk_cell HX.out.box 6
                         have c7 : w2.cell? ⟨w.heap.size, 7, none⟩ = some (.slice A rs.length c) := blk_cell HX.out.box 7
                         have c8 : w2.cell? ⟨w.heap.size, 8, none⟩ = some (.slice B ws.length d) := blk_cell HX.out.box 8
                         skip)
                      | (go_at_call 73
                         first
                           | (with_reducible refine (keys2_calls A c rs _ (Kd.C_below HR.out HX.out.low) HC.out M HM.out).mono ?_)
                           | (with_reducible refine (keys2_calls B d ws _ (Kd.C_below HS.out HX.out.low) HD.out M HN.out).mono ?_)
                         rintro e w2 ⟨rfl, hB⟩
                         have HX := Lib.hid (HX.out.step hB)
                         clear hB
                         have c1 : w2.cell? ⟨w.heap.size, 1, none⟩ = some (.string f) := blk_cell HX.out.box 1
                         have c2 : w2.cell? ⟨w.heap.size, 2, none⟩ = some (.string t) := blk_cell HX.out.box 2
                         have c3 : w2.cell? ⟨w.heap.size, 3, none⟩ = some (.int .u64 am) := blk_cell HX.out.box 3
                         have c4 : w2.cell? ⟨w.heap.size, 4, none⟩ = some (.int .u64 nc) := blk_cell HX.out.box 4
                         have c5 : w2.cell? ⟨w.heap.size, 5, none⟩ = some (.string ky') := blk_cell HX.out.box 5
                         have c6 : w2.cell? ⟨w.heap.size, 6, none⟩ = some (.string vl) := blk_cell HX.out.box 6
                         have c7 : w2.cell? ⟨w.heap.size, 7, none⟩ = some (.slice A rs.length c) := blk_cell HX.out.box 7
                         have c8 : w2.cell? ⟨w.heap.size, 8, none⟩ = some (.slice B ws.length d) := blk_cell HX.out.box 8
                         skip))
                    go_ret
                    exact ⟨rfl, HX.out.low⟩
                · have d2 : decide ((4611686018427387903 : Int) < nc) = true := by simp; omega
                  rw [hk 2 (by simp [chR, a2])]
                  clear hk hnil a1 a2
                  go_wp2_with (first
                    | (go_at_call 49
                       first
                         | (with_reducible refine (name2_calls f _ HF.out).mono ?_)
                         | (with_reducible refine (name2_calls t _ HT.out).mono ?_)
                         | (with_reducible refine (name2_calls ky' _ HK.out).mono ?_)
                       rintro e w2 ⟨rfl, hB⟩
                       have HX := Lib.hid (HX.out.step hB)
                       clear hB
                       have c1 : w2.cell? ⟨w.heap.size, 1, none⟩ = some (.string f) := blk_cell HX.out.box 1
                       have c2 : w2.cell? ⟨w.heap.size, 2, none⟩ = some (.string t) := blk_cell HX.out.box 2
                       have c3 : w2.cell? ⟨w.heap.size, 3, none⟩ = some (.int .u64 am) := blk_cell HX.out.box 3
                       have c4 : w2.cell? ⟨w.heap.size, 4, none⟩ = some (.int .u64 nc) := blk_cell HX.out.box 4
                       have c5 : w2.cell? ⟨w.heap.size, 5, none⟩ = some (.string ky') := blk_cell HX.out.box 5
                       have c6 : w2.cell? ⟨w.heap.size, 6, none⟩ = some (.string vl) := blk_cell HX.out.box 6
                       have c7 : w2.cell? ⟨w.heap.size, 7, none⟩ = some (.slice A rs.length c) := blk_cell HX.out.box 7
                       have c8 : w2.cell? ⟨w.heap.size, 8, none⟩ = some (.slice B ws.length d) := blk_cell HX.out.box 8
                       skip)
                    | (go_at_call 73
                       first
                         | (with_reducible refine (keys2_calls A c rs _ (Kd.C_below HR.out HX.out.low) HC.out M HM.out).mono ?_)
                         | (with_reducible refine (keys2_calls B d ws _ (Kd.C_below HS.out HX.out.low) HD.out M HN.out).mono ?_)
                       rintro e w2 ⟨rfl, hB⟩
                       have HX := Lib.hid (HX.out.step hB)
                       clear hB
                       have c1 : w2.cell? ⟨w.heap.size, 1, none⟩ = some (.string f) := blk_cell HX.out.box 1
                       have c2 : w2.cell? ⟨w.heap.size, 2, none⟩ = some (.string t) := blk_cell HX.out.box 2
                       have c3 : w2.cell? ⟨w.heap.size, 3, none⟩ = some (.int .u64 am) := blk_cell HX.out.box 3
                       have c4 : w2.cell? ⟨w.heap.size, 4, none⟩ = some (.int .u64 nc) := blk_cell HX.out.box 4
                       have c5 : w2.cell? ⟨w.heap.size, 5, none⟩ = some (.string ky') := blk_cell HX.out.box 5
                       have c6 : w2.cell? ⟨w.heap.size, 6, none⟩ = some (.string vl) := blk_cell HX.out.box 6
                       have c7 : w2.cell? ⟨w.heap.size, 7, none⟩ = some (.slice A rs.length c) := blk_cell HX.out.box 7
                       have c8 : w2.cell? ⟨w.heap.size, 8, none⟩ = some (.slice B ws.length d) := blk_cell HX.out.box 8
                       skip))
                  go_ret
                  exact ⟨rfl, HX.out.low⟩
              · have d1 : decide ((4611686018427387903 : Int) < am) = true := by simp; omega
                rw [hk 2 (by simp [chR, a1])]
                clear hk hnil a1
                go_wp2_with (first
                  | (go_at_call 49
                     first
                       | (with_reducible refine (name2_calls f _ HF.out).mono ?_)
                       | (with_reducible refine (name2_calls t _ HT.out).mono ?_)
                       | (with_reducible refine (name2_calls ky' _ HK.out).mono ?_)
                     rintro e w2 ⟨rfl, hB⟩
                     have HX := Lib.hid (HX.out.step hB)
                     clear hB
                     have c1 : w2.cell? ⟨w.heap.size, 1, none⟩ = some (.string f) := blk_cell HX.out.box 1
                     have c2 : w2.cell? ⟨w.heap.size, 2, none⟩ = some (.string t) := blk_cell HX.out.box 2
                     have c3 : w2.cell? ⟨w.heap.size, 3, none⟩ = some (.int .u64 am) := blk_cell HX.out.box 3
                     have c4 : w2.cell? ⟨w.heap.size, 4, none⟩ = some (.int .u64 nc) := blk_cell HX.out.box 4
                     have c5 : w2.cell? ⟨w.heap.size, 5, none⟩ = some (.string ky') := blk_cell HX.out.box 5
                     have c6 : w2.cell? ⟨w.heap.size, 6, none⟩ = some (.string vl) := blk_cell HX.out.box 6
                     have c7 : w2.cell? ⟨w.heap.size, 7, none⟩ = some (.slice A rs.length c) := blk_cell HX.out.box 7
                     have c8 : w2.cell? ⟨w.heap.size, 8, none⟩ = some (.slice B ws.length d) := blk_cell HX.out.box 8
                     skip)
                  | (go_at_call 73
                     first
                       | (with_reducible refine (keys2_calls A c rs _ (Kd.C_below HR.out HX.out.low) HC.out M HM.out).mono ?_)
                       | (with_reducible refine (keys2_calls B d ws _ (Kd.C_below HS.out HX.out.low) HD.out M HN.out).mono ?_)
                     rintro e w2 ⟨rfl, hB⟩
                     have HX := Lib.hid (HX.out.step hB)
                     clear hB
                     have c1 : w2.cell? ⟨w.heap.size, 1, none⟩ = some (.string f) := blk_cell HX.out.box 1
                     have c2 : w2.cell? ⟨w.heap.size, 2, none⟩ = some (.string t) := blk_cell HX.out.box 2
                     have c3 : w2.cell? ⟨w.heap.size, 3, none⟩ = some (.int .u64 am) := blk_cell HX.out.box 3
                     have c4 : w2.cell? ⟨w.heap.size, 4, none⟩ = some (.int .u64 nc) := blk_cell HX.out.box 4
                     have c5 : w2.cell? ⟨w.heap.size, 5, none⟩ = some (.string ky') := blk_cell HX.out.box 5
                     have c6 : w2.cell? ⟨w.heap.size, 6, none⟩ = some (.string vl) := blk_cell HX.out.box 6
                     have c7 : w2.cell? ⟨w.heap.size, 7, none⟩ = some (.slice A rs.length c) := blk_cell HX.out.box 7
                     have c8 : w2.cell? ⟨w.heap.size, 8, none⟩ = some (.slice B ws.length d) := blk_cell HX.out.box 8
                     skip))
                go_ret
                exact ⟨rfl, HX.out.low⟩
            · have b5 : (am == 0) = false := by simp [h5]
              have hE : ch 2 f t am nc ky' vl rs ws = 3 := by simp [ch, chF, h1, h2, h3, h4, h5]
              rw [hE]
              clear hE hnil h3 h5
              go_wp2_with (first
                | (go_at_call 49
                   first
                     | (with_reducible refine (name2_calls f _ HF.out).mono ?_)
                     | (with_reducible refine (name2_calls t _ HT.out).mono ?_)
                     | (with_reducible refine (name2_calls ky' _ HK.out).mono ?_)
                   rintro e w2 ⟨rfl, hB⟩
                   have HX := Lib.hid (HX.out.step hB)
                   clear hB
                   have c1 : w2.cell? ⟨w.heap.size, 1, none⟩ = some (.string f) := blk_cell HX.out.box 1
                   have c2 : w2.cell? ⟨w.heap.size, 2, none⟩ = some (.string t) := blk_cell HX.out.box 2
                   have c3 : w2.cell? ⟨w.heap.size, 3, none⟩ = some (.int .u64 am) := blk_cell HX.out.box 3
                   have c4 : w2.cell? ⟨w.heap.size, 4, none⟩ = some (.int .u64 nc) := blk_cell HX.out.box 4
                   have c5 : w2.cell? ⟨w.heap.size, 5, none⟩ = some (.string ky') := blk_cell HX.out.box 5
                   have c6 : w2.cell? ⟨w.heap.size, 6, none⟩ = some (.string vl) := blk_cell HX.out.box 6
                   have c7 : w2.cell? ⟨w.heap.size, 7, none⟩ = some (.slice A rs.length c) := blk_cell HX.out.box 7
                   have c8 : w2.cell? ⟨w.heap.size, 8, none⟩ = some (.slice B ws.length d) := blk_cell HX.out.box 8
                   skip)
                | (go_at_call 73
                   first
                     | (with_reducible refine (keys2_calls A c rs _ (Kd.C_below HR.out HX.out.low) HC.out M HM.out).mono ?_)
                     | (with_reducible refine (keys2_calls B d ws _ (Kd.C_below HS.out HX.out.low) HD.out M HN.out).mono ?_)
                   rintro e w2 ⟨rfl, hB⟩
                   have HX := Lib.hid (HX.out.step hB)
                   clear hB
                   have c1 : w2.cell? ⟨w.heap.size, 1, none⟩ = some (.string f) := blk_cell HX.out.box 1
                   have c2 : w2.cell? ⟨w.heap.size, 2, none⟩ = some (.string t) := blk_cell HX.out.box 2
                   have c3 : w2.cell? ⟨w.heap.size, 3, none⟩ = some (.int .u64 am) := blk_cell HX.out.box 3
                   have c4 : w2.cell? ⟨w.heap.size, 4, none⟩ = some (.int .u64 nc) := blk_cell HX.out.box 4
                   have c5 : w2.cell? ⟨w.heap.size, 5, none⟩ = some (.string ky') := blk_cell HX.out.box 5
                   have c6 : w2.cell? ⟨w.heap.size, 6, none⟩ = some (.string vl) := blk_cell HX.out.box 6
                   have c7 : w2.cell? ⟨w.heap.size, 7, none⟩ = some (.slice A rs.length c) := blk_cell HX.out.box 7
                   have c8 : w2.cell? ⟨w.heap.size, 8, none⟩ = some (.slice B ws.length d) := blk_cell HX.out.box 8
                   skip))
              go_ret
              exact ⟨rfl, HX.out.low⟩
          · have hE : ch 2 f t am nc ky' vl rs ws = 3 := by simp [ch, chF, h1, h2, h3, h4]
            rw [hE]
            clear hE hnil h3
            go_wp2_with (first
              | (go_at_call 49
                 first
                   | (with_reducible refine (name2_calls f _ HF.out).mono ?_)
                   | (with_reducible refine (name2_calls t _ HT.out).mono ?_)
                   | (with_reducible refine (name2_calls ky' _ HK.out).mono ?_)
                 rintro e w2 ⟨rfl, hB⟩
                 have HX := Lib.hid (HX.out.step hB)
                 clear hB
                 have c1 : w2.cell? ⟨w.heap.size, 1, none⟩ = some (.string f) := blk_cell HX.out.box 1
                 have c2 : w2.cell? ⟨w.heap.size, 2, none⟩ = some (.string t) := blk_cell HX.out.box 2
                 have c3 : w2.cell? ⟨w.heap.size, 3, none⟩ = some (.int .u64 am) := blk_cell HX.out.box 3
                 have c4 : w2.cell? ⟨w.heap.size, 4, none⟩ = some (.int .u64 nc) := blk_cell HX.out.box 4
                 have c5 : w2.cell? ⟨w.heap.size, 5, none⟩ = some (.string ky') := blk_cell HX.out.box 5
                 have c6 : w2.cell? ⟨w.heap.size, 6, none⟩ = some (.string vl) := blk_cell HX.out.box 6
                 have c7 : w2.cell? ⟨w.heap.size, 7, none⟩ = some (.slice A rs.length c) := blk_cell HX.out.box 7
                 have c8 : w2.cell? ⟨w.heap.size, 8, none⟩ = some (.slice B ws.length d) := blk_cell HX.out.box 8
                 skip)
              | (go_at_call 73
                 first
                   | (with_reducible refine (keys2_calls A c rs _ (Kd.C_below HR.out HX.out.low) HC.out M HM.out).mono ?_)
                   | (with_reducible refine (keys2_calls B d ws _ (Kd.C_below HS.out HX.out.low) HD.out M HN.out).mono ?_)
                 rintro e w2 ⟨rfl, hB⟩
                 have HX := Lib.hid (HX.out.step hB)
                 clear hB
                 have c1 : w2.cell? ⟨w.heap.size, 1, none⟩ = some (.string f) := blk_cell HX.out.box 1
                 have c2 : w2.cell? ⟨w.heap.size, 2, none⟩ = some (.string t) := blk_cell HX.out.box 2
                 have c3 : w2.cell? ⟨w.heap.size, 3, none⟩ = some (.int .u64 am) := blk_cell HX.out.box 3
                 have c4 : w2.cell? ⟨w.heap.size, 4, none⟩ = some (.int .u64 nc) := blk_cell HX.out.box 4
                 have c5 : w2.cell? ⟨w.heap.size, 5, none⟩ = some (.string ky') := blk_cell HX.out.box 5
                 have c6 : w2.cell? ⟨w.heap.size, 6, none⟩ = some (.string vl) := blk_cell HX.out.box 6
                 have c7 : w2.cell? ⟨w.heap.size, 7, none⟩ = some (.slice A rs.length c) := blk_cell HX.out.box 7
                 have c8 : w2.cell? ⟨w.heap.size, 8, none⟩ = some (.slice B ws.length d) := blk_cell HX.out.box 8
                 skip))
            go_ret
            exact ⟨rfl, HX.out.low⟩
        · have b3 : decide ((64 : Int) < (vl.size : Int)) = true := by simp; omega
          have hE : ch 2 f t am nc ky' vl rs ws = 3 := by simp [ch, chF, h1, h2, h3]
          rw [hE]
          clear hE hnil h3
          go_wp2_with (first
            | (go_at_call 49
               first
                 | (with_reducible refine (name2_calls f _ HF.out).mono ?_)
                 | (with_reducible refine (name2_calls t _ HT.out).mono ?_)
                 | (with_reducible refine (name2_calls ky' _ HK.out).mono ?_)
               rintro e w2 ⟨rfl, hB⟩
               have HX := Lib.hid (HX.out.step hB)
               clear hB
               have c1 : w2.cell? ⟨w.heap.size, 1, none⟩ = some (.string f) := blk_cell HX.out.box 1
               have c2 : w2.cell? ⟨w.heap.size, 2, none⟩ = some (.string t) := blk_cell HX.out.box 2
               have c3 : w2.cell? ⟨w.heap.size, 3, none⟩ = some (.int .u64 am) := blk_cell HX.out.box 3
               have c4 : w2.cell? ⟨w.heap.size, 4, none⟩ = some (.int .u64 nc) := blk_cell HX.out.box 4
               have c5 : w2.cell? ⟨w.heap.size, 5, none⟩ = some (.string ky') := blk_cell HX.out.box 5
               have c6 : w2.cell? ⟨w.heap.size, 6, none⟩ = some (.string vl) := blk_cell HX.out.box 6
               have c7 : w2.cell? ⟨w.heap.size, 7, none⟩ = some (.slice A rs.length c) := blk_cell HX.out.box 7
               have c8 : w2.cell? ⟨w.heap.size, 8, none⟩ = some (.slice B ws.length d) := blk_cell HX.out.box 8
               skip)
            | (go_at_call 73
               first
                 | (with_reducible refine (keys2_calls A c rs _ (Kd.C_below HR.out HX.out.low) HC.out M HM.out).mono ?_)
                 | (with_reducible refine (keys2_calls B d ws _ (Kd.C_below HS.out HX.out.low) HD.out M HN.out).mono ?_)
               rintro e w2 ⟨rfl, hB⟩
               have HX := Lib.hid (HX.out.step hB)
               clear hB
               have c1 : w2.cell? ⟨w.heap.size, 1, none⟩ = some (.string f) := blk_cell HX.out.box 1
               have c2 : w2.cell? ⟨w.heap.size, 2, none⟩ = some (.string t) := blk_cell HX.out.box 2
               have c3 : w2.cell? ⟨w.heap.size, 3, none⟩ = some (.int .u64 am) := blk_cell HX.out.box 3
               have c4 : w2.cell? ⟨w.heap.size, 4, none⟩ = some (.int .u64 nc) := blk_cell HX.out.box 4
               have c5 : w2.cell? ⟨w.heap.size, 5, none⟩ = some (.string ky') := blk_cell HX.out.box 5
               have c6 : w2.cell? ⟨w.heap.size, 6, none⟩ = some (.string vl) := blk_cell HX.out.box 6
               have c7 : w2.cell? ⟨w.heap.size, 7, none⟩ = some (.slice A rs.length c) := blk_cell HX.out.box 7
               have c8 : w2.cell? ⟨w.heap.size, 8, none⟩ = some (.slice B ws.length d) := blk_cell HX.out.box 8
               skip))
          go_ret
          exact ⟨rfl, HX.out.low⟩
end Go.Proofs.YtndicjikjcifaaaDoor

/- tuskref04.Check in the printer's form. -/
namespace Go.Proofs.YtndicjikjcifaaaDoor
open Go.RowKit Go.Shelf Go.Lib Go.Proofs.YtndicjikjcifaaaDoorW.PrintWords Go.Proofs.YtndicjikjcifaaaDoorW.PrintLast
def Lim (f t ky' : ByteArray) (rs ws : List ByteArray) : Prop := f.size < 4611686018427387904 ∧ t.size < 4611686018427387904 ∧ ky'.size < 4611686018427387904 ∧ (∀ x ∈ rs, x.size < 4611686018427387904) ∧ (∀ x ∈ ws, x.size < 4611686018427387904)
instance (f t ky' : ByteArray) (rs ws : List ByteArray) : Decidable (Lim f t ky' rs ws) := by unfold Lim; infer_instance
def tuskref04_Check.f (k : Int) (f t : ByteArray) (am nc : Int) (ky' vl : ByteArray) (rs ws : List ByteArray) : Option Int := if Lim f t ky' rs ws then some (ch k f t am nc ky' vl rs ws) else none
theorem tuskref04_Check.calls (a0_0 : Int) (a0_1 a0_2 : ByteArray) (a0_3 a0_4 : Int) (a0_5 a0_6 : ByteArray) (A0_7 : Option Addr) (c0_7 : Nat) (l0_7 : List ByteArray) (A0_8 : Option Addr) (c0_8 : Nat) (l0_8 : List ByteArray) (r : Int) (w : World) (hr0_7 : Kd.C Kd.string w A0_7 l0_7.length l0_7) (hc0_7 : l0_7.length ≤ c0_7) (hr0_8 : Kd.C Kd.string w A0_8 l0_8.length l0_8) (hc0_8 : l0_8.length ≤ c0_8) (h : tuskref04_Check.f a0_0 a0_1 a0_2 a0_3 a0_4 a0_5 a0_6 l0_7 l0_8 = some r) :
    Calls Tryd.prog 42 #[.agg #[.int .i64 a0_0, .string a0_1, .string a0_2, .int .u64 a0_3, .int .u64 a0_4, .string a0_5, .string a0_6, .slice A0_7 l0_7.length c0_7, .slice A0_8 l0_8.length c0_8]] w fun e w' => e = .returned (.int .i64 r) ∧ Below w.heap.size w w' := by
  unfold tuskref04_Check.f at h
  split at h
  · rename_i hl
    obtain rfl := Option.some.inj h
    exact chk2_calls a0_0 a0_1 a0_2 a0_3 a0_4 a0_5 a0_6 A0_7 A0_8 c0_7 c0_8 l0_7 l0_8 w 4611686018427387904 hr0_7 hc0_7 hr0_8 hc0_8 hl.1 hl.2.1 hl.2.2.1 (fun x hx => ⟨by have := hl.2.2.2.1 x hx; omega, hl.2.2.2.1 x hx⟩) (fun x hx => ⟨by have := hl.2.2.2.2 x hx; omega, hl.2.2.2.2 x hx⟩)
  · cases h
def tuskref04_Name.f (s : ByteArray) : Option Bool := if s.size < 4611686018427387904 then some (nm s) else none
theorem tuskref04_Name.calls (a0 : ByteArray) (r : Bool) (w : World) (h : tuskref04_Name.f a0 = some r) :
    Calls Tryd.prog 49 #[.string a0] w fun e w' => e = .returned (.bool r) ∧ Below w.heap.size w w' := by
  unfold tuskref04_Name.f at h
  split at h
  · obtain rfl := Option.some.inj h
    exact name2_calls a0 w (by assumption)
  · cases h
end Go.Proofs.YtndicjikjcifaaaDoor
