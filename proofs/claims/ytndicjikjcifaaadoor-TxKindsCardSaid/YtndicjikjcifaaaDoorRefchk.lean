/- tuskref04.Name, Key, keys: the same as tx's. -/
import Derived.Test.YtndicjikjcifaaaDoorTxkey
import Derived.Test.YtndicjikjcifaaaDoorWirep
import Derived.Test.YtndicjikjcifaaaDoorPCkx1
namespace Go.Proofs.YtndicjikjcifaaaDoor
open Go.RowKit Go.Shelf Go.Lib Go.Proofs.YtndicjikjcifaaaDoorW.PrintWords Go.Proofs.YtndicjikjcifaaaDoorW.PrintLast
open Go.Proofs.YtndicjikjcifaaaDoor.PCk
set_option linter.unusedVariables false
set_option linter.unusedSimpArgs false

theorem dropWhile_nil {α : Type} (p : α → Bool) : ∀ l : List α, l.dropWhile p = [] ↔ l.all p = true
  | [] => by simp
  | a :: r => by
    by_cases h : p a = true
    · rw [List.dropWhile_cons_of_pos h, dropWhile_nil p r]; simp [h]
    · rw [List.dropWhile_cons_of_neg h]; simp [h]
theorem trimS_nil (l cs : List UInt8) : trimS l cs = [] ↔ l.all (cs.contains ·) = true := by
  unfold trimS trimLeftS
  rw [dropWhile_nil]
  unfold trimRightS
  constructor
  · intro h
    cases hd : l.reverse.dropWhile (cs.contains ·) with
    | nil =>
      have := (dropWhile_nil _ _).1 hd
      simpa using this
    | cons a r =>
      rw [hd] at h
      have ha : cs.contains a = true := by
        rw [List.all_eq_true] at h
        exact h a (by simp)
      have := List.head_dropWhile_not (p := (cs.contains ·)) (l := l.reverse) (w := by rw [hd]; simp)
      simp only [hd, List.head_cons] at this
      rw [ha] at this
      cases this
  · intro h
    have : l.reverse.dropWhile (cs.contains ·) = [] := (dropWhile_nil _ _).2 (by simpa using h)
    rw [this]
    rfl
def okb (n : Nat) : Bool := decide ((97 ≤ n ∧ n ≤ 122) ∨ (48 ≤ n ∧ n ≤ 57))
theorem okb_t {n : Nat} (h : (97 ≤ n ∧ n ≤ 122) ∨ (48 ≤ n ∧ n ≤ 57)) : okb n = true := decide_eq_true h
theorem okb_f {n : Nat} (h : ¬ ((97 ≤ n ∧ n ≤ 122) ∨ (48 ≤ n ∧ n ≤ 57))) : okb n = false := decide_eq_false h
set_option maxRecDepth 100000 in
theorem cut_mem : ∀ n : Fin 256, cutset.contains (UInt8.ofNat n.val) = okb n.val := by decide
theorem cut_bn (s : ByteArray) (i : Nat) (h : i < s.size) : cutset.contains (s[i]'h) = okb (bn s i) := by
  have e : (s[i]'h) = UInt8.ofNat (bn s i) := by simp [bn, h]
  rw [e]
  exact cut_mem ⟨bn s i, bn_lt s i⟩
theorem drop_cons (s : ByteArray) (i : Nat) (h : i < s.size) : s.data.toList.drop i = (s[i]'h) :: s.data.toList.drop (i + 1) := by
  have h' : i < s.data.toList.length := by simpa using h
  rw [List.drop_eq_getElem_cons h']
  congr 1
theorem ref_name_l (s : ByteArray) (hs : s.size < 4611686018427387904) : ∀ d i K, i + d = s.size → d + 1 ≤ K →
    tuskref04_Name.l0 K s i = some ((s.data.toList.drop i).all (cutset.contains ·) && decide (1 ≤ s.size ∧ s.size ≤ 32))
  | 0, i, 0, hi, hK => by omega
  | 0, i, K + 1, hi, hK => by
    have e : s.data.toList.drop i = [] := List.drop_eq_nil_of_le (by simp; omega)
    rw [tuskref04_Name.l0, if_neg (by omega), e]
    by_cases h1 : 1 ≤ s.size
    · rw [if_pos (by omega)]
      simp only [List.all_nil, Bool.true_and]
      exact congrArg some (decide_eq_decide.2 (by omega))
    · rw [if_neg (by omega)]
      simp [h1]
  | d + 1, i, 0, hi, hK => by omega
  | d + 1, i, K + 1, hi, hK => by
    have hlt : i < s.size := by omega
    have ih := ref_name_l s hs d (i + 1) K (by omega) (by omega)
    have hw : wrap64 ((i : Int) + 1) = ((i + 1 : Nat) : Int) := by rw [w64 _ (by omega) (by omega)]; push_cast; rfl
    rw [tuskref04_Name.l0, if_pos (by omega), if_pos (by omega), bt_bn, hw, ih, drop_cons s i hlt, List.all_cons, cut_bn s i hlt]
    by_cases a1 : bn s i < 97
    · rw [if_pos (by omega)]
      by_cases a2 : bn s i < 48
      · rw [if_pos (by omega), okb_f (by omega)]; rfl
      · rw [if_neg (by omega)]
        by_cases a3 : bn s i > 57
        · rw [if_pos (by omega), okb_f (by omega)]; rfl
        · rw [if_neg (by omega), okb_t (by omega), Bool.true_and]
    · rw [if_neg (by omega)]
      by_cases a2 : bn s i > 122
      · rw [if_pos (by omega)]
        rw [if_neg (by omega), if_pos (by omega), okb_f (by omega)]; rfl
      · rw [if_neg (by omega), okb_t (by omega), Bool.true_and]
theorem ref_name (s : ByteArray) (hs : s.size < 4611686018427387904) (K : Nat) (hK : s.size + 1 ≤ K) : tuskref04_Name.f K s = some (nm s) := by
  have := ref_name_l s hs s.size 0 K (by omega) hK
  rw [tuskref04_Name.f]
  refine this.trans ?_
  rw [nm]
  congr 1
  rw [List.drop_zero]
  cases h : s.data.toList.all (cutset.contains ·) with
  | true =>
    have := (trimS_nil s.data.toList cutset).2 h
    simp only [this, and_true, Bool.true_and]
    exact decide_eq_decide.2 (by omega)
  | false =>
    have : ¬ trimS s.data.toList cutset = [] := fun e => by rw [(trimS_nil _ _).1 e] at h; cases h
    simp [this]
theorem ext2 (s : ByteArray) (h : 2 < s.size) (a b : UInt8) : ((s.extract 0 2).toList = [a, b]) ↔ Lib.hasPrefix s.data.toList [a, b] = true := by
  have e : (s.extract 0 2).toList = s.data.toList.take 2 := by
    rw [Lib.toList_data]
    simp
  rw [e]
  unfold Lib.hasPrefix
  rw [List.isPrefixOf_iff_prefix, List.prefix_iff_eq_take]
  exact ⟨fun h => h.symm, fun h => h.symm⟩
theorem ref_key (s : ByteArray) (hs : s.size < 4611686018427387904) (K : Nat) (hK : s.size + 1 ≤ K) : tuskref04_Key.f K s = some (ky s) := by
  rw [tuskref04_Key.f, ky]
  by_cases h : 2 < s.size
  · have hz : (s.extract 2 s.size).size < 4611686018427387904 := by rw [ByteArray.size_extract]; omega
    have hn := ref_name (s.extract 2 s.size) hz K (by rw [ByteArray.size_extract]; omega)
    rw [if_pos (by omega), if_pos (by omega), if_pos (by omega), hn, decide_eq_true h, Bool.true_and]
    by_cases h1 : Lib.hasPrefix s.data.toList [97, 58] = true
    · rw [if_pos ((ext2 s h 97 58).2 h1), h1]; rfl
    · rw [if_neg (fun e => h1 ((ext2 s h 97 58).1 e))]
      have h1 : Lib.hasPrefix s.data.toList [97, 58] = false := by simpa using h1
      by_cases h2 : Lib.hasPrefix s.data.toList [107, 58] = true
      · rw [if_pos ((ext2 s h 107 58).2 h2), h1, h2]; rfl
      · rw [if_neg (fun e => h2 ((ext2 s h 107 58).1 e))]
        have h2 : Lib.hasPrefix s.data.toList [107, 58] = false := by simpa using h2
        rw [h1, h2]; rfl
  · rw [if_neg (by omega), decide_eq_false h]
    rfl
theorem rd_at (xs : List ByteArray) (i : Nat) (h : i < xs.length) : rdOf ByteArray.empty xs (i : Int) = xs[i] := by
  simp [rdOf, h]
theorem ref_keys_l (xs : List ByteArray) (hx : xs.length ≤ 8) (M : Nat) (hs : ∀ x ∈ xs, x.size + 1 ≤ M ∧ x.size < 4611686018427387904) : ∀ d i K, i + d = xs.length → d + M + 1 ≤ K →
    tuskref04_keys.l0 K xs i = some (keL (prv xs i) (xs.drop i))
  | 0, i, 0, hi, hK => by omega
  | 0, i, K + 1, hi, hK => by
    rw [tuskref04_keys.l0, if_neg (by omega), show xs.drop i = [] by simp; omega]
    rfl
  | d + 1, i, 0, hi, hK => by omega
  | d + 1, i, K + 1, hi, hK => by
    have hlt : i < xs.length := by omega
    have ih := ref_keys_l xs hx M hs d (i + 1) K (by omega) (by omega)
    have hw : wrap64 ((i : Int) + 1) = ((i + 1 : Nat) : Int) := by rw [w64 _ (by omega) (by omega)]; push_cast; rfl
    have hm := hs xs[i] (List.getElem_mem hlt)
    rw [tuskref04_keys.l0, if_pos (by omega), if_pos (by omega), rd_at xs i hlt, ref_key _ hm.2 K (by omega), List.drop_eq_getElem_cons hlt, Option.bind_some]
    unfold keL
    cases hk : ky xs[i] with
    | false => simp
    | true =>
      rw [if_pos rfl, if_neg (show ¬ ((true : Bool) = false) by simp), hw, ih]
      cases i with
      | zero =>
        have h0 := rd_at xs 0 hlt
        rw [if_neg (by omega)]
        show some (keL (some (rdOf ByteArray.empty xs ((0 : Nat) : Int))) (List.drop (0 + 1) xs)) = some (if true = false then 9 else keL (some xs[0]) (List.drop (0 + 1) xs))
        rw [h0, if_neg (show ¬ ((true : Bool) = false) by simp)]
      | succ j =>
        have hv : wrap64 (((j + 1 : Nat) : Int) - 1) = (j : Int) := by rw [w64 _ (by omega) (by omega)]; omega
        have h0 := rd_at xs (j + 1) hlt
        rw [if_pos (by omega), hv, if_pos (by omega), if_pos (by omega)]
        show (if Op.bytesLess (rdOf ByteArray.empty xs (j : Int)).toList xs[j + 1].toList = true then some (keL (some (rdOf ByteArray.empty xs ((j + 1 : Nat) : Int))) (List.drop (j + 1 + 1) xs)) else some 9) = some (if Op.bytesLess (rdOf ByteArray.empty xs (j : Int)).toList xs[j + 1].toList = false then 9 else keL (some xs[j + 1]) (List.drop (j + 1 + 1) xs))
        rw [h0]
        cases Op.bytesLess (rdOf ByteArray.empty xs (j : Int)).toList xs[j + 1].toList <;> simp
theorem ref_keys (xs : List ByteArray) (M : Nat) (hs : ∀ x ∈ xs, x.size + 1 ≤ M ∧ x.size < 4611686018427387904) (K : Nat) (hK : M + 9 ≤ K) : tuskref04_keys.f K xs = some (ke xs) := by
  rw [tuskref04_keys.f, ke]
  by_cases h : xs.length ≤ 8
  · rw [if_neg (by omega), if_pos h]
    exact ref_keys_l xs h M hs xs.length 0 K (by omega) (by omega)
  · rw [if_pos (by omega), if_neg h]
end Go.Proofs.YtndicjikjcifaaaDoor
