/- tx.Fits: what is needed is declared. -/
import Derived.Test.YtndicjikjcifaaaDoorTxneed
import Derived.Test.YtndicjikjcifaaaDoorPFtx1
namespace Go.Proofs.YtndicjikjcifaaaDoor
open Go.RowKit Go.Shelf Go.Lib Go.Proofs.YtndicjikjcifaaaDoorW.PrintWords Go.Proofs.YtndicjikjcifaaaDoorW.PrintLast
open Go.Proofs.YtndicjikjcifaaaDoor.PFt
set_option linter.unusedVariables false
set_option linter.unusedSimpArgs false

def hasB (xs : List ByteArray) (x : ByteArray) : Bool := xs.any fun y => decide (x.data.toList = y.data.toList)
theorem hasB_cons (y : ByteArray) (r : List ByteArray) (x : ByteArray) : hasB (y :: r) x = (decide (x.data.toList = y.data.toList) || hasB r x) := rfl
theorem idx_l (xs : List ByteArray) (x : ByteArray) (hx : xs.length < 4611686018427387904) : ∀ d i K, i + d = xs.length → d + 1 ≤ K →
    ∃ r : Int, slices_Index_string_string.l0 K xs x (xs.length : Int) i = some r ∧ decide (r ≥ 0) = hasB (xs.drop i) x
  | 0, i, 0, hi, hK => by omega
  | 0, i, K + 1, hi, hK => ⟨-1, by rw [slices_Index_string_string.l0, if_neg (by omega)], by rw [show xs.drop i = [] from List.drop_eq_nil_of_le (by omega)]; rfl⟩
  | d + 1, i, 0, hi, hK => by omega
  | d + 1, i, K + 1, hi, hK => by
    have hlt : i < xs.length := by omega
    have hw : wrap64 ((i : Int) + 1) = ((i + 1 : Nat) : Int) := by rw [w64 _ (by omega) (by omega)]; push_cast; rfl
    obtain ⟨r, h1, h2⟩ := idx_l xs x hx d (i + 1) K (by omega) (by omega)
    rw [slices_Index_string_string.l0, if_pos (by omega), if_pos (by omega), if_pos (by omega), rd_at xs i hlt, hw, h1, List.drop_eq_getElem_cons hlt, Lib.toList_data, Lib.toList_data]
    by_cases he : x.data.toList = xs[i].data.toList
    · rw [if_pos he]
      refine ⟨_, rfl, ?_⟩
      rw [hasB_cons, decide_eq_true he, decide_eq_true (by omega)]
      rfl
    · rw [if_neg he]
      refine ⟨r, rfl, ?_⟩
      rw [h2, hasB_cons, decide_eq_false he]
      rfl
theorem contains_eq (xs : List ByteArray) (x : ByteArray) (hx : xs.length < 4611686018427387904) (K : Nat) (hK : xs.length + 1 ≤ K) : slices_Contains_string_string.f K xs x = some (hasB xs x) := by
  obtain ⟨r, h1, h2⟩ := idx_l xs x hx xs.length 0 K (by omega) hK
  rw [slices_Contains_string_string.f, slices_Index_string_string.f]
  refine (congrArg (fun o : Option Int => o.bind fun t102 => some (decide (t102 ≥ 0))) h1).trans ?_
  rw [Option.bind_some, h2, List.drop_zero]
def fitB (l ws : List ByteArray) : Bool := l.all (hasB ws) && decide (0 < l.length)
theorem fits_l (k : Int) (f t : ByteArray) (am nc : Int) (ky' vl : ByteArray) (rs ws l : List ByteArray) (hw : ws.length < 4611686018427387904) (hl : l.length < 4611686018427387904) : ∀ d i K, i + d = l.length → d + ws.length + 2 ≤ K →
    tx_Fits.l0 K l l (l.length : Int) i k f t am nc ky' vl rs ws = some ((l.drop i).all (hasB ws) && decide (0 < l.length))
  | 0, i, 0, hi, hK => by omega
  | 0, i, K + 1, hi, hK => by
    rw [tx_Fits.l0, if_neg (by omega), show l.drop i = [] from List.drop_eq_nil_of_le (by omega)]
    simp
  | d + 1, i, 0, hi, hK => by omega
  | d + 1, i, K + 1, hi, hK => by
    have hlt : i < l.length := by omega
    have hwr : wrap64 ((i : Int) + 1) = ((i + 1 : Nat) : Int) := by rw [w64 _ (by omega) (by omega)]; push_cast; rfl
    rw [tx_Fits.l0, if_pos (by omega), if_pos (by omega), if_pos (by omega), rd_at l i hlt, contains_eq ws _ hw K (by omega), Option.bind_some, hwr, fits_l k f t am nc ky' vl rs ws l hw hl d (i + 1) K (by omega) (by omega), List.drop_eq_getElem_cons hlt, List.all_cons]
    cases hasB ws l[i] <;> simp
theorem fits_eq (k : Int) (f t : ByteArray) (am nc : Int) (ky' vl : ByteArray) (rs ws : List ByteArray) (hw : ws.length < 4611686018427387904) :
    tx_Fits.f (ws.length + 4) k f t am nc ky' vl rs ws = some (fitB (need k f t am nc ky' vl rs ws) ws) := by
  have hl : (need k f t am nc ky' vl rs ws).length ≤ 2 := by
    unfold need one2
    repeat' split
    all_goals simp
  rw [tx_Fits.f, tx_Needs.f, Option.bind_some]
  exact fits_l k f t am nc ky' vl rs ws _ hw (by omega) (need k f t am nc ky' vl rs ws).length 0 (ws.length + 4) (by omega) (by omega)
theorem fits_calls (k : Int) (f t : ByteArray) (am nc : Int) (ky' vl : ByteArray) (A B : Option Addr) (c d : Nat) (rs ws : List ByteArray) (w : World)
    (hr : Kd.C Kd.string w A rs.length rs) (hc : rs.length ≤ c) (hs : Kd.C Kd.string w B ws.length ws) (hd : ws.length ≤ d) (hw : ws.length < 4611686018427387904) :
    Calls Tryd.prog 46 #[.agg #[.int .i64 k, .string f, .string t, .int .u64 am, .int .u64 nc, .string ky', .string vl, .slice A rs.length c, .slice B ws.length d]] w
      fun e w' => e = .returned (.bool (fitB (need k f t am nc ky' vl rs ws) ws)) ∧ Below w.heap.size w w' :=
  tx_Fits.calls _ k f t am nc ky' vl A c rs B d ws _ w hr hc hs hd (fits_eq k f t am nc ky' vl rs ws hw)
end Go.Proofs.YtndicjikjcifaaaDoor
