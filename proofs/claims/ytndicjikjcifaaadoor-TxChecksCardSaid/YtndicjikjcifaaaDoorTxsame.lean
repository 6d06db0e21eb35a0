/- tuskref04.Same, and tx.Encode by its answer. -/
import Derived.Test.YtndicjikjcifaaaDoorTxworks
import Derived.Test.YtndicjikjcifaaaDoorCodeb
import Derived.Test.YtndicjikjcifaaaDoorPSmx1
namespace Go.Proofs.YtndicjikjcifaaaDoor
open Go.RowKit Go.Shelf Go.Lib Go.Proofs.YtndicjikjcifaaaDoorW.PrintWords Go.Proofs.YtndicjikjcifaaaDoorW.PrintLast
set_option linter.unusedVariables false
set_option linter.unusedSimpArgs false

open PSm in
theorem same_l (xs : List ByteArray) (hx : xs.length < 4611686018427387904) : ∀ d i K, i + d = xs.length → d + 1 ≤ K → tuskref01_Same.l0 K xs xs i = some true
  | 0, i, 0, hi, hK => by omega
  | 0, i, K + 1, hi, hK => by rw [tuskref01_Same.l0, if_neg (by omega)]
  | d + 1, i, 0, hi, hK => by omega
  | d + 1, i, K + 1, hi, hK => by
    have hw : wrap64 ((i : Int) + 1) = ((i + 1 : Nat) : Int) := by rw [w64 _ (by omega) (by omega)]; push_cast; rfl
    rw [tuskref01_Same.l0, if_pos (by omega), if_pos (by omega), if_pos (by omega), if_pos rfl, hw]
    exact same_l xs hx d (i + 1) K (by omega) (by omega)
open PSm in
theorem same_eq (xs : List ByteArray) (hx : xs.length < 4611686018427387904) (K : Nat) (hK : xs.length + 1 ≤ K) : tuskref01_Same.f K xs xs = some true := by
  rw [tuskref01_Same.f, if_pos rfl]
  exact same_l xs hx xs.length 0 K (by omega) hK
theorem same_calls (k : Int) (f t : ByteArray) (am nc : Int) (ky' vl : ByteArray) (A B A' B' : Option Addr) (c d c' d' : Nat) (rs ws : List ByteArray) (w : World)
    (hr : Kd.C Kd.string w A rs.length rs) (hc : rs.length ≤ c) (hs : Kd.C Kd.string w B ws.length ws) (hd : ws.length ≤ d)
    (hr' : Kd.C Kd.string w A' rs.length rs) (hc' : rs.length ≤ c') (hs' : Kd.C Kd.string w B' ws.length ws) (hd' : ws.length ≤ d') (h1 : rs.length < 4611686018427387904) (h2 : ws.length < 4611686018427387904) :
    Calls Tryd.prog 27 #[.agg #[.int .i64 k, .string f, .string t, .int .u64 am, .int .u64 nc, .string ky', .string vl, .slice A rs.length c, .slice B ws.length d], .agg #[.int .i64 k, .string f, .string t, .int .u64 am, .int .u64 nc, .string ky', .string vl, .slice A' rs.length c', .slice B' ws.length d']] w
      fun e w' => e = .returned (.bool true) ∧ Below w.heap.size w w' := by
  refine PSm.tuskref04_Same.calls (rs.length + ws.length + 1) k f t am nc ky' vl A c rs B d ws k f t am nc ky' vl A' c' rs B' d' ws true w hr hc hs hd hr' hc' hs' hd' ?_
  rw [PSm.tuskref04_Same.f]
  simp [same_eq rs h1 _ (show rs.length + 1 ≤ rs.length + ws.length + 1 by omega), same_eq ws h2 _ (show ws.length + 1 ≤ rs.length + ws.length + 1 by omega)]
theorem enc_of (k : Int) (f t : ByteArray) (am nc : Int) (ky' vl : ByteArray) (A B : Option Addr) (c d : Nat) (rs ws : List ByteArray) (w : World) (b : ByteArray) (x : Int) (he : enc k f t am nc ky' vl rs ws = (b, x))
    (hr : Kd.C Kd.string w A rs.length rs) (hc : rs.length ≤ c) (hs : Kd.C Kd.string w B ws.length ws) (hd : ws.length ≤ d) (ha : 0 ≤ am) (hn : 0 ≤ nc) :
    Calls Tryd.prog 39 #[.agg #[.int .i64 k, .string f, .string t, .int .u64 am, .int .u64 nc, .string ky', .string vl, .slice A rs.length c, .slice B ws.length d]] w
      fun e w' => e = .returned (.tuple #[.string b, .int .i64 x]) ∧ Below w.heap.size w w' := by
  have := enc_calls k f t am nc ky' vl A B c d rs ws w hr hc hs hd ha hn
  rw [he] at this
  exact this
end Go.Proofs.YtndicjikjcifaaaDoor
