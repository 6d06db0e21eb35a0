/- tusklaw04.Own, tuskref04.Same in a form of one line each; what a transaction argument is. -/
import Derived.Test.YtndicjikjcifaaaDoorTxneed
import Derived.Test.YtndicjikjcifaaaDoorPOwx1
import Derived.Test.YtndicjikjcifaaaDoorOpens
import Derived.DataShut
namespace Go.Proofs.YtndicjikjcifaaaDoor
open Go.RowKit Go.Shelf Go.Lib Go.Proofs.YtndicjikjcifaaaDoorW.PrintWords Go.Proofs.YtndicjikjcifaaaDoorW.PrintLast
open Go.Proofs.YtndicjikjcifaaaDoor.POw
set_option linter.unusedVariables false
set_option linter.unusedSimpArgs false

theorem own_calls (k : Int) (f t : ByteArray) (am nc : Int) (ky' vl : ByteArray) (A B : Option Addr) (c d : Nat) (rs ws : List ByteArray) (w : World)
    (hr : Kd.C Kd.string w A rs.length rs) (hc : rs.length ≤ c) (hs : Kd.C Kd.string w B ws.length ws) (hd : ws.length ≤ d) (h1 : rs.length < 8796093022208) (h2 : ws.length < 8796093022208) :
    Calls Tryd.prog 19 #[.agg #[.int .i64 k, .string f, .string t, .int .u64 am, .int .u64 nc, .string ky', .string vl, .slice A rs.length c, .slice B ws.length d]] w
      fun e w' => ∃ A' c' B' d', e = .returned (.agg #[.int .i64 k, .string f, .string t, .int .u64 am, .int .u64 nc, .string ky', .string vl, .slice A' rs.length c', .slice B' ws.length d'])
        ∧ (Kd.C Kd.string w' A' rs.length rs ∧ rs.length ≤ c') ∧ (Kd.C Kd.string w' B' ws.length ws ∧ ws.length ≤ d') ∧ Below w.heap.size w w' := by
  refine (tusklaw04_Own.calls k f t am nc ky' vl A c rs B d ws k f t am nc ky' vl rs ws w hr hc hs hd ?_).mono ?_
  · simp [tusklaw04_Own.f, h1, h2]
  · rintro e w' ⟨v7, v8, rfl, r7, r8, hb⟩
    obtain ⟨A', c', rfl, q1, q2⟩ := Kd.R_reads r7
    obtain ⟨B', d', rfl, q3, q4⟩ := Kd.R_reads r8
    exact ⟨A', c', B', d', rfl, ⟨q2, q1⟩, ⟨q4, q3⟩, hb⟩
theorem opensStr : Opens Tryd.prog 9 Kd.string (fun s => s.size ≤ 140737488351232) := Opens.string Tryd.underlying9 (by kernel_rfl)
theorem opensStrs : Opens Tryd.prog 31 (Kd.slice 9 Kd.string) (fun l => (∀ a ∈ l, a.size ≤ 140737488351232) ∧ l.length * 16 ≤ 140737488351232 ∧ l.length ≤ maxLen) :=
  Opens.slice Tryd.underlying31 (by kernel_rfl) opensStr 16 (by kernel_rfl)
theorem opensInt : Opens Tryd.prog 3 (Kd.int .i64) (fun n => (Lit.int .i64 n).wf = true) := Opens.int .i64 Tryd.underlying3 (by kernel_rfl)
theorem opensU64 : Opens Tryd.prog 30 (Kd.int .u64) (fun n => (Lit.int .u64 n).wf = true) := Opens.int .u64 Tryd.underlying30 (by kernel_rfl)
abbrev kTx := Kd.pair (Kd.int .i64) (Kd.pair Kd.string (Kd.pair Kd.string (Kd.pair (Kd.int .u64) (Kd.pair (Kd.int .u64) (Kd.pair Kd.string (Kd.pair Kd.string (Kd.pair (Kd.slice 9 Kd.string) (Kd.slice 9 Kd.string))))))))
/-- What is known of a transaction that came in. -/
structure TxIn (w : World) (k : Int) (f t : ByteArray) (am nc : Int) (ky' vl : ByteArray) (A B : Option Addr) (c d : Nat) (rs ws : List ByteArray) : Prop where
  r : Kd.C Kd.string w A rs.length rs
  rc : rs.length ≤ c
  s : Kd.C Kd.string w B ws.length ws
  sc : ws.length ≤ d
  am : 0 ≤ am
  nc : 0 ≤ nc
  rl : rs.length * 16 ≤ 140737488351232
  sl : ws.length * 16 ≤ 140737488351232
  f : f.size ≤ 140737488351232
  t : t.size ≤ 140737488351232
  ky : ky'.size ≤ 140737488351232
  vl : vl.size ≤ 140737488351232
  rz : ∀ a ∈ rs, a.size ≤ 140737488351232
  sz : ∀ a ∈ ws, a.size ≤ 140737488351232
theorem TxIn.below {w w' : World} {k : Int} {f t : ByteArray} {am nc : Int} {ky' vl : ByteArray} {A B : Option Addr} {c d : Nat} {rs ws : List ByteArray} (h : TxIn w k f t am nc ky' vl A B c d rs ws) (hb : Below w.heap.size w w') : TxIn w' k f t am nc ky' vl A B c d rs ws :=
  { h with r := Kd.C_below h.r hb, s := Kd.C_below h.s hb }
theorem u64_lo {n : Int} (h : (Lit.int .u64 n).wf = true) : 0 ≤ n := ((Lit.wf_int_iff .u64 n).1 h).1
theorem tx_open {H : Type} {enc : TypeId × Value → H} {w : World} {fuel : Nat} {cs : List Value} {x : DataW H × List MemPlace} (ht : DataW.trod enc Tryd.prog w 0 (fun _ => true) true fuel 33 cs = some x) (hw : (x.1.weights Tryd.prog 33).all (· ≤ reachBytes) = true) :
    ∃ k f t am nc ky' vl A B c d rs ws, cs = [.int .i64 k, .string f, .string t, .int .u64 am, .int .u64 nc, .string ky', .string vl, .slice A rs.length c, .slice B ws.length d] ∧ TxIn w k f t am nc ky' vl A B c d rs ws := by
  obtain ⟨⟨k, f, t, am, nc, ky', vl, rs, ws⟩, hK, g0, g1, g2, g3, g4, g5, g6, g7, g8⟩ := (Opens.struct (d := kTx) Tryd.underlying33 (by kernel_rfl) (Fields.cons rfl opensInt (Fields.cons rfl opensStr (Fields.cons rfl opensStr (Fields.cons rfl opensU64 (Fields.cons rfl opensU64 (Fields.cons rfl opensStr (Fields.cons rfl opensStr (Fields.cons rfl opensStrs (Fields.one rfl opensStrs)))))))))).run ht hw
  obtain ⟨c0, r0, rfl, e0, c1, r1, rfl, e1, c2, r2, rfl, e2, c3, r3, rfl, e3, c4, r4, rfl, e4, c5, r5, rfl, e5, c6, r6, rfl, e6, c7, r7, rfl, e7, e8⟩ := hK
  obtain ⟨A, c, rfl, hc, hC⟩ := e7
  obtain ⟨B, d, rfl, hd, hD⟩ := e8
  have e0 : c0 = [.int .i64 k] := e0
  have e1 : c1 = [.string f] := e1
  have e2 : c2 = [.string t] := e2
  have e3 : c3 = [.int .u64 am] := e3
  have e4 : c4 = [.int .u64 nc] := e4
  have e5 : c5 = [.string ky'] := e5
  have e6 : c6 = [.string vl] := e6
  subst e0 e1 e2 e3 e4 e5 e6
  exact ⟨k, f, t, am, nc, ky', vl, A, B, c, d, rs, ws, rfl, ⟨hC, hc, hD, hd, u64_lo g3, u64_lo g4, g7.2.1, g8.2.1, g1, g2, g5, g6, g7.1, g8.1⟩⟩
end Go.Proofs.YtndicjikjcifaaaDoor
