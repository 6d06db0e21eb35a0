/- Texts joined by wip/tools/slim2.py: Seals, Opsl, Brow. -/
import Derived.Test.YtndicjikjcifaaaDoorJ5
/- BatchSeals. -/
namespace Go.Proofs.YtndicjikjcifaaaDoor
open Go.RowKit Go.Proofs.YtndicjikjcifaaaDoorW.PrintWords Go.Proofs.YtndicjikjcifaaaDoorW.PrintLast
set_option linter.unusedVariables false
set_option linter.unusedSimpArgs false
set_option maxRecDepth 100000
open PB (S33 k33)
end Go.Proofs.YtndicjikjcifaaaDoor

/- The batch laws' arguments: rows of operations, a transaction, a batch: from data to plain values. -/
namespace Go.Proofs.YtndicjikjcifaaaDoor
open Go.RowKit Go.Proofs.YtndicjikjcifaaaDoorW.PrintWords Go.Proofs.YtndicjikjcifaaaDoorW.PrintLast
open PB (S33 k33)
set_option linter.unusedVariables false
set_option linter.unusedSimpArgs false
def gTx (t : S33) : Prop := (Lit.int .i64 t.f0).wf = true ∧ t.f1.size ≤ 140737488351232 ∧ t.f2.size ≤ 140737488351232 ∧ (Lit.int .u64 t.f3).wf = true ∧ (Lit.int .u64 t.f4).wf = true ∧ t.f5.size ≤ 140737488351232 ∧ t.f6.size ≤ 140737488351232 ∧
  ((∀ a ∈ t.f7, a.size ≤ 140737488351232) ∧ t.f7.length * 16 ≤ 140737488351232 ∧ t.f7.length ≤ maxLen) ∧ ((∀ a ∈ t.f8, a.size ≤ 140737488351232) ∧ t.f8.length * 16 ≤ 140737488351232 ∧ t.f8.length ≤ maxLen)
theorem opensTx : Opens Tryd.prog 33 k33 gTx :=
  Opens.iso (Opens.struct (d := kTx) Tryd.underlying33 (by kernel_rfl) (Fields.cons rfl opensInt (Fields.cons rfl opensStr (Fields.cons rfl opensStr (Fields.cons rfl opensU64 (Fields.cons rfl opensU64 (Fields.cons rfl opensStr (Fields.cons rfl opensStr (Fields.cons rfl opensStrs (Fields.one rfl opensStrs)))))))))) _ (fun x => ⟨x.1, x.2.1, x.2.2.1, x.2.2.2.1, x.2.2.2.2.1, x.2.2.2.2.2.1, x.2.2.2.2.2.2.1, x.2.2.2.2.2.2.2.1, x.2.2.2.2.2.2.2.2⟩) (fun _ => rfl)
theorem gTx_lim {t : S33} (h : gTx t) : LimT t ∧ t.f7.length < 8796093022208 ∧ t.f8.length < 8796093022208 ∧ 0 ≤ t.f3 ∧ 0 ≤ t.f4 := by
  obtain ⟨g0, g1, g2, g3, g4, g5, g6, g7, g8⟩ := h
  refine ⟨⟨by omega, by omega, by omega, fun x hx => ?_, fun x hx => ?_⟩, by omega, by omega, u64_lo g3, u64_lo g4⟩
  · have := g7.1 x hx; omega
  · have := g8.1 x hx; omega
end Go.Proofs.YtndicjikjcifaaaDoor

/- The batch laws' rows: from what came in to the walks. -/
namespace Go.Proofs.YtndicjikjcifaaaDoor
open Go.RowKit Go.Proofs.YtndicjikjcifaaaDoorW.PrintWords Go.Proofs.YtndicjikjcifaaaDoorW.PrintLast
open PB (S33 k33)
set_option linter.unusedVariables false
set_option linter.unusedSimpArgs false
theorem batchFull_row (a0 : Int) (cs : Array Value) (t : S33) (w : World) (hK : k33.K w t cs.toList) (hG : gTx t) :
    Calls Tryd.prog 8 #[.int .i64 a0, .agg cs] w fun e W => e = .returned (.bool true) ∧ Below w.heap.size w W := by
  obtain ⟨A7, c7, A8, c8, he, _⟩ := PB.k33_open hK
  have hcs : cs = #[.int .i64 t.f0, .string t.f1, .string t.f2, .int .u64 t.f3, .int .u64 t.f4, .string t.f5, .string t.f6, .slice A7 t.f7.length c7, .slice A8 t.f8.length c8] := Array.toList_inj.1 he
  subst hcs
  have := gTx_lim hG
  exact batchFull_calls a0 t A7 A8 c7 c8 w hK this.2.1 this.2.2.1
end Go.Proofs.YtndicjikjcifaaaDoor
