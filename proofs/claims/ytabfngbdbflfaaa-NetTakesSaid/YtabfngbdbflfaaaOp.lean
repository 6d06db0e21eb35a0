/- The laws' arguments, opened. -/
import Derived.Test.YtabfngbdbflfaaaOpens
import Derived.Test.YtabfngbdbflfaaaKeepsA
namespace Go.Proofs.Ytabfngbdbflfaaa
open Go.RowKit Go.Proofs.YtabfngbdbflfaaaW.PrintWords Go.Proofs.YtabfngbdbflfaaaW.PrintLast Go.Proofs.Ytabfngbdbflfaaa.PNetKeeps
def G28 (x : S28) : Prop := (Lit.int .i64 x.f0).wf = true ∧ (Lit.int .i64 x.f1).wf = true ∧ x.f2.size ≤ 140737488351232
theorem opens28 : Opens Try.prog 28 k28 G28 :=
  Opens.iso (Opens.struct Try.underlying28 (by kernel_rfl) (Fields.cons rfl (Opens.int .i64 Try.underlying3 (by kernel_rfl)) (Fields.cons rfl (Opens.int .i64 Try.underlying3 (by kernel_rfl)) (Fields.one rfl (Opens.string Try.underlying9 (by kernel_rfl)))))) _ (fun a => ⟨a.1, a.2.1, a.2.2⟩) (fun _ => rfl)
def G42 (x : S42) : Prop := (Lit.int .i64 x.f0).wf = true ∧ G28 x.f1 ∧ (Lit.int .i64 x.f2).wf = true ∧ (Lit.int .i64 x.f3).wf = true
theorem opens42 : Opens Try.prog 42 k42 G42 :=
  Opens.iso (Opens.struct Try.underlying42 (by kernel_rfl) (Fields.cons rfl (Opens.int .i64 Try.underlying3 (by kernel_rfl)) (Fields.cons rfl opens28 (Fields.cons rfl (Opens.int .i64 Try.underlying3 (by kernel_rfl)) (Fields.one rfl (Opens.int .i64 Try.underlying3 (by kernel_rfl))))))) _ (fun a => ⟨a.1, a.2.1, a.2.2.1, a.2.2.2⟩) (fun _ => rfl)
theorem opens37 : Opens Try.prog 37 (Kd.slice 42 k42) (fun l => (∀ a ∈ l, G42 a) ∧ l.length * 56 ≤ 140737488351232 ∧ l.length ≤ maxLen) := Opens.slice Try.underlying37 (by kernel_rfl) opens42 56 (by kernel_rfl)
end Go.Proofs.Ytabfngbdbflfaaa
