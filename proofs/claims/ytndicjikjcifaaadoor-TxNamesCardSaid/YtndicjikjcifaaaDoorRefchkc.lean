/- tuskref04.Check in the printer's form. -/
import Derived.Test.YtndicjikjcifaaaDoorRefchkb
namespace Go.Proofs.YtndicjikjcifaaaDoor
open Go.RowKit Go.Shelf Go.Lib Go.Proofs.YtndicjikjcifaaaDoorW.PrintWords Go.Proofs.YtndicjikjcifaaaDoorW.PrintLast
def Lim (f t ky' : ByteArray) (rs ws : List ByteArray) : Prop := f.size < 4611686018427387904 ∧ t.size < 4611686018427387904 ∧ ky'.size < 4611686018427387904 ∧ (∀ x ∈ rs, x.size < 4611686018427387904) ∧ (∀ x ∈ ws, x.size < 4611686018427387904)
instance (f t ky' : ByteArray) (rs ws : List ByteArray) : Decidable (Lim f t ky' rs ws) := by unfold Lim; infer_instance
def tuskref04_Check.f (k : Int) (f t : ByteArray) (am nc : Int) (ky' vl : ByteArray) (rs ws : List ByteArray) : Option Int := if Lim f t ky' rs ws then some (ch k f t am nc ky' vl rs ws) else none
theorem tuskref04_Check.calls (a0_0 : Int) (a0_1 a0_2 : ByteArray) (a0_3 a0_4 : Int) (a0_5 a0_6 : ByteArray) (A0_7 : Option Addr) (c0_7 : Nat) (l0_7 : List ByteArray) (A0_8 : Option Addr) (c0_8 : Nat) (l0_8 : List ByteArray) (r : Int) (w : World) (hr0_7 : Kd.C Kd.string w A0_7 l0_7.length l0_7) (hc0_7 : l0_7.length ≤ c0_7) (hr0_8 : Kd.C Kd.string w A0_8 l0_8.length l0_8) (hc0_8 : l0_8.length ≤ c0_8) (h : tuskref04_Check.f a0_0 a0_1 a0_2 a0_3 a0_4 a0_5 a0_6 l0_7 l0_8 = some r) :
    Calls Tryd.prog 42 #[.agg #[.int .i64 a0_0, .string a0_1, .string a0_2, .int .u64 a0_3, .int .u64 a0_4, .string a0_5, .string a0_6, .slice A0_7 l0_7.length c0_7, .slice A0_8 l0_8.length c0_8]] w fun e w' => e = .returned (.int .i64 r) ∧ Below w.heap.size w w' := by
  unfold tuskref04_Check.f at h
  split at h
  · rename_i hl
    obtain rfl := Option.some.inj h
    exact chk2_calls a0_0 a0_1 a0_2 a0_3 a0_4 a0_5 a0_6 A0_7 A0_8 c0_7 c0_8 l0_7 l0_8 w 4611686018427387904 hr0_7 hc0_7 hr0_8 hc0_8 hl.1 hl.2.1 hl.2.2.1 (fun x hx => ⟨by have := hl.2.2.2.1 x hx; omega, hl.2.2.2.1 x hx⟩) (fun x hx => ⟨by have := hl.2.2.2.2 x hx; omega, hl.2.2.2.2 x hx⟩)
  · cases h
def tuskref04_Name.f (s : ByteArray) : Option Bool := if s.size < 4611686018427387904 then some (nm s) else none
theorem tuskref04_Name.calls (a0 : ByteArray) (r : Bool) (w : World) (h : tuskref04_Name.f a0 = some r) :
    Calls Tryd.prog 49 #[.string a0] w fun e w' => e = .returned (.bool r) ∧ Below w.heap.size w w' := by
  unfold tuskref04_Name.f at h
  split at h
  · obtain rfl := Option.some.inj h
    exact name2_calls a0 w (by assumption)
  · cases h
end Go.Proofs.YtndicjikjcifaaaDoor
