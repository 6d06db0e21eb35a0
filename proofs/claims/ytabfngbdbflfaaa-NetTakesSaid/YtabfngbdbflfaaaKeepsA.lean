/- The acts of NetKeeps, as they read; small facts on two bags beside each other. -/
import Derived.Test.YtabfngbdbflfaaaBagone
import Derived.Test.YtabfngbdbflfaaaOpens
namespace Go.Proofs.Ytabfngbdbflfaaa
open Go.RowKit Go.Proofs.YtabfngbdbflfaaaW.PrintWords Go.Proofs.YtabfngbdbflfaaaW.PrintLast Go.Proofs.Ytabfngbdbflfaaa.PNetKeeps
set_option linter.unusedVariables false
structure S42 where
  f0 : Int
  f1 : S28
  f2 : Int
  f3 : Int
def z42 : S42 := ⟨0, z28, 0, 0⟩
def k42 : Kd S42 := Kd.iso (Kd.pair (Kd.int .i64) (Kd.pair k28 (Kd.pair (Kd.int .i64) (Kd.int .i64)))) (fun x : S42 => (x.f0, x.f1, x.f2, x.f3))
theorem k42_open {w : World} {x : S42} {cs : List Value} (h : k42.K w x cs) : cs = [.int .i64 x.f0, .int .i64 x.f1.f0, .int .i64 x.f1.f1, .string x.f1.f2, .int .i64 x.f2, .int .i64 x.f3] := by
  obtain ⟨c0, c1, rfl, h0, c2, c3, rfl, h2, c4, c5, rfl, h4, h5⟩ := h
  obtain rfl : c0 = [.int .i64 x.f0] := h0
  obtain rfl := k28_open h2
  obtain rfl : c4 = [.int .i64 x.f2] := h4
  obtain rfl : c5 = [.int .i64 x.f3] := h5
  rfl
theorem at_T42 {w : World} {A : Option Addr} {n : Nat} {xs : List S42} (h : Kd.C k42 w A n xs) (i : Nat) (h1 : i < n) : ∃ ad , A = some ad ∧ w.cell? (ad.add (i * 6)) = some (.int .i64 (xs.getD i z42).f0) ∧ w.cell? ⟨(ad.add (i * 6)).block, (ad.add (i * 6)).off + 1, none⟩ = some (.int .i64 (xs.getD i z42).f1.f0) ∧ w.cell? ⟨(ad.add (i * 6)).block, (ad.add (i * 6)).off + 2, none⟩ = some (.int .i64 (xs.getD i z42).f1.f1) ∧ w.cell? ⟨(ad.add (i * 6)).block, (ad.add (i * 6)).off + 3, none⟩ = some (.string (xs.getD i z42).f1.f2) ∧ w.cell? ⟨(ad.add (i * 6)).block, (ad.add (i * 6)).off + 4, none⟩ = some (.int .i64 (xs.getD i z42).f2) ∧ w.cell? ⟨(ad.add (i * 6)).block, (ad.add (i * 6)).off + 5, none⟩ = some (.int .i64 (xs.getD i z42).f3) := by
  obtain ⟨ad, c, e, _, hK, hc0⟩ := Kd.C_get h z42 i (by omega) (by omega)
  have hc : ∀ j u, c[j]? = some u → w.cell? (ad.add (i * 6 + j)) = some u := hc0
  obtain rfl := k42_open hK
  exact ⟨ad, e, hc 0 _ rfl, by rw [← add_field _ _ 1 (by omega)]; exact hc 1 _ rfl, by rw [← add_field _ _ 2 (by omega)]; exact hc 2 _ rfl, by rw [← add_field _ _ 3 (by omega)]; exact hc 3 _ rfl, by rw [← add_field _ _ 4 (by omega)]; exact hc 4 _ rfl, by rw [← add_field _ _ 5 (by omega)]; exact hc 5 _ rfl⟩
/-- A bag's state after n sends of x. -/
def many (x : Env) : Nat → List Env → List Env
  | 0, xs => xs
  | n + 1, xs => snt (many x n xs) x
theorem tkn_le {xs : List Env} {i : Int} (h : xs.length ≤ 256) : (tkn xs i).length ≤ 256 := by
  unfold tkn
  split
  · rw [List.length_eraseIdx]; split <;> omega
  · exact h
theorem twn_le {xs : List Env} {i : Int} (h : xs.length ≤ 256) : (twn xs i).length ≤ 256 := by
  unfold twn
  split
  · exact room_le h
  · exact h
theorem lst_bd (xs : List Env) (l : Int) : l ≤ lst xs l ∧ lst xs l ≤ l + 1 := by unfold lst; split <;> omega
theorem twl_bd (xs : List Env) (l i : Int) : l ≤ twl xs l i ∧ twl xs l i ≤ l + 1 := by
  unfold twl
  split
  · exact lst_bd xs l
  · omega
end Go.Proofs.Ytabfngbdbflfaaa
