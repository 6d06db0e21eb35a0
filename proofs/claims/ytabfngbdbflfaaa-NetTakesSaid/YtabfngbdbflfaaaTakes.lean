/- NetTakes' walk. -/
import Derived.Test.YtabfngbdbflfaaaWorks
import Derived.Test.YtabfngbdbflfaaaMap
import Derived.Test.YtabfngbdbflfaaaOp
import Derived.Test.YtabfngbdbflfaaaWGuard
import Derived.LoopTactic
namespace Go.Proofs.Ytabfngbdbflfaaa
open Go.RowKit Go.Proofs.YtabfngbdbflfaaaW.PrintWords Go.Proofs.YtabfngbdbflfaaaW.PrintLast Go.Proofs.YtabfngbdbflfaaaW.PrintMore Go.Proofs.Ytabfngbdbflfaaa.PNetKeeps
set_option linter.unusedVariables false
set_option linter.unusedSimpArgs false
theorem n60 (x : Int) : ∃ N : Nat, wrap64 ((IntKind.u64.wrap x).tmod 60) = N ∧ N ≤ 59 := by
  have h0 : 0 ≤ IntKind.u64.wrap x := by show 0 ≤ x % 18446744073709551616; omega
  have h1 : 0 ≤ (IntKind.u64.wrap x).tmod 60 ∧ (IntKind.u64.wrap x).tmod 60 < 60 := ⟨Int.tmod_nonneg _ h0, Int.tmod_lt_of_pos _ (by omega)⟩
  generalize (IntKind.u64.wrap x).tmod 60 = y at *
  rw [IntWalk.wrap64_in y (by omega)]
  exact ⟨y.toNat, by omega, by omega⟩
theorem pickn (x : Int) (d : Nat) (hd : 0 < d) (hd2 : d ≤ 59) : IntKind.u64.wrap (d : Int) = d ∧ ∃ K : Nat, wrap64 ((IntKind.u64.wrap x).tmod d) = K ∧ K < d := by
  have h0 : 0 ≤ IntKind.u64.wrap x := by show 0 ≤ x % 18446744073709551616; omega
  have h1 : 0 ≤ (IntKind.u64.wrap x).tmod d ∧ (IntKind.u64.wrap x).tmod d < d := ⟨Int.tmod_nonneg _ h0, Int.tmod_lt_of_pos _ (by omega)⟩
  refine ⟨by show (d : Int) % 18446744073709551616 = d; omega, ?_⟩
  generalize (IntKind.u64.wrap x).tmod d = y at *
  rw [IntWalk.wrap64_in y (by omega)]
  exact ⟨y.toNat, by omega, by omega⟩

theorem One.stay {T base : Nat} {w w' : World} {g b : Nat} {xs : List Env} {l : Int} {L : List Nat} (h : One T base w g xs l L) (ho : Only (fun k => k = b) w w') (hb : b ∈ L) : One T base w' g xs l L := by
  obtain ⟨ok, h1, h2, h3⟩ := h
  exact ⟨ok, h1.only ho (fun k hk e => (h3 b hb).1 (e ▸ hk)), fun k hk => ⟨(h2 k hk).1, Nat.lt_of_lt_of_le (h2 k hk).2 ho.size⟩, fun c hc => ⟨(h3 c hc).1, Nat.lt_of_lt_of_le (h3 c hc).2 ho.size⟩⟩
theorem opens33 : Opens Try.prog 33 (Kd.slice 3 (Kd.int .i64)) (fun l => (∀ a ∈ l, (Lit.int .i64 a).wf = true) ∧ l.length * 8 ≤ 140737488351232 ∧ l.length ≤ maxLen) := Opens.slice Try.underlying33 (by kernel_rfl) (Opens.int .i64 Try.underlying3 (by kernel_rfl)) 8 (by kernel_rfl)
theorem keyI : KeyK Try.prog 3 (Value.int .i64) := KeyK.int .i64 Try.underlying3
theorem at_int {w : World} {A : Option Addr} {n : Nat} {xs : List Int} (h : Kd.C (Kd.int .i64) w A n xs) (i : Nat) (h1 : i < n) : ∃ ad , A = some ad ∧ w.cell? (ad.add i) = some (.int .i64 (xs.getD i 0)) := by
  obtain ⟨ad, c, e, _, hK, hc0⟩ := Kd.C_get h 0 i (by omega) (by omega)
  have hK' : c = [.int .i64 (xs.getD (i : Int).toNat 0)] := hK
  subst hK'
  have := hc0 0 _ rfl
  have hs : (Kd.int .i64).sz = 1 := rfl
  rw [hs] at this
  simp only [Int.toNat_natCast, Nat.mul_one, Nat.add_zero] at this
  exact ⟨ad, e, this⟩
theorem zeroB (W : World) : (zeroValue 4).run Try.prog W = .ok (.bool false) W := by kernel_rfl
theorem erase_facts (xs : List Env) (m : List (Int × Bool)) (K : Nat) (hK : K < xs.length) (hnd : (xs.map (·.f0)).Nodup) (hno : ∀ x ∈ xs, AL.get m x.f0 = none) :
    AL.get m (xs.getD K z28).f0 = none ∧ ((xs.eraseIdx K).map (·.f0)).Nodup ∧ (∀ x ∈ xs.eraseIdx K, AL.get (AL.put m (xs.getD K z28).f0 true) x.f0 = none) ∧ (AL.put m (xs.getD K z28).f0 true).length = m.length + 1 := by
  have hx : xs.getD K z28 = xs[K] := by simp [hK]
  rw [hx]
  have h1 := hno xs[K] (List.getElem_mem hK)
  refine ⟨h1, ?_, ?_, by rw [AL.len_put, if_pos h1]⟩
  · rw [map_erase]; exact hnd.sublist (List.eraseIdx_sublist _ _)
  · intro x hx
    rw [AL.get_put]
    have hne : xs[K].f0 ≠ x.f0 := by
      intro e
      obtain ⟨j, hj⟩ := List.mem_iff_getElem?.1 hx
      rw [List.getElem?_eraseIdx] at hj
      have h2 := List.pairwise_iff_getElem.1 hnd
      split at hj
      · obtain ⟨hl, hj⟩ := List.getElem?_eq_some_iff.1 hj
        exact h2 j K (by simpa using hl) (by simpa using hK) (by omega) (by simp [hj, e])
      · obtain ⟨hl, hj⟩ := List.getElem?_eq_some_iff.1 hj
        exact h2 K (j + 1) (by simpa using hK) (by simpa using hl) (by omega) (by simp [hj, e])
    rw [if_neg hne]
    exact hno x (List.mem_of_mem_eraseIdx hx)

set_option maxRecDepth 100000 in
set_option maxHeartbeats 1000000 in
theorem takes_walk (n : Int) (A : Option Addr) (c : Nat) (l : List Int) (w : World) (hn : (Lit.int .i64 n).wf = true) (hr : Kd.C (Kd.int .i64) w A l.length l) (hc : l.length ≤ c) (hG : (∀ a ∈ l, (Lit.int .i64 a).wf = true) ∧ l.length * 8 ≤ 140737488351232 ∧ l.length ≤ maxLen) :
    Calls Try.prog 4 #[.int .i64 n, .slice A l.length c] w fun e w' => e = .returned (.bool true) ∧ Below w.heap.size w w' := by
  have hm : l.length ≤ 9223372036854775807 := by have := hG.2.1; omega
  have HR := Lib.hid hr
  clear hr hG hn
  have hmm := @run_makeMap Try.prog
  go_enter Try.func4, Try.ntmps4
  go_wp2_with (first
    | (go_at_call 6
       refine (works_true _).mono ?_
       rintro e w0 ⟨rfl, hb0⟩
       have HB0 := Lib.hid hb0
       clear hb0)
    | (go_at_call 7
       refine (new_bag _ w.heap.size HB0.out.size).mono ?_
       rintro e w1 ⟨rfl, hI, hbel⟩
       have HI := Lib.hid (show One 46 w.heap.size w1 w0.heap.size [] 0 [] from ⟨_, bag_lt hI, fun k hk => ⟨by have := HB0.out.size; have := hk.1; omega, hk.2⟩, fun b hb => by cases hb⟩)
       have HB1 := Lib.hid (HB0.out.trans (hbel.mono HB0.out.size))
       clear hI hbel))
  obtain ⟨g, hg⟩ : ∃ g, w0.heap.size = g := ⟨_, rfl⟩
  obtain ⟨N, hN, hN59⟩ := n60 n
  rw [hg, hN]
  have HI' := Lib.hid (show One 46 w.heap.size w1 g [] 0 [] from hg ▸ HI.out)
  clear hg HI hN
  go_loopg [6] N (fun q i wr => ∃ k : Nat, k ≤ N ∧ i = .int .i64 k ∧ Aside0 (N - k ≤ q) ∧ Aside0 (One 46 w.heap.size wr g (sent k) 0 []) ∧ Aside0 (Below w.heap.size w wr))
  case atStart => exact ⟨0, by omega, rfl, ⟨by omega⟩, ⟨HI'.out⟩, ⟨HB1.out⟩⟩
  case round =>
    obtain ⟨k, hk, rfl, HQ, HO, HB⟩ := hrel
    clear HI' HB1
    have HL := Lib.hid (sent_len k)
    by_cases hlt : k < N
    · have hroom : room (sent k) = true := by unfold room; rw [HL.out]; simp; omega
      have HROOM := Lib.hid hroom
      clear hroom
      go_wp2_with (
        go_at_call 8
        refine (one_call HO.out HB.out.size (fun ok h => send_any _ _ _ ok (sent k) 0 (env k) h (by rw [HL.out]; omega) (by omega) (by omega))).mono ?_
        rintro e w2 ⟨rfl, hI2, _, hb2⟩
        rw [HROOM.out]
        have HI2 := Lib.hid hI2
        have HB2 := Lib.hid hb2
        clear hI2 hb2)
      go_roundg (gk - 1)
      case measure => have := HQ.out; omega
      case rel => exact ⟨k + 1, by omega, by go_num, ⟨by have := HQ.out; omega⟩, ⟨by
          have := HI2.out
          rwa [show snt (sent k) (env k) = sent (k + 1) by rw [sent_succ]; unfold snt; rw [if_pos HROOM.out], show lst (sent k) 0 = 0 by unfold lst; rw [if_pos HROOM.out]] at this⟩, ⟨HB.out.trans HB2.out⟩⟩
    · obtain rfl : k = N := by omega
      go_wp2
      clear HQ
      obtain ⟨bm, hbm⟩ : ∃ b, wr.heap.size = b := ⟨_, rfl⟩
      have HO1 := Lib.hid (show One 46 w.heap.size (wr.alloc (.map #[] 0)) g (sent k) 0 [bm] from hbm ▸ HO.out.new (.map #[] 0))
      have HM1 := Lib.hid (show MapAt (Value.int .i64) Value.bool (wr.alloc (.map #[] 0)) bm ([] : List (Int × Bool)) from hbm ▸ MapAt.new _ _ wr)
      have HB1 := Lib.hid (HB.out.alloc HB.out.size (.map #[] 0))
      have hbmB : w.heap.size ≤ bm := hbm ▸ HB.out.size
      rw [hbm]
      clear hbm HO HB hlt hk
      go_loopg [8] k (fun q i wr => ∃ (j : Nat) (xs : List Env) (m : List (Int × Bool)), j ≤ k ∧ i = .int .i64 j ∧ Aside0 (k - j ≤ q) ∧ xs.length ≤ 59 ∧ Aside0 (xs.length = k - j ∧ m.length = j ∧ (xs.map (·.f0)).Nodup ∧ ∀ x ∈ xs, AL.get m x.f0 = none) ∧ Aside0 (One 46 w.heap.size wr g xs 0 [bm]) ∧ Aside0 (MapAt (Value.int .i64) Value.bool wr bm m) ∧ Aside0 (Below w.heap.size w wr))
      case atStart => exact ⟨0, sent k, [], by omega, rfl, ⟨by omega⟩, by rw [HL.out]; omega, ⟨by rw [HL.out]; omega, rfl, by
          have : (sent k).map (·.f0) = (List.range k).map (fun (n : Nat) => (n : Int)) := by simp [sent, env]
          rw [this]
          exact List.Pairwise.map _ (fun a b h => by show ((a : Int) ≠ b); omega) (List.nodup_range (n := k)), fun x _ => rfl⟩, ⟨HO1.out⟩, ⟨HM1.out⟩, ⟨HB1.out⟩⟩
      case round =>
        obtain ⟨j, xs, m, hj, rfl, HQ, hx59, HF, HO, HM, HB⟩ := hrel
        clear HO1 HM1 HB1
        by_cases hlt : j < k
        · go_upto_if 38 with (fail)
          go_cut [9] (fun v w' => ∃ K : Nat, v = .int .i64 K ∧ K < k - j ∧ w' = wr)
          case first =>
            by_cases hl : j < l.length
            · obtain ⟨ad, hA, e0⟩ := at_int HR.out j hl
              subst hA
              obtain ⟨p, hp⟩ : ∃ p, l.getD j 0 = p := ⟨_, rfl⟩
              rw [hp] at e0
              have d0 := (HB.out.cell (World.block_lt_of_cell? w _ e0)).trans e0
              clear e0 hp
              have hd : ((k - j : Nat) : Int) = (k : Int) - j := by omega
              obtain ⟨hw1, K, hK1, hK2⟩ := pickn p (k - j) (by omega) (by omega)
              rw [hd] at hw1 hK1
              have hne : ((k : Int) - j == 0) = false := beq_eq_false_iff_ne.2 (by omega)
              have hj2 : (j : Int) < l.length := by omega
              go_wp2
              go_meet
              case rel => exact ⟨K, by rw [hK1], hK2, rfl⟩
            · have hj2 : (l.length : Int) ≤ j := by omega
              go_wp2
              go_meet
              case rel => exact ⟨0, rfl, by omega, rfl⟩
          case rest =>
            obtain ⟨K, rfl, hK, rfl⟩ := hcut
            have HLX := Lib.hid HF.out.1
            obtain ⟨x, hx⟩ : ∃ x, xs.getD K z28 = x := ⟨_, rfl⟩
            obtain ⟨f1, f2, f3, f4⟩ := erase_facts xs m K (by rw [HF.out.1]; exact hK) HF.out.2.2.1 HF.out.2.2.2
            rw [hx] at f1 f3 f4
            have HAT : Hid (atv xs K = x ∧ inb xs K = true ∧ tkn xs K = xs.eraseIdx K) := by
              have h1 : inb xs K = true := by unfold inb; have := HF.out.1; simp; omega
              exact ⟨by unfold atv; rw [if_pos (by omega)]; simpa using hx, h1, by unfold tkn; rw [if_pos h1]; simp⟩
            have F1 := Lib.hid f1
            have F2 := Lib.hid f2
            have F3 := Lib.hid f3
            have F4 := Lib.hid f4
            have HE := Lib.hid (show (xs.eraseIdx K).length = k - j - 1 by rw [List.length_eraseIdx, HF.out.1, if_pos hK])
            clear hx f1 f2 f3 f4
            have hs1 : ((k - j - 1 : Nat) : Int) = (k : Int) - j - 1 := by omega
            have HS1 := Lib.hid hs1
            clear hs1
            go_wp2_with (first
              | (go_at_call 9
                 refine (one_call HO.out HB.out.size (fun ok h => take_any _ _ _ ok xs 0 K h (by omega))).mono ?_
                 rintro e w2 ⟨rfl, hI2, hS2, hb2⟩
                 rw [HAT.out.1, HAT.out.2.1]
                 rw [HAT.out.2.2] at hI2
                 have HI2 := Lib.hid (hI2.new (.cells #[.int .i64 x.f0, .int .i64 x.f1, .string x.f2] 28))
                 have HM2 := Lib.hid ((HM.out.move (hS2 bm (by simp))).below ((Below.refl _ w2).alloc (Nat.le_refl _) (.cells #[.int .i64 x.f0, .int .i64 x.f1, .string x.f2] 28)))
                 have HB2 := Lib.hid ((HB.out.trans hb2).alloc (by have := HB.out.size; have := hb2.size; omega) (.cells #[.int .i64 x.f0, .int .i64 x.f1, .string x.f2] 28))
                 have hlb : bm < w2.heap.size := (HM.out.move (hS2 bm (by simp))).lt
                 clear hI2 hb2 hS2)
              | (at_lookup
                 refine gate_guard (by simp [Region.wanted, yielded]) ?_
                 refine look_list rfl (.tmp 59) (.tmp 61) 35 rfl keyI Try.underlying35 bm m (by exact HM2.out.move rfl) rfl x.f0 rfl false zeroB ?_
                 rw [F1.out])
              | (go_at_call 10
                 obtain ⟨ok, hb, _⟩ := id HI2.out
                 refine (bag_len _ _ _ ok (xs.eraseIdx K) 0 (by exact hb)).mono ?_
                 rintro e w6 ⟨rfl, rfl⟩
                 clear hb
                 rw [HE.out, HS1.out])
              | (at_mapUpdate
                 refine put_list rfl (.tmp 73) (.tmp 75) (.const (.bool true)) 35 rfl keyI Try.underlying35 bm m (by exact HM2.out) rfl x.f0 true rfl rfl ?_
                 intro w3 hm3 ho3
                 have HM3 := Lib.hid hm3
                 have HO3 := Lib.hid ho3
                 clear hm3 ho3))
            go_roundg (gk - 1)
            case measure => have := HQ.out; omega
            case rel => exact ⟨j + 1, xs.eraseIdx K, AL.put m x.f0 true, by omega, by go_num, ⟨by have := HQ.out; omega⟩, by have := HE.out; omega, ⟨by have := HE.out; omega, by rw [F4.out, HF.out.2.1], F2.out, F3.out⟩, ⟨(HI2.out.stay HO3.out (by simp)).sub (fun b hb => by simp at hb; simp [hb])⟩, ⟨HM3.out⟩, ⟨HB2.out.trans (HO3.out.below HB2.out.size (fun i hi => hi ▸ hbmB))⟩⟩
        · obtain rfl : j = k := by omega
          have HLM := Lib.hid HF.out.2.1
          go_wp2_with (at_len; refine len_list rfl (.tmp 76) 35 rfl Try.underlying35 bm m (by exact HM.out) rfl ?_; rw [HLM.out])
          go_ret
          exact ⟨rfl, HB.out⟩
end Go.Proofs.Ytabfngbdbflfaaa
