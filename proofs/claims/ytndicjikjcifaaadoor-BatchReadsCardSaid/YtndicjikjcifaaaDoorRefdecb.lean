/- tuskref04.Decode: it answers as tx.Decode. -/
import Derived.Test.YtndicjikjcifaaaDoorRefdec
namespace Go.Proofs.YtndicjikjcifaaaDoor
open Go.RowKit Go.Shelf Go.Lib Go.Proofs.YtndicjikjcifaaaDoorW.PrintWords Go.Proofs.YtndicjikjcifaaaDoorW.PrintLast
set_option linter.unusedVariables false
set_option linter.unusedSimpArgs false

theorem gt_size (a : ByteArray) : (gt a).1.size ≤ a.size := by
  have e : (⟨#[]⟩ : ByteArray).size = 0 := rfl
  unfold gt
  repeat' split
  all_goals first | (simp only [ByteArray.size_extract]; omega) | (simp only [e]; omega)
theorem glL_size (a : ByteArray) : ∀ c p acc M, a.size ≤ M → (∀ x ∈ acc, x.size ≤ M) → ∀ x ∈ (glL a c p acc).1, x.size ≤ M
  | 0, p, acc, M, hM, h, x, hx => h x hx
  | c + 1, p, acc, M, hM, h, x, hx => by
    rw [glL] at hx
    split at hx
    · refine glL_size a c _ _ M hM (fun y hy => ?_) x hx
      rcases List.mem_append.1 hy with hy | hy
      · exact h y hy
      · rw [List.mem_singleton.1 hy]
        have := gt_size (a.extract p a.size)
        rw [ByteArray.size_extract] at this
        omega
    · simp at hx
theorem gl_size (a : ByteArray) (m : Int) : ∀ x ∈ (gl a m).1, x.size ≤ a.size := by
  intro x hx
  unfold gl at hx
  repeat' split at hx
  · simp at hx
  · exact glL_size a _ _ _ _ (Nat.le_refl _) (by simp) x hx
  · simp at hx
theorem rest_le (s : ByteArray) (n : Int) : (rest s n).size ≤ s.size := rest_size s n
theorem inG_rest {α : Type} (z : α) (g : ByteArray → α × Int × Int) (S : ByteArray) (E : Int) : (inG z g S E).2.1.size ≤ S.size := by
  unfold inG
  split
  · exact rest_le _ _
  · exact Nat.le_refl _
theorem inI_val (S : ByteArray) (E : Int) : 0 ≤ (inI S E).1 ∧ (inI S E).1 ≤ 4611686018427387903 := by
  unfold inI inG
  split
  · by_cases h0 : (gi S 9 0 0).2.2 = 0
    · have := gi_ok S 9 0 0 (by omega) h0
      exact ⟨this.1, this.2.1⟩
    · have := gi_err S 9 0 0 h0
      dsimp only
      omega
  · simp
theorem inT_val (S : ByteArray) (E : Int) : (inT S E).1.size ≤ S.size := by
  unfold inT inG
  split
  · exact gt_size S
  · exact Nat.zero_le _
theorem inL_val (S : ByteArray) (E : Int) : ∀ x ∈ (inL S E).1, x.size ≤ S.size := by
  unfold inL inG
  split
  · exact gl_size S 8
  · simp
theorem u64_id (x : Int) (h : 0 ≤ x ∧ x ≤ 4611686018427387903) : IntKind.u64.wrap x = x := by
  rw [IntKind.wrap_u64]; omega
theorem inG_step {α : Type} (z : α) (g : ByteArray → α × Int × Int) (T : α → ByteArray → Int → Dec) (hT : ∀ v S E, E ≠ 0 → T v S E = derr E) (S : ByteArray) :
    T (inG z g S 0).1 (inG z g S 0).2.1 (inG z g S 0).2.2 = bindE (g S) S (fun v S' => T v S' 0) := by
  unfold inG
  rw [if_pos rfl]
  dsimp only
  by_cases h : (g S).2.2 = 0
  · rw [bindE, if_pos h, h]
  · rw [bindE_no h, hT _ _ _ h]
theorem inG_err {α : Type} (z : α) (g : ByteArray → α × Int × Int) (T : α → ByteArray → Int → Dec) (hT : ∀ v S E, E ≠ 0 → T v S E = derr E) (S : ByteArray) (E : Int) (hE : E ≠ 0) :
    T (inG z g S E).1 (inG z g S E).2.1 (inG z g S E).2.2 = derr E := by
  unfold inG
  rw [if_neg hE]
  exact hT _ _ _ hE
def D9 (kd : Int) (f : ByteArray) (t : ByteArray) (am : Int) (nc : Int) (ky' : ByteArray) (vl : ByteArray) (rs : List ByteArray) (ws : List ByteArray) (S : ByteArray) (E : Int) : Dec := fin2 E kd f t am nc ky' vl rs ws S
theorem D9_e (kd : Int) (f : ByteArray) (t : ByteArray) (am : Int) (nc : Int) (ky' : ByteArray) (vl : ByteArray) (rs : List ByteArray) (ws : List ByteArray) (S : ByteArray) (E : Int) (h : E ≠ 0) : D9 kd f t am nc ky' vl rs ws S E = derr E := by
  unfold D9 fin2
  rw [if_pos h]
theorem D9_0 (kd : Int) (f : ByteArray) (t : ByteArray) (am : Int) (nc : Int) (ky' : ByteArray) (vl : ByteArray) (rs : List ByteArray) (ws : List ByteArray) (S : ByteArray) : D9 kd f t am nc ky' vl rs ws S 0 = if kd ≤ 2 then (if S.toList.isEmpty = true then fin9 kd f t am nc ky' vl rs ws else derr 6) else derr 2 := by
  unfold D9 fin2
  rw [if_neg (fun h => h rfl)]
def D8 (kd : Int) (f : ByteArray) (t : ByteArray) (am : Int) (nc : Int) (ky' : ByteArray) (vl : ByteArray) (rs : List ByteArray) (S : ByteArray) (E : Int) : Dec := D9 kd f t am nc ky' vl rs (inG ([] : List ByteArray) (fun s => gl s 8) S E).1 (inG ([] : List ByteArray) (fun s => gl s 8) S E).2.1 (inG ([] : List ByteArray) (fun s => gl s 8) S E).2.2
theorem D8_e (kd : Int) (f : ByteArray) (t : ByteArray) (am : Int) (nc : Int) (ky' : ByteArray) (vl : ByteArray) (rs : List ByteArray) (S : ByteArray) (E : Int) (h : E ≠ 0) : D8 kd f t am nc ky' vl rs S E = derr E := by
  unfold D8
  exact inG_err ([] : List ByteArray) (fun s => gl s 8) (D9 kd f t am nc ky' vl rs) (fun v S E h => D9_e kd f t am nc ky' vl rs v S E h) S E h
theorem D8_0 (kd : Int) (f : ByteArray) (t : ByteArray) (am : Int) (nc : Int) (ky' : ByteArray) (vl : ByteArray) (rs : List ByteArray) (S : ByteArray) : D8 kd f t am nc ky' vl rs S 0 = bindE (gl S 8) S (fun v S' => D9 kd f t am nc ky' vl rs v S' 0) := by
  unfold D8
  exact inG_step ([] : List ByteArray) (fun s => gl s 8) (D9 kd f t am nc ky' vl rs) (fun v S E h => D9_e kd f t am nc ky' vl rs v S E h) S
def D7 (kd : Int) (f : ByteArray) (t : ByteArray) (am : Int) (nc : Int) (ky' : ByteArray) (vl : ByteArray) (S : ByteArray) (E : Int) : Dec := D8 kd f t am nc ky' vl (inG ([] : List ByteArray) (fun s => gl s 8) S E).1 (inG ([] : List ByteArray) (fun s => gl s 8) S E).2.1 (inG ([] : List ByteArray) (fun s => gl s 8) S E).2.2
theorem D7_e (kd : Int) (f : ByteArray) (t : ByteArray) (am : Int) (nc : Int) (ky' : ByteArray) (vl : ByteArray) (S : ByteArray) (E : Int) (h : E ≠ 0) : D7 kd f t am nc ky' vl S E = derr E := by
  unfold D7
  exact inG_err ([] : List ByteArray) (fun s => gl s 8) (D8 kd f t am nc ky' vl) (fun v S E h => D8_e kd f t am nc ky' vl v S E h) S E h
theorem D7_0 (kd : Int) (f : ByteArray) (t : ByteArray) (am : Int) (nc : Int) (ky' : ByteArray) (vl : ByteArray) (S : ByteArray) : D7 kd f t am nc ky' vl S 0 = bindE (gl S 8) S (fun v S' => D8 kd f t am nc ky' vl v S' 0) := by
  unfold D7
  exact inG_step ([] : List ByteArray) (fun s => gl s 8) (D8 kd f t am nc ky' vl) (fun v S E h => D8_e kd f t am nc ky' vl v S E h) S
def D6 (kd : Int) (f : ByteArray) (t : ByteArray) (am : Int) (nc : Int) (ky' : ByteArray) (S : ByteArray) (E : Int) : Dec := D7 kd f t am nc ky' (inG (⟨#[]⟩ : ByteArray) gt S E).1 (inG (⟨#[]⟩ : ByteArray) gt S E).2.1 (inG (⟨#[]⟩ : ByteArray) gt S E).2.2
theorem D6_e (kd : Int) (f : ByteArray) (t : ByteArray) (am : Int) (nc : Int) (ky' : ByteArray) (S : ByteArray) (E : Int) (h : E ≠ 0) : D6 kd f t am nc ky' S E = derr E := by
  unfold D6
  exact inG_err (⟨#[]⟩ : ByteArray) gt (D7 kd f t am nc ky') (fun v S E h => D7_e kd f t am nc ky' v S E h) S E h
theorem D6_0 (kd : Int) (f : ByteArray) (t : ByteArray) (am : Int) (nc : Int) (ky' : ByteArray) (S : ByteArray) : D6 kd f t am nc ky' S 0 = bindE (gt S) S (fun v S' => D7 kd f t am nc ky' v S' 0) := by
  unfold D6
  exact inG_step (⟨#[]⟩ : ByteArray) gt (D7 kd f t am nc ky') (fun v S E h => D7_e kd f t am nc ky' v S E h) S
def D5 (kd : Int) (f : ByteArray) (t : ByteArray) (am : Int) (nc : Int) (S : ByteArray) (E : Int) : Dec := D6 kd f t am nc (inG (⟨#[]⟩ : ByteArray) gt S E).1 (inG (⟨#[]⟩ : ByteArray) gt S E).2.1 (inG (⟨#[]⟩ : ByteArray) gt S E).2.2
theorem D5_e (kd : Int) (f : ByteArray) (t : ByteArray) (am : Int) (nc : Int) (S : ByteArray) (E : Int) (h : E ≠ 0) : D5 kd f t am nc S E = derr E := by
  unfold D5
  exact inG_err (⟨#[]⟩ : ByteArray) gt (D6 kd f t am nc) (fun v S E h => D6_e kd f t am nc v S E h) S E h
theorem D5_0 (kd : Int) (f : ByteArray) (t : ByteArray) (am : Int) (nc : Int) (S : ByteArray) : D5 kd f t am nc S 0 = bindE (gt S) S (fun v S' => D6 kd f t am nc v S' 0) := by
  unfold D5
  exact inG_step (⟨#[]⟩ : ByteArray) gt (D6 kd f t am nc) (fun v S E h => D6_e kd f t am nc v S E h) S
def D4 (kd : Int) (f : ByteArray) (t : ByteArray) (am : Int) (S : ByteArray) (E : Int) : Dec := D5 kd f t am (inG (0 : Int) (fun s => gi s 9 0 0) S E).1 (inG (0 : Int) (fun s => gi s 9 0 0) S E).2.1 (inG (0 : Int) (fun s => gi s 9 0 0) S E).2.2
theorem D4_e (kd : Int) (f : ByteArray) (t : ByteArray) (am : Int) (S : ByteArray) (E : Int) (h : E ≠ 0) : D4 kd f t am S E = derr E := by
  unfold D4
  exact inG_err (0 : Int) (fun s => gi s 9 0 0) (D5 kd f t am) (fun v S E h => D5_e kd f t am v S E h) S E h
theorem D4_0 (kd : Int) (f : ByteArray) (t : ByteArray) (am : Int) (S : ByteArray) : D4 kd f t am S 0 = bindE (gi S 9 0 0) S (fun v S' => D5 kd f t am v S' 0) := by
  unfold D4
  exact inG_step (0 : Int) (fun s => gi s 9 0 0) (D5 kd f t am) (fun v S E h => D5_e kd f t am v S E h) S
def D3 (kd : Int) (f : ByteArray) (t : ByteArray) (S : ByteArray) (E : Int) : Dec := D4 kd f t (inG (0 : Int) (fun s => gi s 9 0 0) S E).1 (inG (0 : Int) (fun s => gi s 9 0 0) S E).2.1 (inG (0 : Int) (fun s => gi s 9 0 0) S E).2.2
theorem D3_e (kd : Int) (f : ByteArray) (t : ByteArray) (S : ByteArray) (E : Int) (h : E ≠ 0) : D3 kd f t S E = derr E := by
  unfold D3
  exact inG_err (0 : Int) (fun s => gi s 9 0 0) (D4 kd f t) (fun v S E h => D4_e kd f t v S E h) S E h
theorem D3_0 (kd : Int) (f : ByteArray) (t : ByteArray) (S : ByteArray) : D3 kd f t S 0 = bindE (gi S 9 0 0) S (fun v S' => D4 kd f t v S' 0) := by
  unfold D3
  exact inG_step (0 : Int) (fun s => gi s 9 0 0) (D4 kd f t) (fun v S E h => D4_e kd f t v S E h) S
def D2 (kd : Int) (f : ByteArray) (S : ByteArray) (E : Int) : Dec := D3 kd f (inG (⟨#[]⟩ : ByteArray) gt S E).1 (inG (⟨#[]⟩ : ByteArray) gt S E).2.1 (inG (⟨#[]⟩ : ByteArray) gt S E).2.2
theorem D2_e (kd : Int) (f : ByteArray) (S : ByteArray) (E : Int) (h : E ≠ 0) : D2 kd f S E = derr E := by
  unfold D2
  exact inG_err (⟨#[]⟩ : ByteArray) gt (D3 kd f) (fun v S E h => D3_e kd f v S E h) S E h
theorem D2_0 (kd : Int) (f : ByteArray) (S : ByteArray) : D2 kd f S 0 = bindE (gt S) S (fun v S' => D3 kd f v S' 0) := by
  unfold D2
  exact inG_step (⟨#[]⟩ : ByteArray) gt (D3 kd f) (fun v S E h => D3_e kd f v S E h) S
def D1  (kd : Int) (S : ByteArray) (E : Int) : Dec := D2 kd (inG (⟨#[]⟩ : ByteArray) gt S E).1 (inG (⟨#[]⟩ : ByteArray) gt S E).2.1 (inG (⟨#[]⟩ : ByteArray) gt S E).2.2
theorem D1_e  (kd : Int) (S : ByteArray) (E : Int) (h : E ≠ 0) : D1  kd S E = derr E := by
  unfold D1
  exact inG_err (⟨#[]⟩ : ByteArray) gt (D2 kd) (fun v S E h => D2_e kd v S E h) S E h
theorem D1_0  (kd : Int) (S : ByteArray) : D1  kd S 0 = bindE (gt S) S (fun v S' => D2 kd v S' 0) := by
  unfold D1
  exact inG_step (⟨#[]⟩ : ByteArray) gt (D2 kd) (fun v S E h => D2_e kd v S E h) S
def D0  (S : ByteArray) (E : Int) : Dec := D1  (inG (0 : Int) (fun s => gi s 9 0 0) S E).1 (inG (0 : Int) (fun s => gi s 9 0 0) S E).2.1 (inG (0 : Int) (fun s => gi s 9 0 0) S E).2.2
theorem D0_0  (S : ByteArray) : D0  S 0 = bindE (gi S 9 0 0) S (fun v S' => D1  v S' 0) := by
  unfold D0
  exact inG_step (0 : Int) (fun s => gi s 9 0 0) (D1 ) (fun v S E h => D1_e  v S E h) S
theorem D0_dec (s : ByteArray) : D0 s 0 = dec s := by
  simp only [D0_0, D1_0, D2_0, D3_0, D4_0, D5_0, D6_0, D7_0, D8_0, D9_0]
  rfl
theorem rdec_calls (s : ByteArray) (w : World) (hs : s.size < 4611686018427387904) :
    Calls Tryd.prog 26 #[.string s] w fun e w' => DP (dec s) w e w' := by
  have hD := D0_dec s
  rcases I0 : inI s 0 with ⟨kd, s1, e1⟩
  have z1 : s1.size ≤ s.size := by have := inG_rest (0 : Int) (fun s => gi s 9 0 0) s 0; rw [show inG (0 : Int) (fun s => gi s 9 0 0) s 0 = _ from I0] at this; exact this
  have v0 := inI_val s 0; rw [I0] at v0
  rcases I1 : inT s1 e1 with ⟨f, s2, e2⟩
  have z2 : s2.size ≤ s1.size := by have := inG_rest (⟨#[]⟩ : ByteArray) gt s1 e1; rw [show inG (⟨#[]⟩ : ByteArray) gt s1 e1 = _ from I1] at this; exact this
  have v1 := inT_val s1 e1; rw [I1] at v1
  rcases I2 : inT s2 e2 with ⟨t, s3, e3⟩
  have z3 : s3.size ≤ s2.size := by have := inG_rest (⟨#[]⟩ : ByteArray) gt s2 e2; rw [show inG (⟨#[]⟩ : ByteArray) gt s2 e2 = _ from I2] at this; exact this
  have v2 := inT_val s2 e2; rw [I2] at v2
  rcases I3 : inI s3 e3 with ⟨am, s4, e4⟩
  have z4 : s4.size ≤ s3.size := by have := inG_rest (0 : Int) (fun s => gi s 9 0 0) s3 e3; rw [show inG (0 : Int) (fun s => gi s 9 0 0) s3 e3 = _ from I3] at this; exact this
  have v3 := inI_val s3 e3; rw [I3] at v3
  rcases I4 : inI s4 e4 with ⟨nc, s5, e5⟩
  have z5 : s5.size ≤ s4.size := by have := inG_rest (0 : Int) (fun s => gi s 9 0 0) s4 e4; rw [show inG (0 : Int) (fun s => gi s 9 0 0) s4 e4 = _ from I4] at this; exact this
  have v4 := inI_val s4 e4; rw [I4] at v4
  rcases I5 : inT s5 e5 with ⟨ky', s6, e6⟩
  have z6 : s6.size ≤ s5.size := by have := inG_rest (⟨#[]⟩ : ByteArray) gt s5 e5; rw [show inG (⟨#[]⟩ : ByteArray) gt s5 e5 = _ from I5] at this; exact this
  have v5 := inT_val s5 e5; rw [I5] at v5
  rcases I6 : inT s6 e6 with ⟨vl, s7, e7⟩
  have z7 : s7.size ≤ s6.size := by have := inG_rest (⟨#[]⟩ : ByteArray) gt s6 e6; rw [show inG (⟨#[]⟩ : ByteArray) gt s6 e6 = _ from I6] at this; exact this
  have v6 := inT_val s6 e6; rw [I6] at v6
  rcases I7 : inL s7 e7 with ⟨rs, s8, e8⟩
  have z8 : s8.size ≤ s7.size := by have := inG_rest ([] : List ByteArray) (fun s => gl s 8) s7 e7; rw [show inG ([] : List ByteArray) (fun s => gl s 8) s7 e7 = _ from I7] at this; exact this
  have v7 := inL_val s7 e7; rw [I7] at v7
  rcases I8 : inL s8 e8 with ⟨ws, s9, e9⟩
  have z9 : s9.size ≤ s8.size := by have := inG_rest ([] : List ByteArray) (fun s => gl s 8) s8 e8; rw [show inG ([] : List ByteArray) (fun s => gl s 8) s8 e8 = _ from I8] at this; exact this
  have v8 := inL_val s8 e8; rw [I8] at v8
  dsimp only at v0 v1 v2 v3 v4 v5 v6 v7 v8
  have hF : fin2 e9 kd f t am nc ky' vl rs ws s9 = dec s := by
    rw [← hD]
    unfold inI at I0 I3 I4
    unfold inT at I1 I2 I5 I6
    unfold inL at I7 I8
    simp only [D0, D1, D2, D3, D4, D5, D6, D7, D8, D9, I0, I1, I2, I3, I4, I5, I6, I7, I8]
  rw [← hF]
  refine rd_walk s s1 s2 s3 s4 s5 s6 s7 s8 s9 e1 e2 e3 e4 e5 e6 e7 e8 e9 kd f t am nc ky' vl rs ws w (Lib.hid I0) (Lib.hid I1) (Lib.hid (by omega)) (Lib.hid I2) (Lib.hid (by omega)) (Lib.hid I3) (Lib.hid I4) (Lib.hid I5) (Lib.hid (by omega)) (Lib.hid I6) (Lib.hid (by omega)) (Lib.hid I7) (Lib.hid (by omega)) (Lib.hid I8) (Lib.hid (by omega)) (u64_id _ v3) (u64_id _ v4) (s.size + 1) (by omega) (by omega) (by omega) (fun x hx => ?_) (fun x hx => ?_)
  · have := v7 x hx; omega
  · have := v8 x hx; omega
def tuskref04_Decode.f (s : ByteArray) : Option Dec := if s.size < 4611686018427387904 then some (dec s) else none
theorem tuskref04_Decode.calls (a0 : ByteArray) (r1 : Int) (r2 r3 : ByteArray) (r4 r5 : Int) (r6 r7 : ByteArray) (l8 l9 : List ByteArray) (r10 : Int) (w : World) (h : tuskref04_Decode.f a0 = some (r1, r2, r3, r4, r5, r6, r7, l8, l9, r10)) :
    Calls Tryd.prog 26 #[.string a0] w fun e w' => ∃ v8 v9, e = .returned (.tuple #[.agg #[.int .i64 r1, .string r2, .string r3, .int .u64 r4, .int .u64 r5, .string r6, .string r7, v8, v9], .int .i64 r10])
      ∧ Kd.R Kd.string 9 w' w.heap.size (fun k => some k ≠ v9.ownBlock) v8 l8 ∧ Kd.R Kd.string 9 w' w.heap.size (fun k => some k ≠ v8.ownBlock) v9 l9 ∧ Below w.heap.size w w' := by
  unfold tuskref04_Decode.f at h
  split at h
  · have e := Option.some.inj h
    have := rdec_calls a0 w (by assumption)
    rw [e] at this
    exact this
  · cases h
end Go.Proofs.YtndicjikjcifaaaDoor
