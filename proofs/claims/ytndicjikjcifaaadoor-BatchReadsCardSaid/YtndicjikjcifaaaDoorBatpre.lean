/- batch.Decode: what it answers, in plain words. -/
import Derived.Test.YtndicjikjcifaaaDoorBatchk
import Derived.Test.YtndicjikjcifaaaDoorTxdec
import Derived.Test.YtndicjikjcifaaaDoorWirel
import Derived.Test.YtndicjikjcifaaaDoorHk
import Derived.Test.YtndicjikjcifaaaDoorInref
import Derived.Test.YtndicjikjcifaaaDoorRefdecb
namespace Go.Proofs.YtndicjikjcifaaaDoor
open Go.RowKit Go.Shelf Go.Lib Go.Proofs.YtndicjikjcifaaaDoorW.PrintWords Go.Proofs.YtndicjikjcifaaaDoorW.PrintLast
open PB (S33 k33)
set_option linter.unusedVariables false
set_option linter.unusedSimpArgs false

theorem bgt_size (a : ByteArray) : (gt a).1.size ≤ a.size := by
  have e : (⟨#[]⟩ : ByteArray).size = 0 := rfl
  unfold gt
  repeat' split
  all_goals first | (simp only [ByteArray.size_extract]; omega) | (simp only [e]; omega)
theorem bglL_size (a : ByteArray) : ∀ c p acc M, a.size ≤ M → (∀ x ∈ acc, x.size ≤ M) → ∀ x ∈ (glL a c p acc).1, x.size ≤ M
  | 0, p, acc, M, hM, h, x, hx => h x hx
  | c + 1, p, acc, M, hM, h, x, hx => by
    rw [glL] at hx
    split at hx
    · refine bglL_size a c _ _ M hM (fun y hy => ?_) x hx
      rcases List.mem_append.1 hy with hy | hy
      · exact h y hy
      · rw [List.mem_singleton.1 hy]
        have := bgt_size (a.extract p a.size)
        rw [ByteArray.size_extract] at this
        omega
    · simp at hx
theorem bgl_size (a : ByteArray) (m : Int) : ∀ x ∈ (gl a m).1, x.size ≤ a.size := by
  intro x hx
  unfold gl at hx
  repeat' split at hx
  · simp at hx
  · exact bglL_size a _ _ _ _ (Nat.le_refl _) (by simp) x hx
  · simp at hx
abbrev BDec := Int × Int × List S33 × Int
def bnil (e : Int) : BDec := (0, 0, [], e)
def toS (r : Dec) : S33 := ⟨r.1, r.2.1, r.2.2.1, r.2.2.2.1, r.2.2.2.2.1, r.2.2.2.2.2.1, r.2.2.2.2.2.2.1, r.2.2.2.2.2.2.2.1, r.2.2.2.2.2.2.2.2.1⟩
def errD (r : Dec) : Int := r.2.2.2.2.2.2.2.2.2
/-- All are read, up to the first error. -/
def dall : List ByteArray → List S33 × Int
  | [] => ([], 0)
  | x :: r => if errD (dec x) = 0 then (toS (dec x) :: (dall r).1, (dall r).2) else ([], errD (dec x))
def bfin (a n : Int) (s : ByteArray) (k : Int) (D : List S33 × Int) : BDec :=
  if D.2 = 0 then (if k < (s.size : Int) then bnil 6 else if 6 < a then bnil 2 else if bchk a n D.1 = 0 then (a, n, D.1, 0) else bnil (bchk a n D.1)) else bnil D.2
def bdec2 (a n : Int) (s : ByteArray) : BDec := if (gl s 16).2.2 = 0 then bfin a n s (gl s 16).2.1 (dall (gl s 16).1) else bnil (gl s 16).2.2
def bdec1 (a : Int) (s : ByteArray) : BDec := if (gi s 9 0 0).2.2 = 0 then bdec2 a (gi s 9 0 0).1 (rest s (gi s 9 0 0).2.1) else bnil (gi s 9 0 0).2.2
/-- What batch.Decode answers. -/
def bdec (s : ByteArray) : BDec := if (gi s 9 0 0).2.2 = 0 then bdec1 (gi s 9 0 0).1 (rest s (gi s 9 0 0).2.1) else bnil (gi s 9 0 0).2.2
/-- A batch in a result. -/
def BP (r : BDec) (w : World) (e : Ending) (w' : World) : Prop :=
  ∃ A c, e = .returned (.tuple #[.agg #[.int .i64 r.1, .int .i64 r.2.1, .slice A r.2.2.1.length c], .int .i64 r.2.2.2]) ∧ r.2.2.1.length ≤ c ∧ Foot (fun W => k33.C W A r.2.2.1.length r.2.2.1) w' (fun k => w.heap.size ≤ k ∧ k < w'.heap.size) ∧ Below w.heap.size w w'
theorem dall_at (l : List ByteArray) (j : Nat) (hj : j < l.length) : l.drop j = rdOf ByteArray.empty l (j : Int) :: l.drop (j + 1) := by
  rw [List.drop_eq_getElem_cons hj]
  congr 1
  simp [rdOf, hj]
theorem bdec_tx (s : ByteArray) (w : World) (hs : s.size < 4611686018427387904) {k0 : Int} {f0 t0 : ByteArray} {am0 nc0 : Int} {ky0 vl0 : ByteArray} {rs0 ws0 : List ByteArray} {er : Int} (hr : dec s = (k0, f0, t0, am0, nc0, ky0, vl0, rs0, ws0, er)) :
    Calls Tryd.prog 25 #[.string s] w fun e w' => ∃ A7 c7 A8 c8, e = .returned (.tuple #[.agg #[.int .i64 k0, .string f0, .string t0, .int .u64 am0, .int .u64 nc0, .string ky0, .string vl0, .slice A7 rs0.length c7, .slice A8 ws0.length c8], .int .i64 er])
      ∧ Kd.F Kd.string w' (fun k => w.heap.size ≤ k ∧ k < w'.heap.size) A7 rs0.length rs0 ∧ rs0.length ≤ c7 ∧ Kd.F Kd.string w' (fun k => w.heap.size ≤ k ∧ k < w'.heap.size) A8 ws0.length ws0 ∧ ws0.length ≤ c8 ∧ Below w.heap.size w w' := by
  refine (dec_calls s w hs).mono fun e w' h => ?_
  rw [hr] at h
  obtain ⟨v8, v9, he, h8, h9, hb⟩ := h
  dsimp only at he h8 h9
  obtain ⟨A7, c7, rfl⟩ := Kd.R_slice h8
  obtain ⟨A8, c8, rfl⟩ := Kd.R_slice h9
  exact ⟨A7, c7, A8, c8, he, Kd.F_mono (Kd.R_F (Kd.R_bound h8)) (fun k hk => ⟨hk.2.1, hk.2.2.1⟩), (Kd.R_reads' h8).2.1, Kd.F_mono (Kd.R_F (Kd.R_bound h9)) (fun k hk => ⟨hk.2.1, hk.2.2.1⟩), (Kd.R_reads' h9).2.1, hb⟩
end Go.Proofs.YtndicjikjcifaaaDoor

/- tuskref04.In: its List, for lists of up to 16; what its methods do, in the small logic. -/
namespace Go.Proofs.YtndicjikjcifaaaDoor
open Go.RowKit Go.Shelf Go.Lib Go.Proofs.YtndicjikjcifaaaDoorW.PrintWords Go.Proofs.YtndicjikjcifaaaDoorW.PrintLast
set_option linter.unusedVariables false
set_option linter.unusedSimpArgs false
def inL16 : ByteArray → Int → List ByteArray × ByteArray × Int := inG [] (fun s => gl s 16)
theorem In_List16 (p : Nat) (S : ByteArray) (E : Int) (w : World) (hs : S.size < 4611686018427387904) (h : w.heap[p]? = some (.cells #[.string S, .int .i64 E] 84 (0, 0))) :
    Calls Tryd.prog 58 #[.pointer (some ⟨p, 0, none⟩), .int .i64 16] w fun e w' => ∃ v, e = .returned v ∧ Kd.R Kd.string 9 w' w.heap.size (fun _ => True) v (inL16 S E).1 ∧ Ri p (inL16 S E).2.1 (inL16 S E).2.2 w w' := by
  have c0 : w.cell? ⟨p, 0, none⟩ = some (.string S) := blk_cell h 0
  have c1 : w.cell? ⟨p, 1, none⟩ = some (.int .i64 E) := blk_cell h 1
  have hp := blk_lt h
  have HB := Lib.hid h
  clear h
  by_cases hE : E = 0
  · subst hE
    rw [inL16, inG, if_pos rfl]
    have g : 0 ≤ (gl S 16).2.1 ∧ (gl S 16).2.1 ≤ S.size := by
      by_cases h0 : (gl S 16).2.2 = 0
      · have := gl_ok S 16 h0
        omega
      · have := gl_err S 16 h0
        rw [this]
        simp
    have HF := ref_list S hs 16 (by omega) 57 (by omega)
    change _ = some (gl S 16) at HF
    dsimp only
    generalize gl S 16 = G at g HF ⊢
    obtain ⟨n, k, x⟩ := G
    dsimp only at g ⊢
    obtain ⟨g0, g1⟩ := g
    have HF := Lib.hid HF
    have hr : rest S k = S.extract k.toNat S.size := rfl
    clear hs
    go_enter Tryd.func58, Tryd.ntmps58
    go_wp2_with (first
    | (go_at_call 83; go_must (refine (PWi.tuskref01_GetList.calls 57 S 16 n k x _ HF.out).mono ?_)
       rintro e w1 ⟨v, rfl, hR, hd⟩
       have HD := Lib.hid hd
       have HR := Lib.hid hR
       have HB1 := Lib.hid ((HD.out.block p hp).trans HB.out)
       have d0 := blk_cell HB1.out 0
       have d1 := blk_cell HB1.out 1
       have f0 := blk_frozen HB1.out 0
       have f1 := blk_frozen HB1.out 1
       simp only [List.getElem?_toArray, List.getElem?_cons_zero, List.getElem?_cons_succ] at d0 d1
       clear hd hR))
    go_ret
    refine ⟨_, rfl, ?_, Ri.of_below HB1.out HD.out⟩
    have ht : ∀ q, q ∈ 9 :: Kd.string.E → q ≠ 84 := by intro q hq; simp [Kd.string, Kd.scalar] at hq; subst hq; decide
    exact Kd.R_set (Kd.R_set HR.out HB1.out ht 1 _) (blk_set HB1.out 1 _) ht 0 _
  · rw [inL16, inG, if_neg hE]
    have hx : (E == 0) = false := by simpa using hE
    go_enter Tryd.func58, Tryd.ntmps58
    go_wp2
    go_ret
    exact ⟨_, rfl, Kd.R_nil _ _ _ _ _, Ri.same HB.out⟩
theorem St.ri {p : Nat} {S S' : ByteArray} {E E' : Int} {w W W' : World} {Sf Rf : Nat → Prop} {M : List Asn} (H : St w Sf Rf M W) (k : Nat) (hk : M[k]? = some (Asn.blk p [.string S, .int .i64 E] 84)) (h : Ri p S' E' W W') :
    St w Sf Rf (M.set k (Asn.blk p [.string S', .int .i64 E'] 84)) W' := by
  refine H.upd k hk (h.only.mono (fun k hk => hk)) _ h.box (fun j hj => ?_) (fun j hj => .inl hj) (fun j hj => by cases hj)
  rcases hj with hj | hj
  · have : j = p := hj
    subst this; exact blk_lt h.box
  · cases hj
end Go.Proofs.YtndicjikjcifaaaDoor

/- The document's reader of batches: the plain law. -/
namespace Go.Proofs.YtndicjikjcifaaaDoor
open Go.RowKit Go.Shelf Go.Lib Go.Proofs.YtndicjikjcifaaaDoorW.PrintWords Go.Proofs.YtndicjikjcifaaaDoorW.PrintLast
open PB (S33 k33)
set_option linter.unusedVariables false
set_option linter.unusedSimpArgs false
theorem St.riF {p : Nat} {S S' : ByteArray} {E E' : Int} {w W W' : World} {Sf Rf : Nat → Prop} {M : List Asn} (H : St w Sf Rf M W) (k : Nat) (hk : M[k]? = some (Asn.blk p [.string S, .int .i64 E] 84)) (h : Ri p S' E' W W')
    (q : World → Prop) (ok : Nat → Prop) (hh : Foot q W' ok) (hf : ∀ k, ok k → W.heap.size ≤ k) :
    St w Sf Rf (M.set k (Asn.blk p [.string S', .int .i64 E'] 84) ++ [Asn.ft q (fun k => ok k ∧ k < W'.heap.size)]) W' := by
  refine (H.ri k hk h).add _ (Foot.bound hh) (fun k hk => ?_) (fun k hk => hk.elim) (fun j hj => ⟨.inr (.inr (Nat.le_trans H.low.size (hf j hj.1))), fun B hB hc => ?_⟩)
  · rcases hk with hk | hk
    · exact hk.elim
    · exact hk.2
  · have h1 := hf j hj.1
    rcases List.mem_or_eq_of_mem_set hB with hB | rfl
    · have := (H.has B hB).2.1 j (.inl hc)
      omega
    · have : j = p := hc
      have := blk_lt (H.blk k hk)
      omega
def LimD (r : Dec) : Prop := Lim r.2.1 r.2.2.1 r.2.2.2.2.2.1 r.2.2.2.2.2.2.2.1 r.2.2.2.2.2.2.2.2.1
theorem LimD_derr (e : Int) : LimD (derr e) :=
  ⟨(by decide : (0 : Nat) < 4611686018427387904), (by decide : (0 : Nat) < 4611686018427387904), (by decide : (0 : Nat) < 4611686018427387904), by simp [derr], by simp [derr]⟩
theorem LimD_bindE {α : Type} (x : α × Int × Int) (s : ByteArray) (k : α → ByteArray → Dec) (h : ∀ s', s'.size ≤ s.size → LimD (k x.1 s')) : LimD (bindE x s k) := by
  unfold bindE
  split
  · exact h _ (rest_size _ _)
  · exact LimD_derr _
theorem dec_lim (s : ByteArray) (hs : s.size < 4611686018427387904) : LimD (dec s) := by
  unfold dec
  refine LimD_bindE _ _ _ fun s1 h1 => LimD_bindE _ _ _ fun s2 h2 => LimD_bindE _ _ _ fun s3 h3 => LimD_bindE _ _ _ fun s4 h4 => LimD_bindE _ _ _ fun s5 h5 => LimD_bindE _ _ _ fun s6 h6 => LimD_bindE _ _ _ fun s7 h7 => LimD_bindE _ _ _ fun s8 h8 => LimD_bindE _ _ _ fun s9 h9 => ?_
  have g1 := gt_size s1
  have g2 := gt_size s2
  have g5 := gt_size s5
  have g7 := gl_size s7 8
  have g8 := gl_size s8 8
  split
  · split
    · unfold fin9
      split
      · exact ⟨by dsimp only; omega, by dsimp only; omega, by dsimp only; omega, fun x hx => by have := g7 x hx; omega, fun x hx => by have := g8 x hx; omega⟩
      · exact LimD_derr _
    · exact LimD_derr _
  · exact LimD_derr _
/-- What comes after the list. -/
def bfin' (a n : Int) (s : ByteArray) (D : List S33 × Int) : BDec :=
  if D.2 = 0 then (if s.toList.isEmpty = false then bnil 6 else if 6 < a then bnil 2 else if bchk a n D.1 = 0 then (a, n, D.1, 0) else bnil (bchk a n D.1)) else bnil D.2
theorem rest_emp (s : ByteArray) (k : Int) (h0 : 0 ≤ k) (h1 : k ≤ s.size) : (k < (s.size : Int)) ↔ (rest s k).toList.isEmpty = false := by
  have e : (rest s k).size = s.size - k.toNat := by unfold rest; rw [ByteArray.size_extract]; omega
  have e2 : (rest s k).toList.length = (rest s k).size := by rw [Lib.toList_data]; rfl
  cases hl : (rest s k).toList with
  | nil => rw [hl] at e2; simp at e2 ⊢; omega
  | cons a t => rw [hl] at e2; simp at e2 ⊢; omega
theorem bfin_eq (a n : Int) (s : ByteArray) (k : Int) (h0 : 0 ≤ k) (h1 : k ≤ s.size) (D : List S33 × Int) : bfin a n s k D = bfin' a n (rest s k) D := by
  unfold bfin bfin'
  by_cases h : k < (s.size : Int)
  · rw [if_pos h, if_pos ((rest_emp s k h0 h1).1 h)]
  · rw [if_neg h, if_neg (fun e => h ((rest_emp s k h0 h1).2 e))]
theorem bdec_in (s : ByteArray) (a n : Int) (s1 s2 s3 : ByteArray) (e1 e2 e3 : Int) (l : List ByteArray) (h1 : inI s 0 = (a, s1, e1)) (h2 : inI s1 e1 = (n, s2, e2)) (h3 : inL16 s2 e2 = (l, s3, e3)) :
    (e3 ≠ 0 ∧ bdec s = bnil e3) ∨ (e3 = 0 ∧ bdec s = bfin' a n s3 (dall l) ∧ l.length ≤ 16) := by
  unfold inI inG at h1
  rw [if_pos rfl] at h1
  by_cases z1 : (gi s 9 0 0).2.2 = 0
  · have hb : bdec s = bdec1 (gi s 9 0 0).1 (rest s (gi s 9 0 0).2.1) := if_pos z1
    rw [z1] at h1
    injection h1 with ha h1
    injection h1 with hs he
    subst ha hs he
    unfold inI inG at h2
    rw [if_pos rfl] at h2
    generalize rest s (gi s 9 0 0).2.1 = t1 at hb h2
    by_cases z2 : (gi t1 9 0 0).2.2 = 0
    · have hb2 : bdec1 (gi s 9 0 0).1 t1 = bdec2 (gi s 9 0 0).1 (gi t1 9 0 0).1 (rest t1 (gi t1 9 0 0).2.1) := if_pos z2
      rw [z2] at h2
      injection h2 with ha h2
      injection h2 with hs he
      subst ha hs he
      unfold inL16 inG at h3
      rw [if_pos rfl] at h3
      generalize rest t1 (gi t1 9 0 0).2.1 = t2 at hb2 h3
      by_cases z3 : (gl t2 16).2.2 = 0
      · have hb3 : bdec2 (gi s 9 0 0).1 (gi t1 9 0 0).1 t2 = bfin (gi s 9 0 0).1 (gi t1 9 0 0).1 t2 (gl t2 16).2.1 (dall (gl t2 16).1) := if_pos z3
        have hg := gl_ok t2 16 z3
        rw [z3] at h3
        injection h3 with ha h3
        injection h3 with hs he
        subst ha hs he
        refine .inr ⟨rfl, ?_, by dsimp only; omega⟩
        rw [hb, hb2, hb3, bfin_eq _ _ _ _ hg.1 hg.2.1]
      · have hb3 : bdec2 (gi s 9 0 0).1 (gi t1 9 0 0).1 t2 = bnil (gl t2 16).2.2 := if_neg z3
        injection h3 with ha h3
        injection h3 with hs he
        subst ha hs he
        exact .inl ⟨z3, by rw [hb, hb2, hb3]⟩
    · have hb2 : bdec1 (gi s 9 0 0).1 t1 = bnil (gi t1 9 0 0).2.2 := if_neg z2
      injection h2 with ha h2
      injection h2 with hs he
      subst ha hs he
      unfold inL16 inG at h3
      rw [if_neg z2] at h3
      injection h3 with ha h3
      injection h3 with hs he
      subst ha hs he
      exact .inl ⟨z2, by rw [hb, hb2]⟩
  · have hb : bdec s = bnil (gi s 9 0 0).2.2 := if_neg z1
    injection h1 with ha h1
    injection h1 with hs he
    subst ha hs he
    unfold inI inG at h2
    rw [if_neg z1] at h2
    injection h2 with ha h2
    injection h2 with hs he
    subst ha hs he
    unfold inL16 inG at h3
    rw [if_neg z1] at h3
    injection h3 with ha h3
    injection h3 with hs he
    subst ha hs he
    exact .inl ⟨z1, hb⟩
theorem rb_fin {bd : BDec} {a1 n1 e3 E E1 : Int} {s3 : ByteArray} {l : List ByteArray} {acc : List S33} {j : Nat} (HB : (e3 ≠ 0 ∧ bd = bnil e3) ∨ (e3 = 0 ∧ bd = bfin' a1 n1 s3 (dall l) ∧ l.length ≤ 16))
    (hE : (E = 0 ∧ e3 = 0 ∧ dall l = (acc ++ (dall (l.drop j)).1, (dall (l.drop j)).2)) ∨ (E ≠ 0 ∧ e3 ≠ 0 ∧ E = e3) ∨ (E ≠ 0 ∧ e3 = 0 ∧ (dall l).2 = E)) (hJ : E = 0 → j = l.length) (hE1 : inE s3 E = E1) :
    (E1 ≠ 0 → bd = bnil E1) ∧ (E1 = 0 → bd = if 6 < a1 then bnil 2 else if bchk a1 n1 acc = 0 then (a1, n1, acc, 0) else bnil (bchk a1 n1 acc)) := by
  rcases hE with ⟨h1, h2, h3⟩ | ⟨h1, h2, h3⟩ | ⟨h1, h2, h3⟩
  · have hj := hJ h1
    rw [hj, List.drop_eq_nil_of_le (Nat.le_refl _)] at h3
    have hD : dall l = (acc, 0) := by rw [h3]; simp [dall]
    rcases HB with h | ⟨_, h, _⟩
    · exact absurd h2 h.1
    rw [hD] at h
    unfold inE at hE1
    by_cases hs : s3.toList.isEmpty = false
    · rw [if_pos ⟨h1, hs⟩] at hE1
      rw [h]
      refine ⟨fun _ => ?_, fun z => absurd (hE1.trans z) (by decide)⟩
      rw [← hE1]
      exact (if_pos rfl).trans (if_pos hs)
    · rw [if_neg (fun q => hs q.2)] at hE1
      rw [h]
      exact ⟨fun z => absurd (hE1.symm.trans h1) z, fun _ => (if_pos rfl).trans (if_neg hs)⟩
  · have e : E1 = E := by rw [← hE1]; exact if_neg (fun q => h1 q.1)
    rcases HB with ⟨_, h⟩ | h
    · exact ⟨fun _ => by rw [h, e, h3], fun z => absurd (e.symm.trans z) h1⟩
    · exact absurd h.1 h2
  · have e : E1 = E := by rw [← hE1]; exact if_neg (fun q => h1 q.1)
    rcases HB with h | ⟨_, h, _⟩
    · exact absurd h2 h.1
    · exact ⟨fun _ => by rw [h, e, ← h3]; exact if_neg (fun q => h1 (h3.symm.trans q)), fun z => absurd (e.symm.trans z) h1⟩
theorem inL16_val (S : ByteArray) (E : Int) : ∀ x ∈ (inL16 S E).1, x.size ≤ S.size := by
  unfold inL16 inG
  split
  · exact gl_size S 16
  · simp
theorem rbdec_tx (s : ByteArray) (w : World) (hs : s.size < 4611686018427387904) {k0 : Int} {f0 t0 : ByteArray} {am0 nc0 : Int} {ky0 vl0 : ByteArray} {rs0 ws0 : List ByteArray} {er : Int} (hr : dec s = (k0, f0, t0, am0, nc0, ky0, vl0, rs0, ws0, er)) :
    Calls Tryd.prog 26 #[.string s] w fun e w' => ∃ A7 c7 A8 c8, e = .returned (.tuple #[.agg #[.int .i64 k0, .string f0, .string t0, .int .u64 am0, .int .u64 nc0, .string ky0, .string vl0, .slice A7 rs0.length c7, .slice A8 ws0.length c8], .int .i64 er])
      ∧ Kd.F Kd.string w' (fun k => w.heap.size ≤ k ∧ k < w'.heap.size) A7 rs0.length rs0 ∧ rs0.length ≤ c7 ∧ Kd.F Kd.string w' (fun k => w.heap.size ≤ k ∧ k < w'.heap.size) A8 ws0.length ws0 ∧ ws0.length ≤ c8 ∧ Below w.heap.size w w' := by
  refine (rdec_calls s w hs).mono fun e w' h => ?_
  rw [hr] at h
  obtain ⟨v8, v9, he, h8, h9, hb⟩ := h
  dsimp only at he h8 h9
  obtain ⟨A7, c7, rfl⟩ := Kd.R_slice h8
  obtain ⟨A8, c8, rfl⟩ := Kd.R_slice h9
  exact ⟨A7, c7, A8, c8, he, Kd.F_mono (Kd.R_F (Kd.R_bound h8)) (fun k hk => ⟨hk.2.1, hk.2.2.1⟩), (Kd.R_reads' h8).2.1, Kd.F_mono (Kd.R_F (Kd.R_bound h9)) (fun k hk => ⟨hk.2.1, hk.2.2.1⟩), (Kd.R_reads' h9).2.1, hb⟩
end Go.Proofs.YtndicjikjcifaaaDoor
