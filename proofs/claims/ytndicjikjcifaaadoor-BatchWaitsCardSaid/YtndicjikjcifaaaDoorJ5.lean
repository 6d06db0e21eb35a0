/- Texts joined by wip/tools/slim2.py: Codeb, Codec, Batcod, Batdec, Batrdec, Batreads, Bwp, Bworks, Bwl, Bwaits, Bfull, Seals, Opsl, Brow. -/
import Derived.Test.YtndicjikjcifaaaDoorJ3
import Derived.Test.YtndicjikjcifaaaDoorJ2
import Derived.Test.YtndicjikjcifaaaDoorJ4
/- Numbers, texts and lists as bytes: what is written is read; what is read was written so. -/
namespace Go.Proofs.YtndicjikjcifaaaDoor
open Go.RowKit Go.Shelf Go.Lib Go.Proofs.YtndicjikjcifaaaDoorW.PrintWords Go.Proofs.YtndicjikjcifaaaDoorW.PrintLast
set_option linter.unusedVariables false
set_option linter.unusedSimpArgs false

theorem bn_app (n : Nat) (r : ByteArray) (i : Nat) (v : Int) (h : (vints n)[i]? = some v) : bn (strOfNums (vints n) ++ r) i = v.toNat % 256 := by
  have hi : i < (vints n).length := (List.getElem?_eq_some_iff.1 h).1
  have hs : (strOfNums (vints n)).size = (vints n).length := strOfNums_size _
  have hlt : i < (strOfNums (vints n) ++ r).size := by rw [ByteArray.size_append]; omega
  rw [bn, dif_pos hlt, ByteArray.getElem_append_left (by omega)]
  have e : (strOfNums (vints n))[i]'(by omega) = UInt8.ofNat v.toNat := by
    have h2 := (List.getElem?_eq_some_iff.1 h).2
    rw [← h2]
    simp [strOfNums, ByteArray.getElem_eq_getElem_data]
  rw [e]
  simp
theorem vints_bytes : ∀ n, ∀ v ∈ vints n, 0 ≤ v ∧ v < 256 := by
  intro n
  induction n using Nat.strongRecOn with
  | ind n ih =>
    rw [vints]
    split
    · intro v hv
      simp at hv
      omega
    · intro v hv
      rcases List.mem_cons.1 hv with rfl | hv
      · omega
      · exact ih (n / 128) (by omega) v hv
theorem vints_pos (n : Nat) : 0 < (vints n).length := by
  rw [vints]
  split <;> simp
/-- The bytes of n stand in s from j on. -/
theorem vints_val (s : ByteArray) : ∀ n j, (∀ i v, (vints n)[i]? = some v → bn s (j + i) = v.toNat) →
    (∀ i, j ≤ i → i < j + (vints n).length - 1 → 128 ≤ bn s i) ∧ bn s (j + (vints n).length - 1) < 128 ∧ bval s (j + (vints n).length - 1) (vints n).length j = n ∧ (bn s (j + (vints n).length - 1) = 0 → n = 0) := by
  intro n
  induction n using Nat.strongRecOn with
  | ind n ih =>
    intro j h
    rw [vints] at h ⊢
    by_cases h1 : n < 128
    · rw [dif_pos h1] at h ⊢
      have h2 := h 0 _ rfl
      simp only [Nat.add_zero, Int.toNat_natCast] at h2
      simp only [List.length_singleton, Nat.add_sub_cancel]
      refine ⟨fun i h3 h4 => by omega, by omega, ?_, by omega⟩
      simp only [bval]
      omega
    · rw [dif_neg h1] at h ⊢
      have hp := vints_pos (n / 128)
      have h2 := h 0 _ rfl
      obtain ⟨g1, g2, g3, g4⟩ := ih (n / 128) (by omega) (j + 1) (fun i v hv => by
        have := h (i + 1) v (by simpa using hv)
        rw [show j + 1 + i = j + (i + 1) by omega]
        exact this)
      simp only [Nat.add_zero, Int.toNat_natCast] at h2
      simp only [List.length_cons]
      rw [show j + ((vints (n / 128)).length + 1) - 1 = j + 1 + (vints (n / 128)).length - 1 by omega]
      refine ⟨fun i h3 h4 => ?_, g2, ?_, fun h5 => by have := g4 h5; omega⟩
      · rcases Nat.eq_or_lt_of_le h3 with rfl | h3
        · omega
        · exact g1 i (by omega) (by omega)
      · rw [bval, g3, h2]
        omega
theorem ib_eq {n : Int} (h0 : 0 ≤ n) (h1 : n ≤ 4611686018427387903) : ib n = strOfNums (vints n.toNat) := by
  rw [ib, if_neg (by omega)]
theorem gi_app (n : Int) (r : ByteArray) (h0 : 0 ≤ n) (h1 : n ≤ 4611686018427387903) : gi (ib n ++ r) 9 0 0 = (n, ((ib n).size : Int), 0) := by
  rw [ib_eq h0 h1]
  obtain ⟨m, rfl⟩ : ∃ m : Nat, n = m := ⟨n.toNat, by omega⟩
  rw [Int.toNat_natCast]
  have hl := vints_len 8 m (by omega)
  have hp := vints_pos m
  have hs : (strOfNums (vints m)).size = (vints m).length := strOfNums_size _
  obtain ⟨g1, g2, g3, g4⟩ := vints_val (strOfNums (vints m) ++ r) m 0 (fun i v hv => by
    rw [Nat.zero_add, bn_app m r i v hv]
    have := vints_bytes m v (List.mem_of_getElem? hv)
    omega)
  simp only [Nat.zero_add] at g1 g2 g3 g4
  have := gi_val (strOfNums (vints m) ++ r) ((vints m).length - 1) (by rw [ByteArray.size_append]; omega) g2 ((vints m).length - 1) 0 0 (by omega) (by omega) (fun j h2 h3 => g1 j h2 h3)
  rw [show 9 - 0 = 9 from rfl] at this
  rw [this, show (vints m).length - 1 + 1 = (vints m).length by omega, g3, fin, Nat.mul_zero, Nat.pow_zero, Nat.one_mul, Nat.zero_add, if_neg (by omega), if_neg (by rintro ⟨h2, h3⟩; have := g4 h2; subst this; rw [vints, dif_pos (by omega)] at h3; simp at h3), hs, show (vints m).length - 1 + 1 = (vints m).length by omega]

theorem ba_eq {a b : ByteArray} (h : a.data.toList = b.data.toList) : a = b := ByteArray.ext (Array.toList_inj.1 h)
theorem ba_app (a b : ByteArray) : (a ++ b).data.toList = a.data.toList ++ b.data.toList := by simp
theorem ba_len (a : ByteArray) : a.data.toList.length = a.size := by rw [Array.length_toList]; rfl
theorem ba_ext (a : ByteArray) (i j : Nat) : (a.extract i j).data.toList = (a.data.toList.take j).drop i := by
  rw [ByteArray.data_extract, Array.toList_extract, List.extract_eq_drop_take']
theorem ba_assoc (a b c : ByteArray) : a ++ b ++ c = a ++ (b ++ c) := ByteArray.append_assoc
theorem ba_rest (a : ByteArray) (n : Nat) : (rest a (n : Int)).data.toList = a.data.toList.drop n := by
  show (a.extract (n : Int).toNat a.size).data.toList = _
  rw [Int.toNat_natCast, ba_ext, List.take_of_length_le (by rw [ba_len]; exact Nat.le_refl _)]
theorem rest_app (a r : ByteArray) : rest (a ++ r) ((a.size : Nat) : Int) = r := by
  apply ba_eq
  rw [ba_rest, ba_app, List.drop_left' (ba_len a)]
theorem mid_app (a x r : ByteArray) : (a ++ (x ++ r)).extract a.size (a.size + x.size) = x := by
  apply ba_eq
  rw [ba_ext, ba_app, ba_app, List.take_append, List.take_append, ba_len, ba_len, List.take_of_length_le (by rw [ba_len]; omega), List.take_of_length_le (by rw [ba_len]; omega), show a.size + x.size - a.size - x.size = 0 by omega, List.take_zero, List.append_nil, List.drop_left' (ba_len a)]
theorem gt_app (x r : ByteArray) (hx : x.size ≤ 65536) : gt (tb x ++ r) = (x, ((tb x).size : Int), 0) := by
  have e : tb x ++ r = ib x.size ++ (x ++ r) := ba_assoc _ _ _
  have es : (tb x).size = (ib x.size).size + x.size := ByteArray.size_append
  have hs : (ib x.size ++ (x ++ r)).size = (ib x.size).size + (x.size + r.size) := by rw [ByteArray.size_append, ByteArray.size_append]
  rw [gt, e, gi_app _ _ (by omega) (by omega)]
  dsimp only
  rw [if_pos rfl, if_neg (by omega), if_neg (by omega)]
  rw [show ((((ib x.size).size : Nat) : Int) + ((x.size : Nat) : Int)).toNat = (ib x.size).size + x.size by omega, Int.toNat_natCast, mid_app]
  rw [es]
  push_cast
  rfl
def tbsB (xs : List ByteArray) : ByteArray := ⟨(tbs xs).toArray⟩
theorem tbsB_cons (x : ByteArray) (xs : List ByteArray) : tbsB (x :: xs) = tb x ++ tbsB xs := by
  apply ba_eq
  rw [ba_app]
  rfl
theorem lb_eq (xs : List ByteArray) : lb xs = ib xs.length ++ tbsB xs := by
  apply ba_eq
  rw [ba_app]
  rfl
theorem ba_nil' (a : ByteArray) : a ++ (⟨#[]⟩ : ByteArray) = a := by
  apply ba_eq
  rw [ba_app]
  exact List.append_nil _
theorem glL_app : ∀ (xs : List ByteArray) (pre r : ByteArray) (acc : List ByteArray), (∀ x ∈ xs, x.size ≤ 65536) →
    glL (pre ++ (tbsB xs ++ r)) xs.length pre.size acc = (acc ++ xs, ((pre.size + (tbsB xs).size : Nat) : Int), 0)
  | [], pre, r, acc, h => by
    rw [List.length_nil, glL, List.append_nil]
    rfl
  | x :: xs, pre, r, acc, h => by
    have e : pre ++ (tbsB (x :: xs) ++ r) = (pre ++ tb x) ++ (tbsB xs ++ r) := by rw [tbsB_cons, ba_assoc, ba_assoc]
    have hx : (pre ++ (tbsB (x :: xs) ++ r)).extract pre.size (pre ++ (tbsB (x :: xs) ++ r)).size = tb x ++ (tbsB xs ++ r) := by
      have := rest_app pre (tbsB (x :: xs) ++ r)
      rw [rest, Int.toNat_natCast] at this
      rw [this, tbsB_cons, ba_assoc]
    have ih := glL_app xs (pre ++ tb x) r (acc ++ [x]) (fun y hy => h y (by simp [hy]))
    rw [List.length_cons, glL, hx, gt_app x _ (h x (by simp))]
    dsimp only
    rw [if_pos rfl, Int.toNat_natCast]
    have es : pre.size + (tb x).size = (pre ++ tb x).size := ByteArray.size_append.symm
    rw [e, es, ih, List.append_assoc, List.singleton_append, tbsB_cons, ByteArray.size_append, ByteArray.size_append, Nat.add_assoc]
theorem gl_app (xs : List ByteArray) (r : ByteArray) (m : Int) (hm : (xs.length : Int) ≤ m) (hl : xs.length ≤ 65536) (h : ∀ x ∈ xs, x.size ≤ 65536) : gl (lb xs ++ r) m = (xs, ((lb xs).size : Int), 0) := by
  rw [lb_eq, ba_assoc, gl, gi_app _ _ (by omega) (by omega)]
  dsimp only
  rw [if_pos rfl, if_neg (by omega), Int.toNat_natCast, Int.toNat_natCast, glL_app xs _ r [] h, ByteArray.size_append]
  rfl
theorem encB_eq (k : Int) (f t : ByteArray) (am nc : Int) (ky' vl : ByteArray) (rs ws : List ByteArray) :
    encB k f t am nc ky' vl rs ws = ib k ++ (tb f ++ (tb t ++ (ib am ++ (ib nc ++ (tb ky' ++ (tb vl ++ (lb rs ++ lb ws))))))) := by
  apply ba_eq
  simp only [ba_app]
  unfold encB
  rw [join_nil]
  simp [encL]
end Go.Proofs.YtndicjikjcifaaaDoor

/- tx.Decode and tx.Encode turn each other round. -/
namespace Go.Proofs.YtndicjikjcifaaaDoor
open Go.RowKit Go.Shelf Go.Lib Go.Proofs.YtndicjikjcifaaaDoorW.PrintWords Go.Proofs.YtndicjikjcifaaaDoorW.PrintLast
set_option linter.unusedVariables false
set_option linter.unusedSimpArgs false

theorem bI (n : Int) (r : ByteArray) (k : Int → ByteArray → Dec) (h0 : 0 ≤ n) (h1 : n ≤ 4611686018427387903) : bindE (gi (ib n ++ r) 9 0 0) (ib n ++ r) k = k n r :=
  bindE_ok (gi_app n r h0 h1) (rest_app _ _)
theorem bT (x r : ByteArray) (k : ByteArray → ByteArray → Dec) (hx : x.size ≤ 65536) : bindE (gt (tb x ++ r)) (tb x ++ r) k = k x r :=
  bindE_ok (gt_app x r hx) (rest_app _ _)
theorem bL (xs : List ByteArray) (r : ByteArray) (k : List ByteArray → ByteArray → Dec) (hl : xs.length ≤ 8) (hx : ∀ x ∈ xs, x.size ≤ 65536) : bindE (gl (lb xs ++ r) 8) (lb xs ++ r) k = k xs r :=
  bindE_ok (gl_app xs r 8 (by omega) (by omega) hx) (rest_app _ _)
theorem dec_enc {k : Int} {f t : ByteArray} {am nc : Int} {ky' vl : ByteArray} {rs ws : List ByteArray} (hc : ch k f t am nc ky' vl rs ws = 0) (ha : 0 ≤ am) (hn : 0 ≤ nc) (r : ByteArray) :
    dec (encB k f t am nc ky' vl rs ws ++ r) = if r.toList.isEmpty = true then (k, f, t, am, nc, ky', vl, rs, ws, 0) else derr 6 := by
  have hf := ch_fine hc
  have h1 := ke_zero hf.rs
  have h2 := ke_zero hf.ws
  have hk := hf.k
  have f1 := hf.f
  have f2 := hf.t
  have f3 := hf.ky
  have f4 := hf.vl
  rw [encB_eq]
  simp only [ba_assoc]
  unfold dec
  refine (bI k _ _ (by omega) (by omega)).trans ?_
  refine (bT f _ _ (by omega)).trans ?_
  refine (bT t _ _ (by omega)).trans ?_
  refine (bI am _ _ ha hf.am).trans ?_
  refine (bI nc _ _ hn hf.nc).trans ?_
  refine (bT ky' _ _ (by omega)).trans ?_
  refine (bT vl _ _ (by omega)).trans ?_
  refine (bL rs _ _ h1.1 (fun x hx => by have := h1.2 x hx; omega)).trans ?_
  refine (bL ws _ _ h2.1 (fun x hx => by have := h2.2 x hx; omega)).trans ?_
  rw [if_pos (by omega), fin9, if_pos hc]
end Go.Proofs.YtndicjikjcifaaaDoor

/- batch.Decode and batch.Encode turn each other round: the plain law. -/
namespace Go.Proofs.YtndicjikjcifaaaDoor
open Go.RowKit Go.Shelf Go.Lib Go.Proofs.YtndicjikjcifaaaDoorW.PrintWords Go.Proofs.YtndicjikjcifaaaDoorW.PrintLast
open PB (S33 k33)
set_option linter.unusedVariables false
set_option linter.unusedSimpArgs false
theorem wI_eq {n : Int} (h0 : 0 ≤ n) (h1 : n ≤ 4611686018427387903) : wI n = ib n := by
  unfold wI wire_Int.f
  rw [Option.getD_some, if_neg (by omega), ib_eq h0 h1]
theorem encT_dec {t : S33} (h : chT t = 0) (ha : 0 ≤ t.f3) (hn : 0 ≤ t.f4) : dec (encT t) = (t.f0, t.f1, t.f2, t.f3, t.f4, t.f5, t.f6, t.f7, t.f8, 0) := by
  have h0 : ch t.f0 t.f1 t.f2 t.f3 t.f4 t.f5 t.f6 t.f7 t.f8 = 0 := h
  have e : encT t = encB t.f0 t.f1 t.f2 t.f3 t.f4 t.f5 t.f6 t.f7 t.f8 := by unfold encT enc; rw [if_pos h0]
  have := dec_enc h0 ha hn ⟨#[]⟩
  rw [ba_nil', if_pos (by rw [Lib.toList_data]; rfl)] at this
  rw [e]; exact this
theorem dall_enc : ∀ l : List S33, (∀ t ∈ l, chT t = 0 ∧ 0 ≤ t.f3 ∧ 0 ≤ t.f4) → dall (l.map encT) = (l, 0)
  | [], _ => rfl
  | t :: r, h => by
    obtain ⟨h1, h2, h3⟩ := h t List.mem_cons_self
    have e := encT_dec h1 h2 h3
    have ih := dall_enc r (fun x hx => h x (List.mem_cons_of_mem _ hx))
    rw [List.map_cons, dall, if_pos (by rw [e]; rfl), ih, e]
    rfl
theorem bdec_enc {a n : Int} {l : List S33} (h : bchk a n l = 0) (hp : ∀ t ∈ l, 0 ≤ t.f3 ∧ 0 ≤ t.f4) : bdec (bencB a n l) = (a, n, l, 0) := by
  obtain ⟨a0, a6, n1, n2, l0, l16, hc⟩ := bchk_ok h
  have hx : ∀ x ∈ l.map encT, x.size ≤ 65536 := by
    intro x hx
    obtain ⟨t, ht, rfl⟩ := List.mem_map.1 hx
    have h0 : ch t.f0 t.f1 t.f2 t.f3 t.f4 t.f5 t.f6 t.f7 t.f8 = 0 := hc t ht
    have e : encT t = encB t.f0 t.f1 t.f2 t.f3 t.f4 t.f5 t.f6 t.f7 t.f8 := by unfold encT enc; rw [if_pos h0]
    rw [e]
    exact Nat.le_trans (encB_size (ch_fine h0)) (by decide)
  have e : bencB a n l = ib a ++ (ib n ++ (lb (l.map encT) ++ ⟨#[]⟩)) := by
    unfold bencB
    rw [wI_eq a0 (by omega), wI_eq (by omega) n2, ba_nil', ba_assoc]
  have g1 := gi_app a (ib n ++ (lb (l.map encT) ++ ⟨#[]⟩)) a0 (by omega)
  have g2 := gi_app n (lb (l.map encT) ++ ⟨#[]⟩) (by omega) n2
  have g3 := gl_app (l.map encT) ⟨#[]⟩ 16 (by rw [List.length_map]; omega) (by rw [List.length_map]; omega) hx
  have hd := dall_enc l (fun t ht => ⟨hc t ht, hp t ht⟩)
  rw [e]
  unfold bdec
  rw [g1, if_pos rfl]
  dsimp only
  rw [rest_app]
  unfold bdec1
  rw [g2, if_pos rfl]
  dsimp only
  rw [rest_app]
  unfold bdec2
  rw [g3, if_pos rfl]
  dsimp only
  rw [hd]
  unfold bfin
  rw [if_pos rfl, if_neg (by rw [ba_nil']; omega), if_neg (by omega), if_pos h]
end Go.Proofs.YtndicjikjcifaaaDoor

/- batch.Decode. -/
namespace Go.Proofs.YtndicjikjcifaaaDoor
open Go.RowKit Go.Proofs.YtndicjikjcifaaaDoorW.PrintWords Go.Proofs.YtndicjikjcifaaaDoorW.PrintLast
set_option linter.unusedVariables false
set_option linter.unusedSimpArgs false
set_option maxRecDepth 100000
open PB (S33 k33)
set_option maxHeartbeats 1000000 in
theorem bdec_calls (s0 : ByteArray) (w : World) (hs0 : s0.size < 4611686018427387904) :
    Calls Tryd.prog 28 #[.string s0] w fun e w' => BP (bdec s0) w e w' := by
  refine c_enter2 (args := [.string s0]) (S := (fun _ => False)) (R := (fun _ => False)) (M := []) Tryd.func28 (by kernel_rfl) 93 Tryd.ntmps28 (Nat.le_of_ble_eq_true rfl) (St.first w (fun _ => False) (fun _ => False)) (fun a W F H => ?_)
  have F := F.less [(0, .string s0)] (subc rfl sub0)
  refine c_seq (by kernel_rfl) ?_
  refine c_text (id := 0) (by kernel_rfl) [(0, 2), (1, 2)] (by kernel_rfl) ?_
  refine sq_new (show Eq (α := OSk) _ (some (some 2, (.alloc 40), 0, none)) by kernel_rfl) trivial F (by decide) H [.int .i64 0, .int .i64 0, .slice none 0 0] 40 (x_alloc Tryd.zeroValue40 rfl) ?_
  intro g1 W a hg1 H F
  refine ⟨(fun _ => trivial), ?_⟩
  refine sq2 (W' := W) (show Eq (α := OSk) _ (some (some 3, (.assign (.const (.int .i64 0))), 24, none)) by kernel_rfl) trivial F (by decide) (v := .int .i64 0) (x_assign rfl) (fun _ => trivial) (fun a F => ?_)
  unfold wpSeq
  have H : St w (fun _ => False) (fun _ => False) [Asn.blk g1 [.int .i64 0, .int .i64 0, .slice none 0 0] 40] W := H
  refine t_normal ?_
  refine c_seq (by kernel_rfl) ?_
  refine c_text (id := 1) (by kernel_rfl) [(0, 2)] (by kernel_rfl) ?_
  refine sq_new (show Eq (α := OSk) _ (some (some 4, (.alloc 87), 0, none)) by kernel_rfl) trivial F (by decide) H [.int .i64 0, .int .i64 0] 87 (x_alloc Tryd.zeroValue87 rfl) ?_
  intro g2 W a hg2 H F
  refine ⟨(fun _ => trivial), ?_⟩
  unfold wpSeq
  have H : St w (fun _ => False) (fun _ => False) [Asn.blk g1 [.int .i64 0, .int .i64 0, .slice none 0 0] 40, Asn.blk g2 [.int .i64 0, .int .i64 0] 87] W := H
  refine t_normal ?_
  refine c_seq (by kernel_rfl) ?_
  refine c_seq (by kernel_rfl) ?_
  refine c_text (id := 2) (by kernel_rfl) [(0, 2)] (by kernel_rfl) ?_
  refine sq2 (W' := W) (show Eq (α := OSk) _ (some (some 18, (.move (.const (.int .i64 0))), 3, none)) by kernel_rfl) trivial F (by decide) (v := .int .i64 0) (x_move rfl) (fun _ => trivial) (fun a F => ?_)
  unfold wpSeq
  refine t_normal ?_
  refine c_block (id := 0) (by kernel_rfl) ?_
  refine c_loop (by kernel_rfl) (fun k a W => ∃ (i : Int) (x : Int) (y : Int) (s : ByteArray), Fr 93 [(2, .pointer (some ⟨g1, 0, none⟩)), (4, .pointer (some ⟨g2, 0, none⟩)), (0, .string s), (18, .int .i64 i)] a ∧ St w (fun _ => False) (fun _ => False) [Asn.blk g1 [.int .i64 0, .int .i64 0, .slice none 0 0] 40, Asn.blk g2 [.int .i64 x, .int .i64 y] 87] W ∧ (s.size < 4611686018427387904) ∧ ((k : Int) + i = 3) ∧ ((i = 0 ∧ y = 0 ∧ bdec s0 = bdec s) ∨ (i = 1 ∧ y = 0 ∧ bdec s0 = bdec1 x s) ∨ (i = 2 ∧ bdec s0 = bdec2 x y s))) 3 ⟨0, 0, 0, s0, F.less _ (subc rfl (subc rfl (subc rfl (subc rfl sub0)))), H, hs0, (by omega), (.inl ⟨rfl, rfl, rfl⟩)⟩ ?_
  rintro k a W ⟨i, x, y, s, F, H, HS, hq, hc⟩
  refine c_seq (by kernel_rfl) ?_
  rcases hc with ⟨rfl, rfl, HF⟩ | ⟨rfl, rfl, HF⟩ | ⟨rfl, HF⟩
  · refine c_text (id := 3) (by kernel_rfl) [(0, 2)] (by kernel_rfl) ?_
    refine sq2 (W' := W) (show Eq (α := OSk) _ (some (some 19, (.binOp .lss 3 (.tmp 18) (.const (.int .i64 2)) 3), 0, none)) by kernel_rfl) trivial F (by decide) (v := .bool true) (x_int (F.slot rfl) rfl rfl) (fun _ => trivial) (fun a F => ?_)
    unfold wpSeq
    have H : St w (fun _ => False) (fun _ => False) [Asn.blk g1 [.int .i64 0, .int .i64 0, .slice none 0 0] 40, Asn.blk g2 [.int .i64 x, .int .i64 0] 87] W := H
    refine t_normal ?_
    refine c_seq (by kernel_rfl) ?_
    refine c_yes (c := .tmp 19) (by kernel_rfl) (F.slot rfl) ?_
    refine c_skip (by kernel_rfl) ?_
    refine t_normal ?_
    refine c_seq (by kernel_rfl) ?_
    refine c_block (id := 1) (by kernel_rfl) ?_
    refine c_seq (by kernel_rfl) ?_
    refine c_text (id := 4) (by kernel_rfl) [(0, 2), (1, 2)] (by kernel_rfl) ?_
    refine sq2 (W' := W) (show Eq (α := OSk) _ (some (some 20, (.move (.tmp 18)), 3, none)) by kernel_rfl) trivial F (by decide) (v := .int .i64 0) (x_move (F.slot rfl)) (fun _ => trivial) (fun a F => ?_)
    refine sq2 (W' := W) (show Eq (α := OSk) _ (some (some 5, (.assign (.tmp 20)), 3, none)) by kernel_rfl) trivial F (by decide) (v := .int .i64 0) (x_assign (F.slot rfl)) (fun _ => trivial) (fun a F => ?_)
    unfold wpSeq
    refine t_normal ?_
    refine c_seq (by kernel_rfl) ?_
    refine c_text (id := 5) (by kernel_rfl) [(0, 2), (1, 2), (2, 2), (3, 2), (4, 2), (5, 2), (6, 2), (7, 2), (8, 2)] (by kernel_rfl) ?_
    refine sq2 (W' := W) (show Eq (α := OSk) _ (some (some 22, (.move (.tmp 0)), 9, none)) by kernel_rfl) trivial F (by decide) (v := .string s) (x_move (F.slot rfl)) (fun _ => trivial) (fun a F => ?_)
    obtain ⟨a1, k1, z1, hG⟩ : ∃ a k z, gi s 9 0 0 = (a, k, z) := ⟨_, _, _, rfl⟩
    refine sqc (show Eq (α := OSk) _ (some (some 23, (.call { callee := (.value (.func 60)), args := #[(.tmp 22)], argTypes := #[9] }), 88, none)) by kernel_rfl) trivial F (by decide) (x_call Tryd.func60 (by kernel_rfl) rfl (args_1 (F.slot rfl))) (wire_GetInt.calls s a1 k1 z1 W (congrArg some hG)) ?_
    rintro e W ⟨rfl, hd⟩
    refine ⟨_, rfl, fun a F => ?_⟩
    have H := H.below (drawn_below hd)
    refine ⟨(fun _ => trivial), ?_⟩
    refine sq2 (W' := W) (show Eq (α := OSk) _ (some (some 21, (.move (.tmp 23)), 88, none)) by kernel_rfl) trivial F (by decide) (v := .tuple #[.int .i64 a1, .int .i64 k1, .int .i64 z1]) (x_move (F.slot rfl)) (fun _ => trivial) (fun a F => ?_)
    refine sq2 (W' := W) (show Eq (α := OSk) _ (some (some 24, (.extract (.tmp 21) 0), 2, none)) by kernel_rfl) trivial F (by decide) (v := .int .i64 a1) (x_extract (F.slot rfl) rfl) (fun _ => trivial) (fun a F => ?_)
    refine sq2 (W' := W) (show Eq (α := OSk) _ (some (some 25, (.extract (.tmp 21) 1), 3, none)) by kernel_rfl) trivial F (by decide) (v := .int .i64 k1) (x_extract (F.slot rfl) rfl) (fun _ => trivial) (fun a F => ?_)
    refine sq2 (W' := W) (show Eq (α := OSk) _ (some (some 26, (.extract (.tmp 21) 2), 24, none)) by kernel_rfl) trivial F (by decide) (v := .int .i64 z1) (x_extract (F.slot rfl) rfl) (fun _ => trivial) (fun a F => ?_)
    refine sq2 (W' := W) (show Eq (α := OSk) _ (some (some 6, (.assign (.tmp 24)), 2, none)) by kernel_rfl) trivial F (by decide) (v := .int .i64 a1) (x_assign (F.slot rfl)) (fun _ => trivial) (fun a F => ?_)
    refine sq2 (W' := W) (show Eq (α := OSk) _ (some (some 7, (.assign (.tmp 25)), 3, none)) by kernel_rfl) trivial F (by decide) (v := .int .i64 k1) (x_assign (F.slot rfl)) (fun _ => trivial) (fun a F => ?_)
    refine sq2 (W' := W) (show Eq (α := OSk) _ (some (some 8, (.assign (.tmp 26)), 24, none)) by kernel_rfl) trivial F (by decide) (v := .int .i64 z1) (x_assign (F.slot rfl)) (fun _ => trivial) (fun a F => ?_)
    unfold wpSeq
    refine t_normal ?_
    refine c_seq (by kernel_rfl) ?_
    refine c_seq (by kernel_rfl) ?_
    refine c_text (id := 6) (by kernel_rfl) [(0, 2), (1, 2)] (by kernel_rfl) ?_
    refine sq2 (W' := W) (show Eq (α := OSk) _ (some (some 27, (.move (.tmp 8)), 24, none)) by kernel_rfl) trivial F (by decide) (v := .int .i64 z1) (x_move (F.slot rfl)) (fun _ => trivial) (fun a F => ?_)
    refine sq2 (W' := W) (show Eq (α := OSk) _ (some (some 28, (.binOp .neq 24 (.tmp 27) (.const (.int .i64 0)) 24), 4, none)) by kernel_rfl) trivial F (by decide) (v := .bool (z1 != (0 : Int))) (x_int (F.slot rfl) rfl rfl) (fun _ => trivial) (fun a F => ?_)
    unfold wpSeq
    refine t_normal ?_
    rcases bool_or (z1 != (0 : Int)) with hb3 | hb3
    · have F := F.at 28 rfl (v' := .bool true) (congrArg Value.bool hb3)
      refine c_yes (c := .tmp 28) (by kernel_rfl) (F.slot rfl) ?_
      refine c_seq (by kernel_rfl) ?_
      refine c_text (id := 7) (by kernel_rfl) [(0, 2), (1, 2), (2, 2), (3, 2)] (by kernel_rfl) ?_
      refine sq2 (W' := W) (show Eq (α := OSk) _ (some (some 29, (.build 40 #[]), 40, none)) by kernel_rfl) trivial F (by decide) (v := .agg #[.int .i64 0, .int .i64 0, .slice none 0 0]) (by simp [ex, execOp, Instr.build, Tryd.zeroValue40, run_underlying Tryd.underlying40, Instr.fill, Value.cells, Tryd.sizeOf3, Tryd.sizeOf38]) (fun _ => trivial) (fun a F => ?_)
      refine sq2 (W' := W) (show Eq (α := OSk) _ (some (some 30, (.move (.tmp 8)), 24, none)) by kernel_rfl) trivial F (by decide) (v := .int .i64 z1) (x_move (F.slot rfl)) (fun _ => trivial) (fun a F => ?_)
      refine sq_put (M := [Asn.blk g1 [.int .i64 0, .int .i64 0, .slice none 0 0] 40, Asn.blk g2 [.int .i64 x, .int .i64 0] 87]) (show Eq (α := OSk) _ (some (none, (.store 40 (.tmp 2) (.tmp 29)), 0, none)) by kernel_rfl) trivial F (x_store H (k := 0) (cs' := [.int .i64 0, .int .i64 0, .slice none 0 0]) rfl (Tryd.sizeOf40 W) (F.slot rfl) (F.slot rfl) rfl (Nat.le_of_ble_eq_true rfl) rfl rfl) ?_
      intro W H
      refine ⟨(fun _ => trivial), ?_⟩
      refine sq2 (W' := W) (show Eq (α := OSk) _ (some (some 3, (.assign (.tmp 30)), 24, none)) by kernel_rfl) trivial F (by decide) (v := .int .i64 z1) (x_assign (F.slot rfl)) (fun _ => trivial) (fun a F => ?_)
      unfold wpSeq
      refine t_normal ?_
      refine c_ret (by kernel_rfl) ?_
      refine t_ret ?_
      refine b_ret ?_
      refine t_ret ?_
      refine t_ret ?_
      refine b_ret ?_
      refine t_ret ?_
      refine p_list (rs := [.cell 2 40, .tmp 3]) (vs := [.agg #[.int .i64 0, .int .i64 0, .slice none 0 0], .int .i64 z1]) Tryd.results28 (by simp) F (Vals.cell' F rfl (H.blk 0 rfl) Tryd.underlying40 rfl (by kernel_rfl) (Vals.tmp' F rfl .nil)) ?_
      have hz : z1 ≠ 0 := by simpa using hb3
      have HF : bdec s0 = bnil z1 := by have := HF.trans (if_neg (by rw [hG]; exact hz)); rw [hG] at this; exact this
      rw [HF]
      exact ⟨none, 0, rfl, Nat.le_refl _, fun _ _ => Kd.C_nil _ _, H.ends⟩
    · have F := F.at 28 rfl (v' := .bool false) (congrArg Value.bool hb3)
      refine c_no (c := .tmp 28) (by kernel_rfl) (F.slot rfl) ?_
      refine c_skip (by kernel_rfl) ?_
      refine t_normal ?_
      obtain rfl : z1 = 0 := by simpa using hb3
      have HF : bdec s0 = bdec1 a1 (rest s k1) := by have := HF.trans (if_pos (by rw [hG])); rw [hG] at this; exact this
      have hg := gi_ok s 9 0 0 (by omega) (by rw [hG])
      rw [hG] at hg; dsimp only at hg
      refine c_drawn (id := 8) (by kernel_rfl) (by kernel_rfl) (Vs []) [0, 0, 0, 0, 12, 3, 35, 127] [] [(0, 0), (1, 0), (2, 0), (3, 0), (4, 0), (5, 0), (6, 2), (7, 0)] (by kernel_rfl) (fun _ _ d _ _ h => by cases d <;> exact h) (trivial) ?_
      have H := H.drew
      generalize World.drew W = W at H ⊢
      refine sq0 (show Eq (α := OSk) _ (some (some 31, (.move (.tmp 5)), 3, none)) by kernel_rfl) trivial F (by decide) (v := .int .i64 0) (fun W_ => x_move (F.slot rfl)) (fun a F => ?_)
      refine sq0 (show Eq (α := OSk) _ (some (some 32, (.move (.tmp 6)), 2, none)) by kernel_rfl) trivial F (by decide) (v := .int .i64 a1) (fun W_ => x_move (F.slot rfl)) (fun a F => ?_)
      refine sq0 (show Eq (α := OSk) _ (some (some 33, (.move (.tmp 0)), 9, none)) by kernel_rfl) trivial F (by decide) (v := .string s) (fun W_ => x_move (F.slot rfl)) (fun a F => ?_)
      refine sq0 (show Eq (α := OSk) _ (some (some 34, (.move (.tmp 7)), 3, none)) by kernel_rfl) trivial F (by decide) (v := .int .i64 k1) (fun W_ => x_move (F.slot rfl)) (fun a F => ?_)
      refine sq0 (show Eq (α := OSk) _ (some (some 35, (.slice 9 (.tmp 33) (some (.tmp 34)) none none), 9, none)) by kernel_rfl) trivial F (by decide) (v := .string (rest s k1)) (fun W_ => x_sliceS Tryd.underlying9 (F.slot rfl) (F.slot rfl) (by omega) (by omega)) (fun a F => ?_)
      refine sq0 (show Eq (α := OSk) _ (some (some 36, (.indexAddr 87 (.tmp 4) (.tmp 31)), 0, none)) by kernel_rfl) trivial F (by decide) (v := .pointer (some ⟨g2, 0, none⟩)) (fun W_ => (x_indexAr Tryd.underlying87 (Tryd.sizeOf2 W_) (F.slot rfl) (F.slot rfl) (by decide) (by decide)).trans (by rw [addo]; rfl)) (fun a F => ?_)
      refine sq_put (M := [Asn.blk g1 [.int .i64 0, .int .i64 0, .slice none 0 0] 40, Asn.blk g2 [.int .i64 a1, .int .i64 0] 87]) (show Eq (α := OSk) _ (some (none, (.store 2 (.tmp 36) (.tmp 32)), 0, none)) by kernel_rfl) trivial F (x_store H (k := 1) (cs' := [.int .i64 a1, .int .i64 0]) rfl (Tryd.sizeOf2 W) (F.slot rfl) (F.slot rfl) rfl (Nat.le_of_ble_eq_true rfl) rfl rfl) ?_
      intro W H
      refine ⟨(fun _ => trivial), ?_⟩
      refine sq0 (show Eq (α := OSk) _ (some (some 0, (.assign (.tmp 35)), 9, none)) by kernel_rfl) trivial F (by decide) (v := .string (rest s k1)) (fun W_ => x_assign (F.slot rfl)) (fun a F => ?_)
      unfold wpSeq
      refine b_normal ?_
      refine t_normal ?_
      refine c_text (id := 9) (by kernel_rfl) [(0, 2), (1, 2)] (by kernel_rfl) ?_
      refine sq2 (W' := W) (show Eq (α := OSk) _ (some (some 37, (.binOp .add 3 (.tmp 18) (.const (.int .i64 1)) 3), 3, none)) by kernel_rfl) trivial F (by decide) (v := .int .i64 1) (x_int (F.slot rfl) rfl rfl) (fun _ => trivial) (fun a F => ?_)
      refine sq2 (W' := W) (show Eq (α := OSk) _ (some (some 18, (.move (.tmp 37)), 3, none)) by kernel_rfl) trivial F (by decide) (v := .int .i64 1) (x_move (F.slot rfl)) (fun _ => trivial) (fun a F => ?_)
      unfold wpSeq
      refine t_normal ?_
      have F_ := F
      exact ⟨k - 1, by omega, (1 : Int), a1, 0, (rest s k1), F.less _ (subc rfl (subc rfl (subc rfl (subc rfl sub0)))), H, (by have := rest_size s k1; omega), by omega, .inr (.inl ⟨rfl, rfl, HF⟩)⟩
  · refine c_text (id := 3) (by kernel_rfl) [(0, 2)] (by kernel_rfl) ?_
    refine sq2 (W' := W) (show Eq (α := OSk) _ (some (some 19, (.binOp .lss 3 (.tmp 18) (.const (.int .i64 2)) 3), 0, none)) by kernel_rfl) trivial F (by decide) (v := .bool true) (x_int (F.slot rfl) rfl rfl) (fun _ => trivial) (fun a F => ?_)
    unfold wpSeq
    have H : St w (fun _ => False) (fun _ => False) [Asn.blk g1 [.int .i64 0, .int .i64 0, .slice none 0 0] 40, Asn.blk g2 [.int .i64 x, .int .i64 0] 87] W := H
    refine t_normal ?_
    refine c_seq (by kernel_rfl) ?_
    refine c_yes (c := .tmp 19) (by kernel_rfl) (F.slot rfl) ?_
    refine c_skip (by kernel_rfl) ?_
    refine t_normal ?_
    refine c_seq (by kernel_rfl) ?_
    refine c_block (id := 1) (by kernel_rfl) ?_
    refine c_seq (by kernel_rfl) ?_
    refine c_text (id := 4) (by kernel_rfl) [(0, 2), (1, 2)] (by kernel_rfl) ?_
    refine sq2 (W' := W) (show Eq (α := OSk) _ (some (some 20, (.move (.tmp 18)), 3, none)) by kernel_rfl) trivial F (by decide) (v := .int .i64 1) (x_move (F.slot rfl)) (fun _ => trivial) (fun a F => ?_)
    refine sq2 (W' := W) (show Eq (α := OSk) _ (some (some 5, (.assign (.tmp 20)), 3, none)) by kernel_rfl) trivial F (by decide) (v := .int .i64 1) (x_assign (F.slot rfl)) (fun _ => trivial) (fun a F => ?_)
    unfold wpSeq
    refine t_normal ?_
    refine c_seq (by kernel_rfl) ?_
    refine c_text (id := 5) (by kernel_rfl) [(0, 2), (1, 2), (2, 2), (3, 2), (4, 2), (5, 2), (6, 2), (7, 2), (8, 2)] (by kernel_rfl) ?_
    refine sq2 (W' := W) (show Eq (α := OSk) _ (some (some 22, (.move (.tmp 0)), 9, none)) by kernel_rfl) trivial F (by decide) (v := .string s) (x_move (F.slot rfl)) (fun _ => trivial) (fun a F => ?_)
    obtain ⟨a1, k1, z1, hG⟩ : ∃ a k z, gi s 9 0 0 = (a, k, z) := ⟨_, _, _, rfl⟩
    refine sqc (show Eq (α := OSk) _ (some (some 23, (.call { callee := (.value (.func 60)), args := #[(.tmp 22)], argTypes := #[9] }), 88, none)) by kernel_rfl) trivial F (by decide) (x_call Tryd.func60 (by kernel_rfl) rfl (args_1 (F.slot rfl))) (wire_GetInt.calls s a1 k1 z1 W (congrArg some hG)) ?_
    rintro e W ⟨rfl, hd⟩
    refine ⟨_, rfl, fun a F => ?_⟩
    have H := H.below (drawn_below hd)
    refine ⟨(fun _ => trivial), ?_⟩
    refine sq2 (W' := W) (show Eq (α := OSk) _ (some (some 21, (.move (.tmp 23)), 88, none)) by kernel_rfl) trivial F (by decide) (v := .tuple #[.int .i64 a1, .int .i64 k1, .int .i64 z1]) (x_move (F.slot rfl)) (fun _ => trivial) (fun a F => ?_)
    refine sq2 (W' := W) (show Eq (α := OSk) _ (some (some 24, (.extract (.tmp 21) 0), 2, none)) by kernel_rfl) trivial F (by decide) (v := .int .i64 a1) (x_extract (F.slot rfl) rfl) (fun _ => trivial) (fun a F => ?_)
    refine sq2 (W' := W) (show Eq (α := OSk) _ (some (some 25, (.extract (.tmp 21) 1), 3, none)) by kernel_rfl) trivial F (by decide) (v := .int .i64 k1) (x_extract (F.slot rfl) rfl) (fun _ => trivial) (fun a F => ?_)
    refine sq2 (W' := W) (show Eq (α := OSk) _ (some (some 26, (.extract (.tmp 21) 2), 24, none)) by kernel_rfl) trivial F (by decide) (v := .int .i64 z1) (x_extract (F.slot rfl) rfl) (fun _ => trivial) (fun a F => ?_)
    refine sq2 (W' := W) (show Eq (α := OSk) _ (some (some 6, (.assign (.tmp 24)), 2, none)) by kernel_rfl) trivial F (by decide) (v := .int .i64 a1) (x_assign (F.slot rfl)) (fun _ => trivial) (fun a F => ?_)
    refine sq2 (W' := W) (show Eq (α := OSk) _ (some (some 7, (.assign (.tmp 25)), 3, none)) by kernel_rfl) trivial F (by decide) (v := .int .i64 k1) (x_assign (F.slot rfl)) (fun _ => trivial) (fun a F => ?_)
    refine sq2 (W' := W) (show Eq (α := OSk) _ (some (some 8, (.assign (.tmp 26)), 24, none)) by kernel_rfl) trivial F (by decide) (v := .int .i64 z1) (x_assign (F.slot rfl)) (fun _ => trivial) (fun a F => ?_)
    unfold wpSeq
    refine t_normal ?_
    refine c_seq (by kernel_rfl) ?_
    refine c_seq (by kernel_rfl) ?_
    refine c_text (id := 6) (by kernel_rfl) [(0, 2), (1, 2)] (by kernel_rfl) ?_
    refine sq2 (W' := W) (show Eq (α := OSk) _ (some (some 27, (.move (.tmp 8)), 24, none)) by kernel_rfl) trivial F (by decide) (v := .int .i64 z1) (x_move (F.slot rfl)) (fun _ => trivial) (fun a F => ?_)
    refine sq2 (W' := W) (show Eq (α := OSk) _ (some (some 28, (.binOp .neq 24 (.tmp 27) (.const (.int .i64 0)) 24), 4, none)) by kernel_rfl) trivial F (by decide) (v := .bool (z1 != (0 : Int))) (x_int (F.slot rfl) rfl rfl) (fun _ => trivial) (fun a F => ?_)
    unfold wpSeq
    refine t_normal ?_
    rcases bool_or (z1 != (0 : Int)) with hb5 | hb5
    · have F := F.at 28 rfl (v' := .bool true) (congrArg Value.bool hb5)
      refine c_yes (c := .tmp 28) (by kernel_rfl) (F.slot rfl) ?_
      refine c_seq (by kernel_rfl) ?_
      refine c_text (id := 7) (by kernel_rfl) [(0, 2), (1, 2), (2, 2), (3, 2)] (by kernel_rfl) ?_
      refine sq2 (W' := W) (show Eq (α := OSk) _ (some (some 29, (.build 40 #[]), 40, none)) by kernel_rfl) trivial F (by decide) (v := .agg #[.int .i64 0, .int .i64 0, .slice none 0 0]) (by simp [ex, execOp, Instr.build, Tryd.zeroValue40, run_underlying Tryd.underlying40, Instr.fill, Value.cells, Tryd.sizeOf3, Tryd.sizeOf38]) (fun _ => trivial) (fun a F => ?_)
      refine sq2 (W' := W) (show Eq (α := OSk) _ (some (some 30, (.move (.tmp 8)), 24, none)) by kernel_rfl) trivial F (by decide) (v := .int .i64 z1) (x_move (F.slot rfl)) (fun _ => trivial) (fun a F => ?_)
      refine sq_put (M := [Asn.blk g1 [.int .i64 0, .int .i64 0, .slice none 0 0] 40, Asn.blk g2 [.int .i64 x, .int .i64 0] 87]) (show Eq (α := OSk) _ (some (none, (.store 40 (.tmp 2) (.tmp 29)), 0, none)) by kernel_rfl) trivial F (x_store H (k := 0) (cs' := [.int .i64 0, .int .i64 0, .slice none 0 0]) rfl (Tryd.sizeOf40 W) (F.slot rfl) (F.slot rfl) rfl (Nat.le_of_ble_eq_true rfl) rfl rfl) ?_
      intro W H
      refine ⟨(fun _ => trivial), ?_⟩
      refine sq2 (W' := W) (show Eq (α := OSk) _ (some (some 3, (.assign (.tmp 30)), 24, none)) by kernel_rfl) trivial F (by decide) (v := .int .i64 z1) (x_assign (F.slot rfl)) (fun _ => trivial) (fun a F => ?_)
      unfold wpSeq
      refine t_normal ?_
      refine c_ret (by kernel_rfl) ?_
      refine t_ret ?_
      refine b_ret ?_
      refine t_ret ?_
      refine t_ret ?_
      refine b_ret ?_
      refine t_ret ?_
      refine p_list (rs := [.cell 2 40, .tmp 3]) (vs := [.agg #[.int .i64 0, .int .i64 0, .slice none 0 0], .int .i64 z1]) Tryd.results28 (by simp) F (Vals.cell' F rfl (H.blk 0 rfl) Tryd.underlying40 rfl (by kernel_rfl) (Vals.tmp' F rfl .nil)) ?_
      have hz : z1 ≠ 0 := by simpa using hb5
      have HF : bdec s0 = bnil z1 := by have := HF.trans (if_neg (by rw [hG]; exact hz)); rw [hG] at this; exact this
      rw [HF]
      exact ⟨none, 0, rfl, Nat.le_refl _, fun _ _ => Kd.C_nil _ _, H.ends⟩
    · have F := F.at 28 rfl (v' := .bool false) (congrArg Value.bool hb5)
      refine c_no (c := .tmp 28) (by kernel_rfl) (F.slot rfl) ?_
      refine c_skip (by kernel_rfl) ?_
      refine t_normal ?_
      obtain rfl : z1 = 0 := by simpa using hb5
      have HF : bdec s0 = bdec2 x a1 (rest s k1) := by have := HF.trans (if_pos (by rw [hG])); rw [hG] at this; exact this
      have hg := gi_ok s 9 0 0 (by omega) (by rw [hG])
      rw [hG] at hg; dsimp only at hg
      refine c_drawn (id := 8) (by kernel_rfl) (by kernel_rfl) (Vs []) [0, 0, 0, 0, 12, 3, 35, 127] [] [(0, 0), (1, 0), (2, 0), (3, 0), (4, 0), (5, 0), (6, 2), (7, 0)] (by kernel_rfl) (fun _ _ d _ _ h => by cases d <;> exact h) (trivial) ?_
      have H := H.drew
      generalize World.drew W = W at H ⊢
      refine sq0 (show Eq (α := OSk) _ (some (some 31, (.move (.tmp 5)), 3, none)) by kernel_rfl) trivial F (by decide) (v := .int .i64 1) (fun W_ => x_move (F.slot rfl)) (fun a F => ?_)
      refine sq0 (show Eq (α := OSk) _ (some (some 32, (.move (.tmp 6)), 2, none)) by kernel_rfl) trivial F (by decide) (v := .int .i64 a1) (fun W_ => x_move (F.slot rfl)) (fun a F => ?_)
      refine sq0 (show Eq (α := OSk) _ (some (some 33, (.move (.tmp 0)), 9, none)) by kernel_rfl) trivial F (by decide) (v := .string s) (fun W_ => x_move (F.slot rfl)) (fun a F => ?_)
      refine sq0 (show Eq (α := OSk) _ (some (some 34, (.move (.tmp 7)), 3, none)) by kernel_rfl) trivial F (by decide) (v := .int .i64 k1) (fun W_ => x_move (F.slot rfl)) (fun a F => ?_)
      refine sq0 (show Eq (α := OSk) _ (some (some 35, (.slice 9 (.tmp 33) (some (.tmp 34)) none none), 9, none)) by kernel_rfl) trivial F (by decide) (v := .string (rest s k1)) (fun W_ => x_sliceS Tryd.underlying9 (F.slot rfl) (F.slot rfl) (by omega) (by omega)) (fun a F => ?_)
      refine sq0 (show Eq (α := OSk) _ (some (some 36, (.indexAddr 87 (.tmp 4) (.tmp 31)), 0, none)) by kernel_rfl) trivial F (by decide) (v := .pointer (some ⟨g2, 1, none⟩)) (fun W_ => (x_indexAr Tryd.underlying87 (Tryd.sizeOf2 W_) (F.slot rfl) (F.slot rfl) (by decide) (by decide)).trans (by rw [addo]; rfl)) (fun a F => ?_)
      refine sq_put (M := [Asn.blk g1 [.int .i64 0, .int .i64 0, .slice none 0 0] 40, Asn.blk g2 [.int .i64 x, .int .i64 a1] 87]) (show Eq (α := OSk) _ (some (none, (.store 2 (.tmp 36) (.tmp 32)), 0, none)) by kernel_rfl) trivial F (x_store H (k := 1) (cs' := [.int .i64 x, .int .i64 a1]) rfl (Tryd.sizeOf2 W) (F.slot rfl) (F.slot rfl) rfl (Nat.le_of_ble_eq_true rfl) rfl rfl) ?_
      intro W H
      refine ⟨(fun _ => trivial), ?_⟩
      refine sq0 (show Eq (α := OSk) _ (some (some 0, (.assign (.tmp 35)), 9, none)) by kernel_rfl) trivial F (by decide) (v := .string (rest s k1)) (fun W_ => x_assign (F.slot rfl)) (fun a F => ?_)
      unfold wpSeq
      refine b_normal ?_
      refine t_normal ?_
      refine c_text (id := 9) (by kernel_rfl) [(0, 2), (1, 2)] (by kernel_rfl) ?_
      refine sq2 (W' := W) (show Eq (α := OSk) _ (some (some 37, (.binOp .add 3 (.tmp 18) (.const (.int .i64 1)) 3), 3, none)) by kernel_rfl) trivial F (by decide) (v := .int .i64 2) (x_int (F.slot rfl) rfl rfl) (fun _ => trivial) (fun a F => ?_)
      refine sq2 (W' := W) (show Eq (α := OSk) _ (some (some 18, (.move (.tmp 37)), 3, none)) by kernel_rfl) trivial F (by decide) (v := .int .i64 2) (x_move (F.slot rfl)) (fun _ => trivial) (fun a F => ?_)
      unfold wpSeq
      refine t_normal ?_
      have F_ := F
      exact ⟨k - 1, by omega, (2 : Int), x, a1, (rest s k1), F.less _ (subc rfl (subc rfl (subc rfl (subc rfl sub0)))), H, (by have := rest_size s k1; omega), by omega, .inr (.inr ⟨rfl, HF⟩)⟩
  · refine c_text (id := 3) (by kernel_rfl) [(0, 2)] (by kernel_rfl) ?_
    refine sq2 (W' := W) (show Eq (α := OSk) _ (some (some 19, (.binOp .lss 3 (.tmp 18) (.const (.int .i64 2)) 3), 0, none)) by kernel_rfl) trivial F (by decide) (v := .bool false) (x_int (F.slot rfl) rfl rfl) (fun _ => trivial) (fun a F => ?_)
    unfold wpSeq
    have H : St w (fun _ => False) (fun _ => False) [Asn.blk g1 [.int .i64 0, .int .i64 0, .slice none 0 0] 40, Asn.blk g2 [.int .i64 x, .int .i64 y] 87] W := H
    refine t_normal ?_
    refine c_seq (by kernel_rfl) ?_
    refine c_no (c := .tmp 19) (by kernel_rfl) (F.slot rfl) ?_
    refine c_exit (id := 0) (by kernel_rfl) ?_
    refine t_exit ?_
    refine t_exit ?_
    refine b_here ?_
    refine t_normal ?_
    refine c_seq (by kernel_rfl) ?_
    refine c_text (id := 10) (by kernel_rfl) [(0, 2), (1, 2), (2, 2), (3, 2), (4, 2), (5, 2), (6, 2), (7, 2), (8, 2)] (by kernel_rfl) ?_
    refine sq2 (W' := W) (show Eq (α := OSk) _ (some (some 39, (.move (.tmp 0)), 9, none)) by kernel_rfl) trivial F (by decide) (v := .string s) (x_move (F.slot rfl)) (fun _ => trivial) (fun a F => ?_)
    obtain ⟨l, k1, z1, hG⟩ : ∃ l k z, gl s 16 = (l, k, z) := ⟨_, _, _, rfl⟩
    refine sqc (show Eq (α := OSk) _ (some (some 40, (.call { callee := (.value (.func 61)), args := #[(.tmp 39), (.const (.int .i64 16))], argTypes := #[9, 3] }), 90, none)) by kernel_rfl) trivial F (by decide) (x_call Tryd.func61 (by kernel_rfl) rfl (args_2 (F.slot rfl) rfl)) (PWi.wire_GetList.calls 17 s 16 l k1 z1 W ((wire_list s HS 16 (by omega) 17 (by omega)).trans (congrArg some hG))) ?_
    rintro e W ⟨v9, rfl, hR, hd⟩
    refine ⟨_, rfl, fun a F => ?_⟩
    obtain ⟨A, c, rfl, hc9, hC⟩ := Kd.R_reads hR
    have H := H.freshF hd _ _ (Kd.R_F (Kd.R_bound hR)) (fun k hk => hk.2.1)
    have H : St w (fun _ => False) (fun _ => False) [Asn.blk g1 [.int .i64 0, .int .i64 0, .slice none 0 0] 40, Asn.blk g2 [.int .i64 x, .int .i64 y] 87, Asn.rd Kd.string _ A l.length l] W := H
    refine ⟨(fun _ => trivial), ?_⟩
    refine sq2 (W' := W) (show Eq (α := OSk) _ (some (some 38, (.move (.tmp 40)), 90, none)) by kernel_rfl) trivial F (by decide) (v := .tuple #[.slice A l.length c, .int .i64 k1, .int .i64 z1]) (x_move (F.slot rfl)) (fun _ => trivial) (fun a F => ?_)
    refine sq2 (W' := W) (show Eq (α := OSk) _ (some (some 41, (.extract (.tmp 38) 0), 31, none)) by kernel_rfl) trivial F (by decide) (v := .slice A l.length c) (x_extract (F.slot rfl) rfl) (fun _ => trivial) (fun a F => ?_)
    refine sq2 (W' := W) (show Eq (α := OSk) _ (some (some 42, (.extract (.tmp 38) 1), 3, none)) by kernel_rfl) trivial F (by decide) (v := .int .i64 k1) (x_extract (F.slot rfl) rfl) (fun _ => trivial) (fun a F => ?_)
    refine sq2 (W' := W) (show Eq (α := OSk) _ (some (some 43, (.extract (.tmp 38) 2), 24, none)) by kernel_rfl) trivial F (by decide) (v := .int .i64 z1) (x_extract (F.slot rfl) rfl) (fun _ => trivial) (fun a F => ?_)
    refine sq2 (W' := W) (show Eq (α := OSk) _ (some (some 9, (.assign (.tmp 41)), 31, none)) by kernel_rfl) trivial F (by decide) (v := .slice A l.length c) (x_assign (F.slot rfl)) (fun _ => trivial) (fun a F => ?_)
    refine sq2 (W' := W) (show Eq (α := OSk) _ (some (some 10, (.assign (.tmp 42)), 3, none)) by kernel_rfl) trivial F (by decide) (v := .int .i64 k1) (x_assign (F.slot rfl)) (fun _ => trivial) (fun a F => ?_)
    refine sq2 (W' := W) (show Eq (α := OSk) _ (some (some 11, (.assign (.tmp 43)), 24, none)) by kernel_rfl) trivial F (by decide) (v := .int .i64 z1) (x_assign (F.slot rfl)) (fun _ => trivial) (fun a F => ?_)
    unfold wpSeq
    refine t_normal ?_
    refine c_seq (by kernel_rfl) ?_
    refine c_seq (by kernel_rfl) ?_
    refine c_text (id := 11) (by kernel_rfl) [(0, 2), (1, 2)] (by kernel_rfl) ?_
    refine sq2 (W' := W) (show Eq (α := OSk) _ (some (some 44, (.move (.tmp 11)), 24, none)) by kernel_rfl) trivial F (by decide) (v := .int .i64 z1) (x_move (F.slot rfl)) (fun _ => trivial) (fun a F => ?_)
    refine sq2 (W' := W) (show Eq (α := OSk) _ (some (some 45, (.binOp .neq 24 (.tmp 44) (.const (.int .i64 0)) 24), 4, none)) by kernel_rfl) trivial F (by decide) (v := .bool (z1 != (0 : Int))) (x_int (F.slot rfl) rfl rfl) (fun _ => trivial) (fun a F => ?_)
    unfold wpSeq
    refine t_normal ?_
    rcases bool_or (z1 != (0 : Int)) with hb7 | hb7
    · have F := F.at 45 rfl (v' := .bool true) (congrArg Value.bool hb7)
      refine c_yes (c := .tmp 45) (by kernel_rfl) (F.slot rfl) ?_
      refine c_seq (by kernel_rfl) ?_
      refine c_text (id := 12) (by kernel_rfl) [(0, 2), (1, 2), (2, 2), (3, 2)] (by kernel_rfl) ?_
      refine sq2 (W' := W) (show Eq (α := OSk) _ (some (some 46, (.build 40 #[]), 40, none)) by kernel_rfl) trivial F (by decide) (v := .agg #[.int .i64 0, .int .i64 0, .slice none 0 0]) (by simp [ex, execOp, Instr.build, Tryd.zeroValue40, run_underlying Tryd.underlying40, Instr.fill, Value.cells, Tryd.sizeOf3, Tryd.sizeOf38]) (fun _ => trivial) (fun a F => ?_)
      refine sq2 (W' := W) (show Eq (α := OSk) _ (some (some 47, (.move (.tmp 11)), 24, none)) by kernel_rfl) trivial F (by decide) (v := .int .i64 z1) (x_move (F.slot rfl)) (fun _ => trivial) (fun a F => ?_)
      refine sq_put (M := [Asn.blk g1 [.int .i64 0, .int .i64 0, .slice none 0 0] 40, Asn.blk g2 [.int .i64 x, .int .i64 y] 87, Asn.rd Kd.string _ A l.length l]) (show Eq (α := OSk) _ (some (none, (.store 40 (.tmp 2) (.tmp 46)), 0, none)) by kernel_rfl) trivial F (x_store H (k := 0) (cs' := [.int .i64 0, .int .i64 0, .slice none 0 0]) rfl (Tryd.sizeOf40 W) (F.slot rfl) (F.slot rfl) rfl (Nat.le_of_ble_eq_true rfl) rfl rfl) ?_
      intro W H
      refine ⟨(fun _ => trivial), ?_⟩
      refine sq2 (W' := W) (show Eq (α := OSk) _ (some (some 3, (.assign (.tmp 47)), 24, none)) by kernel_rfl) trivial F (by decide) (v := .int .i64 z1) (x_assign (F.slot rfl)) (fun _ => trivial) (fun a F => ?_)
      unfold wpSeq
      refine t_normal ?_
      refine c_ret (by kernel_rfl) ?_
      refine t_ret ?_
      refine p_list (rs := [.cell 2 40, .tmp 3]) (vs := [.agg #[.int .i64 0, .int .i64 0, .slice none 0 0], .int .i64 z1]) Tryd.results28 (by simp) F (Vals.cell' F rfl (H.blk 0 rfl) Tryd.underlying40 rfl (by kernel_rfl) (Vals.tmp' F rfl .nil)) ?_
      have hz : z1 ≠ 0 := by simpa using hb7
      have HF : bdec s0 = bnil z1 := by have := HF.trans (if_neg (by rw [hG]; exact hz)); rw [hG] at this; exact this
      rw [HF]
      exact ⟨none, 0, rfl, Nat.le_refl _, fun _ _ => Kd.C_nil _ _, H.ends⟩
    · have F := F.at 45 rfl (v' := .bool false) (congrArg Value.bool hb7)
      refine c_no (c := .tmp 45) (by kernel_rfl) (F.slot rfl) ?_
      refine c_skip (by kernel_rfl) ?_
      refine t_normal ?_
      refine c_seq (by kernel_rfl) ?_
      obtain rfl : z1 = 0 := by simpa using hb7
      have hg := gl_ok s 16 (by rw [hG])
      have HF : bdec s0 = bfin x y s k1 (dall l) := by have := HF.trans (if_pos (by rw [hG])); rw [hG] at this; exact this
      have HL0 : ∀ x ∈ l, x.size < 4611686018427387904 := by
        intro x hx
        have h1 := bgl_size s 16 x (by rw [hG]; exact hx)
        omega
      rw [hG] at hg; dsimp only at hg
      refine c_text (id := 13) (by kernel_rfl) [(0, 2), (1, 2), (2, 2), (3, 2), (4, 2), (5, 2), (6, 2)] (by kernel_rfl) ?_
      refine sq2 (W' := W) (show Eq (α := OSk) _ (some (some 48, (.indexAddr 87 (.tmp 4) (.const (.int .i64 0))), 0, none)) by kernel_rfl) trivial F (by decide) (v := .pointer (some ⟨g2, 0, none⟩)) ((x_indexAr Tryd.underlying87 (Tryd.sizeOf2 W) (F.slot rfl) rfl (by decide) (by decide)).trans (by rw [addo]; rfl)) (fun _ => trivial) (fun a F => ?_)
      refine sq2 (show Eq (α := OSk) _ (some (some 49, (.load 2 (.tmp 48)), 2, none)) by kernel_rfl) trivial F (by decide) (v := .int .i64 x) (x_load1 (Tryd.isAgg2 W) (F.slot rfl) (H.cell 1 rfl rfl)) (fun _ => trivial) (fun a F => ?_)
      refine sq2 (W' := W) (show Eq (α := OSk) _ (some (some 50, (.indexAddr 87 (.tmp 4) (.const (.int .i64 1))), 0, none)) by kernel_rfl) trivial F (by decide) (v := .pointer (some ⟨g2, 1, none⟩)) ((x_indexAr Tryd.underlying87 (Tryd.sizeOf2 W) (F.slot rfl) rfl (by decide) (by decide)).trans (by rw [addo]; rfl)) (fun _ => trivial) (fun a F => ?_)
      refine sq2 (show Eq (α := OSk) _ (some (some 51, (.load 2 (.tmp 50)), 2, none)) by kernel_rfl) trivial F (by decide) (v := .int .i64 y) (x_load1 (Tryd.isAgg2 W) (F.slot rfl) (H.cell 1 rfl rfl)) (fun _ => trivial) (fun a F => ?_)
      refine sq2 (W' := W) (show Eq (α := OSk) _ (some (some 52, (.build 40 #[(0, (.tmp 49)), (1, (.tmp 51))]), 40, none)) by kernel_rfl) trivial F (by decide) (v := .agg #[.int .i64 x, .int .i64 y, .slice none 0 0]) (by simp [ex, execOp, Instr.build, Tryd.zeroValue40, run_underlying Tryd.underlying40, Instr.fill, Value.cells, F.slot (i := 49) rfl, F.slot (i := 51) rfl, Tryd.sizeOf3, Tryd.sizeOf38]) (fun _ => trivial) (fun a F => ?_)
      refine sq_new (show Eq (α := OSk) _ (some (some 12, (.alloc 40), 0, none)) by kernel_rfl) trivial F (by decide) H [.int .i64 0, .int .i64 0, .slice none 0 0] 40 (x_alloc Tryd.zeroValue40 rfl) ?_
      intro g8 W a hg8 H F
      refine ⟨(fun _ => trivial), ?_⟩
      refine sq_put (M := [Asn.blk g1 [.int .i64 0, .int .i64 0, .slice none 0 0] 40, Asn.blk g2 [.int .i64 x, .int .i64 y] 87, Asn.rd Kd.string _ A l.length l, Asn.blk g8 [.int .i64 x, .int .i64 y, .slice none 0 0] 40]) (show Eq (α := OSk) _ (some (none, (.store 40 (.tmp 12) (.tmp 52)), 0, none)) by kernel_rfl) trivial F (x_store H (k := 3) (cs' := [.int .i64 x, .int .i64 y, .slice none 0 0]) rfl (Tryd.sizeOf40 W) (F.slot rfl) (F.slot rfl) rfl (Nat.le_of_ble_eq_true rfl) rfl rfl) ?_
      intro W H
      refine ⟨(fun _ => trivial), ?_⟩
      unfold wpSeq
      refine t_normal ?_
      refine c_seq (by kernel_rfl) ?_
      refine c_seq (by kernel_rfl) ?_
      have H := H.quNil k33 33
      have H : St w (fun _ => False) (fun _ => False) [Asn.blk g1 [.int .i64 0, .int .i64 0, .slice none 0 0] 40, Asn.blk g2 [.int .i64 x, .int .i64 y] 87, Asn.rd Kd.string _ A l.length l, Asn.blk g8 [.int .i64 x, .int .i64 y, .slice none 0 0] 40, Asn.qu k33 33 (.slice none 0 0) ([] : List S33) (fun _ => False)] W := H
      refine c_text (id := 14) (by kernel_rfl) [(0, 2), (1, 2), (2, 2)] (by kernel_rfl) ?_
      refine sq2 (W' := W) (show Eq (α := OSk) _ (some (some 53, (.move (.tmp 9)), 31, none)) by kernel_rfl) trivial F (by decide) (v := .slice A l.length c) (x_move (F.slot rfl)) (fun _ => trivial) (fun a F => ?_)
      refine sq2 (W' := W) (show Eq (α := OSk) _ (some (some 54, (.call { callee := (.builtin .len), args := #[(.tmp 53)], argTypes := #[31] }), 3, none)) by kernel_rfl) trivial F (by decide) (v := .int .i64 (l.length : Int)) (x_lenL Tryd.underlying31 (F.slot rfl)) (fun _ => trivial) (fun a F => ?_)
      refine sq2 (W' := W) (show Eq (α := OSk) _ (some (some 55, (.move (.const (.int .i64 0))), 3, none)) by kernel_rfl) trivial F (by decide) (v := .int .i64 0) (x_move rfl) (fun _ => trivial) (fun a F => ?_)
      unfold wpSeq
      refine t_normal ?_
      refine c_block (id := 2) (by kernel_rfl) ?_
      refine c_loop (by kernel_rfl) (fun k a W => ∃ (j : Nat) (acc : List S33) (A1 : Option Addr) (c1 : Nat) (ok : Nat → Prop), Fr 93 [(2, .pointer (some ⟨g1, 0, none⟩)), (4, .pointer (some ⟨g2, 0, none⟩)), (0, .string s), (18, .int .i64 2), (19, .bool false), (39, .string s), (40, .tuple #[.slice A l.length c, .int .i64 k1, .int .i64 0]), (38, .tuple #[.slice A l.length c, .int .i64 k1, .int .i64 0]), (41, .slice A l.length c), (42, .int .i64 k1), (43, .int .i64 0), (9, .slice A l.length c), (10, .int .i64 k1), (11, .int .i64 0), (44, .int .i64 0), (45, .bool false), (48, .pointer (some ⟨g2, 0, none⟩)), (49, .int .i64 x), (50, .pointer (some ⟨g2, 1, none⟩)), (51, .int .i64 y), (52, .agg #[.int .i64 x, .int .i64 y, .slice none 0 0]), (12, .pointer (some ⟨g8, 0, none⟩)), (53, .slice A l.length c), (54, .int .i64 (l.length : Int)), (55, .int .i64 (j : Int))] a ∧ St w (fun _ => False) (fun _ => False) [Asn.blk g1 [.int .i64 0, .int .i64 0, .slice none 0 0] 40, Asn.blk g2 [.int .i64 x, .int .i64 y] 87, Asn.rd Kd.string _ A l.length l, Asn.blk g8 [.int .i64 x, .int .i64 y, .slice A1 acc.length c1] 40, Asn.qu k33 33 (.slice A1 acc.length c1) acc ok] W ∧ (j ≤ l.length) ∧ (k + j = l.length) ∧ (acc.length = j) ∧ (dall l = (acc ++ (dall (l.drop j)).1, (dall (l.drop j)).2))) l.length ⟨0, [], none, 0, (fun _ => False), F.less _ (subc rfl (subc rfl (subc rfl (subc rfl (subc rfl (subc rfl (subc rfl (subc rfl (subc rfl (subc rfl (subc rfl (subc rfl (subc rfl (subc rfl (subc rfl (subc rfl (subc rfl (subc rfl (subc rfl (subc rfl (subc rfl (subc rfl (subc rfl (subc rfl (subc rfl sub0))))))))))))))))))))))))), H, (Nat.zero_le _), rfl, rfl, rfl⟩ ?_
      rintro k a W ⟨j, acc, A1, c1, ok, F, H, hj, hkj, hacc, HD⟩
      refine c_seq (by kernel_rfl) ?_
      refine c_text (id := 15) (by kernel_rfl) [(0, 2)] (by kernel_rfl) ?_
      refine sq2 (W' := W) (show Eq (α := OSk) _ (some (some 56, (.binOp .lss 3 (.tmp 55) (.tmp 54) 3), 0, none)) by kernel_rfl) trivial F (by decide) (v := .bool (decide ((j : Int) < (l.length : Int)))) (x_int (F.slot rfl) (F.slot rfl) rfl) (fun _ => trivial) (fun a F => ?_)
      unfold wpSeq
      have H : St w (fun _ => False) (fun _ => False) [Asn.blk g1 [.int .i64 0, .int .i64 0, .slice none 0 0] 40, Asn.blk g2 [.int .i64 x, .int .i64 y] 87, Asn.rd Kd.string _ A l.length l, Asn.blk g8 [.int .i64 x, .int .i64 y, .slice A1 acc.length c1] 40, Asn.qu k33 33 (.slice A1 acc.length c1) acc ok] W := H
      refine t_normal ?_
      refine c_seq (by kernel_rfl) ?_
      rcases bool_or (decide ((j : Int) < (l.length : Int))) with hb9 | hb9
      · have hb9d := of_decide_eq_true hb9
        have F := F.at 56 rfl (v' := .bool true) (congrArg Value.bool hb9)
        refine c_yes (c := .tmp 56) (by kernel_rfl) (F.slot rfl) ?_
        refine c_skip (by kernel_rfl) ?_
        refine t_normal ?_
        refine c_seq (by kernel_rfl) ?_
        refine c_block (id := 3) (by kernel_rfl) ?_
        refine c_seq (by kernel_rfl) ?_
        refine c_text (id := 16) (by kernel_rfl) [(0, 2), (1, 2), (2, 2)] (by kernel_rfl) ?_
        obtain ⟨ad, hA, hx⟩ := Kd.at_string (H.rd 2 rfl) (j : Int) (by omega) (by omega)
        have hx : W.cell? (ad.add j) = some (.string (rdOf ByteArray.empty l (j : Int))) := hx
        obtain ⟨b, hb⟩ : ∃ b, rdOf ByteArray.empty l (j : Int) = b := ⟨_, rfl⟩
        have hbs : b.size < 4611686018427387904 := by
          have e : rdOf ByteArray.empty l (j : Int) = l[j] := by simp [rdOf, show j < l.length by omega]
          rw [← hb, e]; exact HL0 _ (List.getElem_mem _)
        have hd := dall_at l j (by omega)
        rw [hb] at hx hd
        have F := F.at 53 rfl (v' := .slice (some ad) l.length c) (by rw [hA])
        refine sq2 (W' := W) (show Eq (α := OSk) _ (some (some 57, (.indexAddr 31 (.tmp 53) (.tmp 55)), 0, none)) by kernel_rfl) trivial F (by decide) (v := .pointer (some (ad.add j))) (x_indexSl1 (n := l.length) (c := c) (ad := ad) (i := (j : Int)) Tryd.underlying31 (Tryd.sizeOf9 W) (F.slot rfl) (F.slot rfl) (by omega) (by omega)) (fun _ => trivial) (fun a F => ?_)
        refine sq2 (show Eq (α := OSk) _ (some (some 58, (.load 9 (.tmp 57)), 9, none)) by kernel_rfl) trivial F (by decide) (v := .string b) (x_load1 (Tryd.isAgg9 W) (F.slot rfl) hx) (fun _ => trivial) (fun a F => ?_)
        refine sq2 (W' := W) (show Eq (α := OSk) _ (some (some 14, (.assign (.tmp 58)), 9, none)) by kernel_rfl) trivial F (by decide) (v := .string b) (x_assign (F.slot rfl)) (fun _ => trivial) (fun a F => ?_)
        unfold wpSeq
        refine t_normal ?_
        refine c_seq (by kernel_rfl) ?_
        refine c_text (id := 17) (by kernel_rfl) [(0, 2), (1, 2), (2, 2), (3, 2), (4, 2), (5, 2), (6, 2), (7, 2)] (by kernel_rfl) ?_
        refine sq2 (W' := W) (show Eq (α := OSk) _ (some (some 60, (.move (.tmp 14)), 9, none)) by kernel_rfl) trivial F (by decide) (v := .string b) (x_move (F.slot rfl)) (fun _ => trivial) (fun a F => ?_)
        obtain ⟨k0, f0, t0, am0, nc0, ky0, vl0, rs0, ws0, er, hr⟩ : ∃ a1 a2 a3 a4 a5 a6 a7 a8 a9 a10, dec b = (a1, a2, a3, a4, a5, a6, a7, a8, a9, a10) := ⟨_, _, _, _, _, _, _, _, _, _, rfl⟩
        refine sqc (show Eq (α := OSk) _ (some (some 61, (.call { callee := (.value (.func 25)), args := #[(.tmp 60)], argTypes := #[9] }), 48, none)) by kernel_rfl) trivial F (by decide) (x_call Tryd.func25 (by kernel_rfl) rfl (args_1 (F.slot rfl))) (bdec_tx b W hbs hr) ?_
        rintro e W ⟨A7, c7, A8, c8, rfl, hF7, hl7, hF8, hl8, hB⟩
        refine ⟨_, rfl, fun a F => ?_⟩
        have H := H.freshF hB _ _ (fk_tx (toS (k0, f0, t0, am0, nc0, ky0, vl0, rs0, ws0, er)) hl7 hF7 hl8 hF8) (fun k hk => hk.1)
        have H : St w (fun _ => False) (fun _ => False) [Asn.blk g1 [.int .i64 0, .int .i64 0, .slice none 0 0] 40, Asn.blk g2 [.int .i64 x, .int .i64 y] 87, Asn.rd Kd.string _ A l.length l, Asn.blk g8 [.int .i64 x, .int .i64 y, .slice A1 acc.length c1] 40, Asn.qu k33 33 (.slice A1 acc.length c1) acc ok, Asn.fk k33 _ (toS (k0, f0, t0, am0, nc0, ky0, vl0, rs0, ws0, er)) [.int .i64 k0, .string f0, .string t0, .int .u64 am0, .int .u64 nc0, .string ky0, .string vl0, .slice A7 rs0.length c7, .slice A8 ws0.length c8]] W := H
        refine ⟨(fun _ => trivial), ?_⟩
        refine sq2 (W' := W) (show Eq (α := OSk) _ (some (some 59, (.move (.tmp 61)), 48, none)) by kernel_rfl) trivial F (by decide) (v := .tuple #[.agg #[.int .i64 k0, .string f0, .string t0, .int .u64 am0, .int .u64 nc0, .string ky0, .string vl0, .slice A7 rs0.length c7, .slice A8 ws0.length c8], .int .i64 er]) (x_move (F.slot rfl)) (fun _ => trivial) (fun a F => ?_)
        refine sq2 (W' := W) (show Eq (α := OSk) _ (some (some 62, (.extract (.tmp 59) 0), 33, none)) by kernel_rfl) trivial F (by decide) (v := .agg #[.int .i64 k0, .string f0, .string t0, .int .u64 am0, .int .u64 nc0, .string ky0, .string vl0, .slice A7 rs0.length c7, .slice A8 ws0.length c8]) (x_extract (F.slot rfl) rfl) (fun _ => trivial) (fun a F => ?_)
        refine sq2 (W' := W) (show Eq (α := OSk) _ (some (some 63, (.extract (.tmp 59) 1), 24, none)) by kernel_rfl) trivial F (by decide) (v := .int .i64 er) (x_extract (F.slot rfl) rfl) (fun _ => trivial) (fun a F => ?_)
        refine sq_new (show Eq (α := OSk) _ (some (some 15, (.alloc 33), 0, none)) by kernel_rfl) trivial F (by decide) H [.int .i64 0, .string ⟨#[]⟩, .string ⟨#[]⟩, .int .u64 0, .int .u64 0, .string ⟨#[]⟩, .string ⟨#[]⟩, .slice none 0 0, .slice none 0 0] 33 (x_alloc Tryd.zeroValue33 rfl) ?_
        intro g10 W a hg10 H F
        refine ⟨(fun _ => trivial), ?_⟩
        refine sq_put (M := [Asn.blk g1 [.int .i64 0, .int .i64 0, .slice none 0 0] 40, Asn.blk g2 [.int .i64 x, .int .i64 y] 87, Asn.rd Kd.string _ A l.length l, Asn.blk g8 [.int .i64 x, .int .i64 y, .slice A1 acc.length c1] 40, Asn.qu k33 33 (.slice A1 acc.length c1) acc ok, Asn.fk k33 _ (toS (k0, f0, t0, am0, nc0, ky0, vl0, rs0, ws0, er)) [.int .i64 k0, .string f0, .string t0, .int .u64 am0, .int .u64 nc0, .string ky0, .string vl0, .slice A7 rs0.length c7, .slice A8 ws0.length c8], Asn.blk g10 [.int .i64 k0, .string f0, .string t0, .int .u64 am0, .int .u64 nc0, .string ky0, .string vl0, .slice A7 rs0.length c7, .slice A8 ws0.length c8] 33]) (show Eq (α := OSk) _ (some (none, (.store 33 (.tmp 15) (.tmp 62)), 0, none)) by kernel_rfl) trivial F (x_store H (k := 6) (cs' := [.int .i64 k0, .string f0, .string t0, .int .u64 am0, .int .u64 nc0, .string ky0, .string vl0, .slice A7 rs0.length c7, .slice A8 ws0.length c8]) rfl (Tryd.sizeOf33 W) (F.slot rfl) (F.slot rfl) rfl (Nat.le_of_ble_eq_true rfl) rfl rfl) ?_
        intro W H
        refine ⟨(fun _ => trivial), ?_⟩
        refine sq2 (W' := W) (show Eq (α := OSk) _ (some (some 16, (.assign (.tmp 63)), 24, none)) by kernel_rfl) trivial F (by decide) (v := .int .i64 er) (x_assign (F.slot rfl)) (fun _ => trivial) (fun a F => ?_)
        unfold wpSeq
        refine t_normal ?_
        refine c_seq (by kernel_rfl) ?_
        refine c_seq (by kernel_rfl) ?_
        refine c_text (id := 18) (by kernel_rfl) [(0, 2), (1, 2)] (by kernel_rfl) ?_
        refine sq2 (W' := W) (show Eq (α := OSk) _ (some (some 64, (.move (.tmp 16)), 24, none)) by kernel_rfl) trivial F (by decide) (v := .int .i64 er) (x_move (F.slot rfl)) (fun _ => trivial) (fun a F => ?_)
        refine sq2 (W' := W) (show Eq (α := OSk) _ (some (some 65, (.binOp .neq 24 (.tmp 64) (.const (.int .i64 0)) 24), 4, none)) by kernel_rfl) trivial F (by decide) (v := .bool (er != (0 : Int))) (x_int (F.slot rfl) rfl rfl) (fun _ => trivial) (fun a F => ?_)
        unfold wpSeq
        refine t_normal ?_
        rcases bool_or (er != (0 : Int)) with hb11 | hb11
        · have F := F.at 65 rfl (v' := .bool true) (congrArg Value.bool hb11)
          refine c_yes (c := .tmp 65) (by kernel_rfl) (F.slot rfl) ?_
          refine c_seq (by kernel_rfl) ?_
          refine c_text (id := 19) (by kernel_rfl) [(0, 2), (1, 2), (2, 2), (3, 2)] (by kernel_rfl) ?_
          refine sq2 (W' := W) (show Eq (α := OSk) _ (some (some 66, (.build 40 #[]), 40, none)) by kernel_rfl) trivial F (by decide) (v := .agg #[.int .i64 0, .int .i64 0, .slice none 0 0]) (by simp [ex, execOp, Instr.build, Tryd.zeroValue40, run_underlying Tryd.underlying40, Instr.fill, Value.cells, Tryd.sizeOf3, Tryd.sizeOf38]) (fun _ => trivial) (fun a F => ?_)
          refine sq2 (W' := W) (show Eq (α := OSk) _ (some (some 67, (.move (.tmp 16)), 24, none)) by kernel_rfl) trivial F (by decide) (v := .int .i64 er) (x_move (F.slot rfl)) (fun _ => trivial) (fun a F => ?_)
          refine sq_put (M := [Asn.blk g1 [.int .i64 0, .int .i64 0, .slice none 0 0] 40, Asn.blk g2 [.int .i64 x, .int .i64 y] 87, Asn.rd Kd.string _ A l.length l, Asn.blk g8 [.int .i64 x, .int .i64 y, .slice A1 acc.length c1] 40, Asn.qu k33 33 (.slice A1 acc.length c1) acc ok, Asn.fk k33 _ (toS (k0, f0, t0, am0, nc0, ky0, vl0, rs0, ws0, er)) [.int .i64 k0, .string f0, .string t0, .int .u64 am0, .int .u64 nc0, .string ky0, .string vl0, .slice A7 rs0.length c7, .slice A8 ws0.length c8], Asn.blk g10 [.int .i64 k0, .string f0, .string t0, .int .u64 am0, .int .u64 nc0, .string ky0, .string vl0, .slice A7 rs0.length c7, .slice A8 ws0.length c8] 33]) (show Eq (α := OSk) _ (some (none, (.store 40 (.tmp 2) (.tmp 66)), 0, none)) by kernel_rfl) trivial F (x_store H (k := 0) (cs' := [.int .i64 0, .int .i64 0, .slice none 0 0]) rfl (Tryd.sizeOf40 W) (F.slot rfl) (F.slot rfl) rfl (Nat.le_of_ble_eq_true rfl) rfl rfl) ?_
          intro W H
          refine ⟨(fun _ => trivial), ?_⟩
          refine sq2 (W' := W) (show Eq (α := OSk) _ (some (some 3, (.assign (.tmp 67)), 24, none)) by kernel_rfl) trivial F (by decide) (v := .int .i64 er) (x_assign (F.slot rfl)) (fun _ => trivial) (fun a F => ?_)
          unfold wpSeq
          refine t_normal ?_
          refine c_ret (by kernel_rfl) ?_
          refine t_ret ?_
          refine b_ret ?_
          refine t_ret ?_
          refine t_ret ?_
          refine b_ret ?_
          refine t_ret ?_
          refine p_list (rs := [.cell 2 40, .tmp 3]) (vs := [.agg #[.int .i64 0, .int .i64 0, .slice none 0 0], .int .i64 er]) Tryd.results28 (by simp) F (Vals.cell' F rfl (H.blk 0 rfl) Tryd.underlying40 rfl (by kernel_rfl) (Vals.tmp' F rfl .nil)) ?_
          have hz : er ≠ 0 := by simpa using hb11
          have hn : errD (k0, f0, t0, am0, nc0, ky0, vl0, rs0, ws0, er) ≠ 0 := hz
          have HF : bdec s0 = bnil er := by rw [HF, HD, hd, dall, hr, if_neg hn]; exact if_neg hz
          rw [HF]
          exact ⟨none, 0, rfl, Nat.le_refl _, fun _ _ => Kd.C_nil _ _, H.ends⟩
        · have F := F.at 65 rfl (v' := .bool false) (congrArg Value.bool hb11)
          refine c_no (c := .tmp 65) (by kernel_rfl) (F.slot rfl) ?_
          refine c_skip (by kernel_rfl) ?_
          refine t_normal ?_
          obtain rfl : er = 0 := by simpa using hb11
          have HD : dall l = ((acc ++ [(toS (k0, f0, t0, am0, nc0, ky0, vl0, rs0, ws0, 0))]) ++ (dall (l.drop (j + 1))).1, (dall (l.drop (j + 1))).2) := by
            rw [HD, hd, dall, hr, if_pos (show errD _ = 0 from rfl), List.append_assoc]; rfl
          refine c_text (id := 20) (by kernel_rfl) [(0, 2), (1, 2), (2, 2), (3, 2), (4, 2), (5, 2), (6, 2)] (by kernel_rfl) ?_
          refine sq2 (W' := W) (show Eq (α := OSk) _ (some (some 68, (.fieldAddr 40 (.tmp 12) 2), 0, none)) by kernel_rfl) trivial F (by decide) (v := .pointer (some ⟨g8, 2, none⟩)) (x_field0 Tryd.underlying40 rfl rfl (Tryd.sizeOf38 W) (F.slot rfl)) (fun _ => trivial) (fun a F => ?_)
          refine sq2 (show Eq (α := OSk) _ (some (some 69, (.load 38 (.tmp 68)), 38, none)) by kernel_rfl) trivial F (by decide) (v := .slice A1 acc.length c1) (x_load1 (Tryd.isAgg38 W) (F.slot rfl) (H.cell 3 rfl rfl)) (fun _ => trivial) (fun a F => ?_)
          refine sq2 (show Eq (α := OSk) _ (some (some 70, (.load 33 (.tmp 15)), 33, none)) by kernel_rfl) trivial F (by decide) (v := .agg #[.int .i64 k0, .string f0, .string t0, .int .u64 am0, .int .u64 nc0, .string ky0, .string vl0, .slice A7 rs0.length c7, .slice A8 ws0.length c8]) (x_loadB (Tryd.isAgg33 W) [.int .i64 k0, .string f0, .string t0, .int .u64 am0, .int .u64 nc0, .string ky0, .string vl0, .slice A7 rs0.length c7, .slice A8 ws0.length c8] (Tryd.sizeOf33 W) (F.slot rfl) (H.blk 6 rfl)) (fun _ => trivial) (fun a F => ?_)
          refine sq_bapp k33 4 5 (by decide) (show Eq (α := OSk) _ (some (some 71, (.buildSlice 38 1 #[(0, (.tmp 70))]), 38, none)) by kernel_rfl) trivial (show Eq (α := OSk) _ (some (some 72, (.call { callee := (.builtin .append), args := #[(.tmp 69), (.tmp 71)], argTypes := #[38, 38] }), 38, none)) by kernel_rfl) (fun _ => trivial) F (by decide) (by decide) rfl (fun a F => F.slot rfl) (F.slot rfl) rfl Tryd.underlying38 PB.info33 rfl (by decide) (by decide) (by decide) H rfl rfl (by omega) (fun W H => (fun _ => trivial)) ?_
          intro v_ W a H F
          obtain ⟨A2, c2, rfl, hc2⟩ := (H.qu 4 rfl).form
          have H : St w (fun _ => False) (fun _ => False) [Asn.blk g1 [.int .i64 0, .int .i64 0, .slice none 0 0] 40, Asn.blk g2 [.int .i64 x, .int .i64 y] 87, Asn.rd Kd.string _ A l.length l, Asn.blk g8 [.int .i64 x, .int .i64 y, .slice A1 acc.length c1] 40, Asn.qu k33 33 (.slice A2 (acc ++ [(toS (k0, f0, t0, am0, nc0, ky0, vl0, rs0, ws0, 0))]).length c2) (acc ++ [(toS (k0, f0, t0, am0, nc0, ky0, vl0, rs0, ws0, 0))]) _, Asn.fk k33 _ (toS (k0, f0, t0, am0, nc0, ky0, vl0, rs0, ws0, 0)) [.int .i64 k0, .string f0, .string t0, .int .u64 am0, .int .u64 nc0, .string ky0, .string vl0, .slice A7 rs0.length c7, .slice A8 ws0.length c8], Asn.blk g10 [.int .i64 k0, .string f0, .string t0, .int .u64 am0, .int .u64 nc0, .string ky0, .string vl0, .slice A7 rs0.length c7, .slice A8 ws0.length c8] 33] W := H
          refine ⟨(fun _ => trivial), ?_⟩
          refine sq2 (W' := W) (show Eq (α := OSk) _ (some (some 73, (.fieldAddr 40 (.tmp 12) 2), 0, none)) by kernel_rfl) trivial F (by decide) (v := .pointer (some ⟨g8, 2, none⟩)) (x_field0 Tryd.underlying40 rfl rfl (Tryd.sizeOf38 W) (F.slot rfl)) (fun _ => trivial) (fun a F => ?_)
          refine sq_put (M := [Asn.blk g1 [.int .i64 0, .int .i64 0, .slice none 0 0] 40, Asn.blk g2 [.int .i64 x, .int .i64 y] 87, Asn.rd Kd.string _ A l.length l, Asn.blk g8 [.int .i64 x, .int .i64 y, .slice A2 ((acc ++ [(toS (k0, f0, t0, am0, nc0, ky0, vl0, rs0, ws0, 0))]).length) c2] 40, Asn.qu k33 33 (.slice A2 (acc ++ [(toS (k0, f0, t0, am0, nc0, ky0, vl0, rs0, ws0, 0))]).length c2) (acc ++ [(toS (k0, f0, t0, am0, nc0, ky0, vl0, rs0, ws0, 0))]) _, Asn.fk k33 _ (toS (k0, f0, t0, am0, nc0, ky0, vl0, rs0, ws0, 0)) [.int .i64 k0, .string f0, .string t0, .int .u64 am0, .int .u64 nc0, .string ky0, .string vl0, .slice A7 rs0.length c7, .slice A8 ws0.length c8], Asn.blk g10 [.int .i64 k0, .string f0, .string t0, .int .u64 am0, .int .u64 nc0, .string ky0, .string vl0, .slice A7 rs0.length c7, .slice A8 ws0.length c8] 33]) (show Eq (α := OSk) _ (some (none, (.store 38 (.tmp 73) (.tmp 72)), 0, none)) by kernel_rfl) trivial F (x_store H (k := 3) (cs' := [.int .i64 x, .int .i64 y, .slice A2 ((acc ++ [(toS (k0, f0, t0, am0, nc0, ky0, vl0, rs0, ws0, 0))]).length) c2]) rfl (Tryd.sizeOf38 W) (F.slot rfl) (F.slot rfl) rfl (Nat.le_of_ble_eq_true rfl) rfl rfl) ?_
          intro W H
          refine ⟨(fun _ => trivial), ?_⟩
          unfold wpSeq
          refine b_normal ?_
          refine t_normal ?_
          have H := H.front 5
          have H : St w (fun _ => False) (fun _ => False) [Asn.blk g1 [.int .i64 0, .int .i64 0, .slice none 0 0] 40, Asn.blk g2 [.int .i64 x, .int .i64 y] 87, Asn.rd Kd.string _ A l.length l, Asn.blk g8 [.int .i64 x, .int .i64 y, .slice A2 ((acc ++ [(toS (k0, f0, t0, am0, nc0, ky0, vl0, rs0, ws0, 0))]).length) c2] 40, Asn.qu k33 33 (.slice A2 (acc ++ [(toS (k0, f0, t0, am0, nc0, ky0, vl0, rs0, ws0, 0))]).length c2) (acc ++ [(toS (k0, f0, t0, am0, nc0, ky0, vl0, rs0, ws0, 0))]) _] W := H
          refine c_text (id := 21) (by kernel_rfl) [(0, 2), (1, 2)] (by kernel_rfl) ?_
          refine sq2 (W' := W) (show Eq (α := OSk) _ (some (some 74, (.binOp .add 3 (.tmp 55) (.const (.int .i64 1)) 3), 3, none)) by kernel_rfl) trivial F (by decide) (v := .int .i64 (IntKind.i64.wrap ((j : Int) + 1))) (x_int (F.slot rfl) rfl rfl) (fun _ => trivial) (fun a F => ?_)
          refine sq2 (W' := W) (show Eq (α := OSk) _ (some (some 55, (.move (.tmp 74)), 3, none)) by kernel_rfl) trivial F (by decide) (v := .int .i64 (IntKind.i64.wrap ((j : Int) + 1))) (x_move (F.slot rfl)) (fun _ => trivial) (fun a F => ?_)
          unfold wpSeq
          refine t_normal ?_
          have F_ := F
          have F := F.at 55 rfl (v' := .int .i64 ((j + 1 : Nat) : Int)) (congrArg (Value.int .i64) ((wrap_i64 _ (by omega) (by omega)).trans (by omega)))
          have F := F.at 53 rfl (v' := .slice A l.length c) (by rw [hA])
          exact ⟨k - 1, by omega, j + 1, _, _, _, _, F.less _ (subc rfl (subc rfl (subc rfl (subc rfl (subc rfl (subc rfl (subc rfl (subc rfl (subc rfl (subc rfl (subc rfl (subc rfl (subc rfl (subc rfl (subc rfl (subc rfl (subc rfl (subc rfl (subc rfl (subc rfl (subc rfl (subc rfl (subc rfl (subc rfl (subc rfl sub0))))))))))))))))))))))))), H, (by omega), (by omega), (by simp [hacc]), HD⟩
      · have hb9d := of_decide_eq_false hb9
        have F := F.at 56 rfl (v' := .bool false) (congrArg Value.bool hb9)
        refine c_no (c := .tmp 56) (by kernel_rfl) (F.slot rfl) ?_
        refine c_exit (id := 2) (by kernel_rfl) ?_
        refine t_exit ?_
        refine t_exit ?_
        refine b_here ?_
        refine t_normal ?_
        refine c_seq (by kernel_rfl) ?_
        refine c_block (id := 4) (by kernel_rfl) ?_
        refine c_seq (by kernel_rfl) ?_
        refine c_text (id := 22) (by kernel_rfl) [(0, 2), (1, 2), (2, 2), (3, 2), (4, 2)] (by kernel_rfl) ?_
        refine sq2 (W' := W) (show Eq (α := OSk) _ (some (some 76, (.move (.tmp 0)), 9, none)) by kernel_rfl) trivial F (by decide) (v := .string s) (x_move (F.slot rfl)) (fun _ => trivial) (fun a F => ?_)
        refine sq2 (W' := W) (show Eq (α := OSk) _ (some (some 77, (.call { callee := (.builtin .len), args := #[(.tmp 76)], argTypes := #[9] }), 3, none)) by kernel_rfl) trivial F (by decide) (v := .int .i64 (s.size : Int)) (x_lenS Tryd.underlying9 (F.slot rfl)) (fun _ => trivial) (fun a F => ?_)
        refine sq2 (W' := W) (show Eq (α := OSk) _ (some (some 78, (.move (.tmp 10)), 3, none)) by kernel_rfl) trivial F (by decide) (v := .int .i64 k1) (x_move (F.slot rfl)) (fun _ => trivial) (fun a F => ?_)
        refine sq2 (W' := W) (show Eq (α := OSk) _ (some (some 79, (.binOp .gtr 3 (.tmp 77) (.tmp 78) 3), 4, none)) by kernel_rfl) trivial F (by decide) (v := .bool (decide ((s.size : Int) > k1))) (x_int (F.slot rfl) (F.slot rfl) rfl) (fun _ => trivial) (fun a F => ?_)
        refine sq2 (W' := W) (show Eq (α := OSk) _ (some (some 75, (.assign (.tmp 79)), 4, none)) by kernel_rfl) trivial F (by decide) (v := .bool (decide ((s.size : Int) > k1))) (x_assign (F.slot rfl)) (fun _ => trivial) (fun a F => ?_)
        unfold wpSeq
        refine t_normal ?_
        rcases bool_or (decide ((s.size : Int) > k1)) with hb12 | hb12
        · have hb12d := of_decide_eq_true hb12
          have F := F.at 75 rfl (v' := .bool true) (congrArg Value.bool hb12)
          refine c_yes (c := .tmp 75) (by kernel_rfl) (F.slot rfl) ?_
          refine c_seq (by kernel_rfl) ?_
          refine c_text (id := 23) (by kernel_rfl) [(0, 2), (1, 2), (2, 2)] (by kernel_rfl) ?_
          refine sq2 (W' := W) (show Eq (α := OSk) _ (some (some 80, (.build 40 #[]), 40, none)) by kernel_rfl) trivial F (by decide) (v := .agg #[.int .i64 0, .int .i64 0, .slice none 0 0]) (by simp [ex, execOp, Instr.build, Tryd.zeroValue40, run_underlying Tryd.underlying40, Instr.fill, Value.cells, Tryd.sizeOf3, Tryd.sizeOf38]) (fun _ => trivial) (fun a F => ?_)
          refine sq_put (M := [Asn.blk g1 [.int .i64 0, .int .i64 0, .slice none 0 0] 40, Asn.blk g2 [.int .i64 x, .int .i64 y] 87, Asn.rd Kd.string _ A l.length l, Asn.blk g8 [.int .i64 x, .int .i64 y, .slice A1 acc.length c1] 40, Asn.qu k33 33 (.slice A1 acc.length c1) acc ok]) (show Eq (α := OSk) _ (some (none, (.store 40 (.tmp 2) (.tmp 80)), 0, none)) by kernel_rfl) trivial F (x_store H (k := 0) (cs' := [.int .i64 0, .int .i64 0, .slice none 0 0]) rfl (Tryd.sizeOf40 W) (F.slot rfl) (F.slot rfl) rfl (Nat.le_of_ble_eq_true rfl) rfl rfl) ?_
          intro W H
          refine ⟨(fun _ => trivial), ?_⟩
          refine sq2 (W' := W) (show Eq (α := OSk) _ (some (some 3, (.assign (.const (.int .i64 6))), 24, none)) by kernel_rfl) trivial F (by decide) (v := .int .i64 6) (x_assign rfl) (fun _ => trivial) (fun a F => ?_)
          unfold wpSeq
          refine t_normal ?_
          refine c_ret (by kernel_rfl) ?_
          refine b_ret ?_
          refine t_ret ?_
          refine p_list (rs := [.cell 2 40, .tmp 3]) (vs := [.agg #[.int .i64 0, .int .i64 0, .slice none 0 0], .int .i64 6]) Tryd.results28 (by simp) F (Vals.cell' F rfl (H.blk 0 rfl) Tryd.underlying40 rfl (by kernel_rfl) (Vals.tmp' F rfl .nil)) ?_
          obtain rfl : j = l.length := by omega
          have hD : dall l = (acc, 0) := by rw [HD, List.drop_eq_nil_of_le (Nat.le_refl _)]; simp [dall]
          rw [HF, hD]
          rw [show bfin x y s k1 (acc, 0) = bnil 6 from (if_pos rfl).trans (if_pos (by omega))]
          exact ⟨none, 0, rfl, Nat.le_refl _, fun _ _ => Kd.C_nil _ _, H.ends⟩
        · have hb12d := of_decide_eq_false hb12
          have F := F.at 75 rfl (v' := .bool false) (congrArg Value.bool hb12)
          refine c_no (c := .tmp 75) (by kernel_rfl) (F.slot rfl) ?_
          refine c_seq (by kernel_rfl) ?_
          refine c_text (id := 24) (by kernel_rfl) [(0, 2), (1, 2), (2, 2), (3, 2)] (by kernel_rfl) ?_
          refine sq2 (W' := W) (show Eq (α := OSk) _ (some (some 82, (.fieldAddr 40 (.tmp 12) 0), 0, none)) by kernel_rfl) trivial F (by decide) (v := .pointer (some ⟨g8, 0, none⟩)) (x_field0 Tryd.underlying40 rfl rfl (Tryd.sizeOf3 W) (F.slot rfl)) (fun _ => trivial) (fun a F => ?_)
          refine sq2 (show Eq (α := OSk) _ (some (some 83, (.load 3 (.tmp 82)), 3, none)) by kernel_rfl) trivial F (by decide) (v := .int .i64 x) (x_load1 (Tryd.isAgg3 W) (F.slot rfl) (H.cell 3 rfl rfl)) (fun _ => trivial) (fun a F => ?_)
          refine sq2 (W' := W) (show Eq (α := OSk) _ (some (some 84, (.binOp .gtr 3 (.tmp 83) (.const (.int .i64 6)) 3), 4, none)) by kernel_rfl) trivial F (by decide) (v := .bool (decide (x > (6 : Int)))) (x_int (F.slot rfl) rfl rfl) (fun _ => trivial) (fun a F => ?_)
          refine sq2 (W' := W) (show Eq (α := OSk) _ (some (some 81, (.assign (.tmp 84)), 4, none)) by kernel_rfl) trivial F (by decide) (v := .bool (decide (x > (6 : Int)))) (x_assign (F.slot rfl)) (fun _ => trivial) (fun a F => ?_)
          unfold wpSeq
          refine t_normal ?_
          rcases bool_or (decide (x > (6 : Int))) with hb13 | hb13
          · have hb13d := of_decide_eq_true hb13
            have F := F.at 81 rfl (v' := .bool true) (congrArg Value.bool hb13)
            refine c_yes (c := .tmp 81) (by kernel_rfl) (F.slot rfl) ?_
            refine c_seq (by kernel_rfl) ?_
            refine c_text (id := 25) (by kernel_rfl) [(0, 2), (1, 2), (2, 2)] (by kernel_rfl) ?_
            refine sq2 (W' := W) (show Eq (α := OSk) _ (some (some 85, (.build 40 #[]), 40, none)) by kernel_rfl) trivial F (by decide) (v := .agg #[.int .i64 0, .int .i64 0, .slice none 0 0]) (by simp [ex, execOp, Instr.build, Tryd.zeroValue40, run_underlying Tryd.underlying40, Instr.fill, Value.cells, Tryd.sizeOf3, Tryd.sizeOf38]) (fun _ => trivial) (fun a F => ?_)
            refine sq_put (M := [Asn.blk g1 [.int .i64 0, .int .i64 0, .slice none 0 0] 40, Asn.blk g2 [.int .i64 x, .int .i64 y] 87, Asn.rd Kd.string _ A l.length l, Asn.blk g8 [.int .i64 x, .int .i64 y, .slice A1 acc.length c1] 40, Asn.qu k33 33 (.slice A1 acc.length c1) acc ok]) (show Eq (α := OSk) _ (some (none, (.store 40 (.tmp 2) (.tmp 85)), 0, none)) by kernel_rfl) trivial F (x_store H (k := 0) (cs' := [.int .i64 0, .int .i64 0, .slice none 0 0]) rfl (Tryd.sizeOf40 W) (F.slot rfl) (F.slot rfl) rfl (Nat.le_of_ble_eq_true rfl) rfl rfl) ?_
            intro W H
            refine ⟨(fun _ => trivial), ?_⟩
            refine sq2 (W' := W) (show Eq (α := OSk) _ (some (some 3, (.assign (.const (.int .i64 2))), 24, none)) by kernel_rfl) trivial F (by decide) (v := .int .i64 2) (x_assign rfl) (fun _ => trivial) (fun a F => ?_)
            unfold wpSeq
            refine t_normal ?_
            refine c_ret (by kernel_rfl) ?_
            refine b_ret ?_
            refine t_ret ?_
            refine p_list (rs := [.cell 2 40, .tmp 3]) (vs := [.agg #[.int .i64 0, .int .i64 0, .slice none 0 0], .int .i64 2]) Tryd.results28 (by simp) F (Vals.cell' F rfl (H.blk 0 rfl) Tryd.underlying40 rfl (by kernel_rfl) (Vals.tmp' F rfl .nil)) ?_
            obtain rfl : j = l.length := by omega
            have hD : dall l = (acc, 0) := by rw [HD, List.drop_eq_nil_of_le (Nat.le_refl _)]; simp [dall]
            rw [HF, hD]
            rw [show bfin x y s k1 (acc, 0) = bnil 2 from (if_pos rfl).trans ((if_neg (by omega)).trans (if_pos (by omega)))]
            exact ⟨none, 0, rfl, Nat.le_refl _, fun _ _ => Kd.C_nil _ _, H.ends⟩
          · have hb13d := of_decide_eq_false hb13
            have F := F.at 81 rfl (v' := .bool false) (congrArg Value.bool hb13)
            refine c_no (c := .tmp 81) (by kernel_rfl) (F.slot rfl) ?_
            refine c_skip (by kernel_rfl) ?_
            refine b_normal ?_
            refine t_normal ?_
            refine c_seq (by kernel_rfl) ?_
            refine c_seq (by kernel_rfl) ?_
            refine c_text (id := 26) (by kernel_rfl) [(0, 2), (1, 2), (2, 2)] (by kernel_rfl) ?_
            refine sq2 (show Eq (α := OSk) _ (some (some 86, (.load 40 (.tmp 12)), 40, none)) by kernel_rfl) trivial F (by decide) (v := .agg #[.int .i64 x, .int .i64 y, .slice A1 acc.length c1]) (x_loadB (Tryd.isAgg40 W) [.int .i64 x, .int .i64 y, .slice A1 acc.length c1] (Tryd.sizeOf40 W) (F.slot rfl) (H.blk 3 rfl)) (fun _ => trivial) (fun a F => ?_)
            obtain ⟨z2, hz2⟩ : ∃ z, bchk x y acc = z := ⟨_, rfl⟩
            have HK := bchk_calls x y A1 c1 acc W (by omega) (H.qu 4 rfl).read.2.2 (H.qu 4 rfl).read.2.1
            rw [hz2] at HK
            refine sqc (show Eq (α := OSk) _ (some (some 87, (.call { callee := (.value (.func 33)), args := #[(.tmp 86)], argTypes := #[40] }), 24, none)) by kernel_rfl) trivial F (by decide) (x_call Tryd.func33 (by kernel_rfl) rfl (args_1 (F.slot rfl))) (HK) ?_
            rintro e W ⟨rfl, hB⟩
            refine ⟨_, rfl, fun a F => ?_⟩
            have H := H.below hB
            refine ⟨(fun _ => trivial), ?_⟩
            refine sq2 (W' := W) (show Eq (α := OSk) _ (some (some 17, (.assign (.tmp 87)), 24, none)) by kernel_rfl) trivial F (by decide) (v := .int .i64 z2) (x_assign (F.slot rfl)) (fun _ => trivial) (fun a F => ?_)
            unfold wpSeq
            refine t_normal ?_
            refine c_seq (by kernel_rfl) ?_
            refine c_text (id := 27) (by kernel_rfl) [(0, 2), (1, 2)] (by kernel_rfl) ?_
            refine sq2 (W' := W) (show Eq (α := OSk) _ (some (some 88, (.move (.tmp 17)), 24, none)) by kernel_rfl) trivial F (by decide) (v := .int .i64 z2) (x_move (F.slot rfl)) (fun _ => trivial) (fun a F => ?_)
            refine sq2 (W' := W) (show Eq (α := OSk) _ (some (some 89, (.binOp .neq 24 (.tmp 88) (.const (.int .i64 0)) 24), 4, none)) by kernel_rfl) trivial F (by decide) (v := .bool (z2 != (0 : Int))) (x_int (F.slot rfl) rfl rfl) (fun _ => trivial) (fun a F => ?_)
            unfold wpSeq
            refine t_normal ?_
            rcases bool_or (z2 != (0 : Int)) with hb14 | hb14
            · have F := F.at 89 rfl (v' := .bool true) (congrArg Value.bool hb14)
              refine c_yes (c := .tmp 89) (by kernel_rfl) (F.slot rfl) ?_
              refine c_seq (by kernel_rfl) ?_
              refine c_text (id := 28) (by kernel_rfl) [(0, 2), (1, 2), (2, 2), (3, 2)] (by kernel_rfl) ?_
              refine sq2 (W' := W) (show Eq (α := OSk) _ (some (some 90, (.build 40 #[]), 40, none)) by kernel_rfl) trivial F (by decide) (v := .agg #[.int .i64 0, .int .i64 0, .slice none 0 0]) (by simp [ex, execOp, Instr.build, Tryd.zeroValue40, run_underlying Tryd.underlying40, Instr.fill, Value.cells, Tryd.sizeOf3, Tryd.sizeOf38]) (fun _ => trivial) (fun a F => ?_)
              refine sq2 (W' := W) (show Eq (α := OSk) _ (some (some 91, (.move (.tmp 17)), 24, none)) by kernel_rfl) trivial F (by decide) (v := .int .i64 z2) (x_move (F.slot rfl)) (fun _ => trivial) (fun a F => ?_)
              refine sq_put (M := [Asn.blk g1 [.int .i64 0, .int .i64 0, .slice none 0 0] 40, Asn.blk g2 [.int .i64 x, .int .i64 y] 87, Asn.rd Kd.string _ A l.length l, Asn.blk g8 [.int .i64 x, .int .i64 y, .slice A1 acc.length c1] 40, Asn.qu k33 33 (.slice A1 acc.length c1) acc ok]) (show Eq (α := OSk) _ (some (none, (.store 40 (.tmp 2) (.tmp 90)), 0, none)) by kernel_rfl) trivial F (x_store H (k := 0) (cs' := [.int .i64 0, .int .i64 0, .slice none 0 0]) rfl (Tryd.sizeOf40 W) (F.slot rfl) (F.slot rfl) rfl (Nat.le_of_ble_eq_true rfl) rfl rfl) ?_
              intro W H
              refine ⟨(fun _ => trivial), ?_⟩
              refine sq2 (W' := W) (show Eq (α := OSk) _ (some (some 3, (.assign (.tmp 91)), 24, none)) by kernel_rfl) trivial F (by decide) (v := .int .i64 z2) (x_assign (F.slot rfl)) (fun _ => trivial) (fun a F => ?_)
              unfold wpSeq
              refine t_normal ?_
              refine c_ret (by kernel_rfl) ?_
              refine t_ret ?_
              refine p_list (rs := [.cell 2 40, .tmp 3]) (vs := [.agg #[.int .i64 0, .int .i64 0, .slice none 0 0], .int .i64 z2]) Tryd.results28 (by simp) F (Vals.cell' F rfl (H.blk 0 rfl) Tryd.underlying40 rfl (by kernel_rfl) (Vals.tmp' F rfl .nil)) ?_
              obtain rfl : j = l.length := by omega
              have hD : dall l = (acc, 0) := by rw [HD, List.drop_eq_nil_of_le (Nat.le_refl _)]; simp [dall]
              rw [HF, hD]
              have hz : z2 ≠ 0 := by simpa using hb14
              rw [show bfin x y s k1 (acc, 0) = bnil z2 from (if_pos rfl).trans ((if_neg (by omega)).trans ((if_neg (by omega)).trans ((if_neg (by rw [hz2]; exact hz)).trans (by rw [hz2]))))]
              exact ⟨none, 0, rfl, Nat.le_refl _, fun _ _ => Kd.C_nil _ _, H.ends⟩
            · have F := F.at 89 rfl (v' := .bool false) (congrArg Value.bool hb14)
              refine c_no (c := .tmp 89) (by kernel_rfl) (F.slot rfl) ?_
              refine c_skip (by kernel_rfl) ?_
              refine t_normal ?_
              refine c_seq (by kernel_rfl) ?_
              refine c_text (id := 29) (by kernel_rfl) [(0, 2), (1, 2), (2, 2)] (by kernel_rfl) ?_
              refine sq2 (show Eq (α := OSk) _ (some (some 92, (.load 40 (.tmp 12)), 40, none)) by kernel_rfl) trivial F (by decide) (v := .agg #[.int .i64 x, .int .i64 y, .slice A1 acc.length c1]) (x_loadB (Tryd.isAgg40 W) [.int .i64 x, .int .i64 y, .slice A1 acc.length c1] (Tryd.sizeOf40 W) (F.slot rfl) (H.blk 3 rfl)) (fun _ => trivial) (fun a F => ?_)
              refine sq_put (M := [Asn.blk g1 [.int .i64 x, .int .i64 y, .slice A1 acc.length c1] 40, Asn.blk g2 [.int .i64 x, .int .i64 y] 87, Asn.rd Kd.string _ A l.length l, Asn.blk g8 [.int .i64 x, .int .i64 y, .slice A1 acc.length c1] 40, Asn.qu k33 33 (.slice A1 acc.length c1) acc ok]) (show Eq (α := OSk) _ (some (none, (.store 40 (.tmp 2) (.tmp 92)), 0, none)) by kernel_rfl) trivial F (x_store H (k := 0) (cs' := [.int .i64 x, .int .i64 y, .slice A1 acc.length c1]) rfl (Tryd.sizeOf40 W) (F.slot rfl) (F.slot rfl) rfl (Nat.le_of_ble_eq_true rfl) rfl rfl) ?_
              intro W H
              refine ⟨(fun _ => trivial), ?_⟩
              refine sq2 (W' := W) (show Eq (α := OSk) _ (some (some 3, (.assign (.const (.int .i64 0))), 24, none)) by kernel_rfl) trivial F (by decide) (v := .int .i64 0) (x_assign rfl) (fun _ => trivial) (fun a F => ?_)
              unfold wpSeq
              refine t_normal ?_
              refine c_ret (by kernel_rfl) ?_
              refine p_list (rs := [.cell 2 40, .tmp 3]) (vs := [.agg #[.int .i64 x, .int .i64 y, .slice A1 acc.length c1], .int .i64 0]) Tryd.results28 (by simp) F (Vals.cell' F rfl (H.blk 0 rfl) Tryd.underlying40 rfl (by kernel_rfl) (Vals.tmp' F rfl .nil)) ?_
              obtain rfl : j = l.length := by omega
              have hD : dall l = (acc, 0) := by rw [HD, List.drop_eq_nil_of_le (Nat.le_refl _)]; simp [dall]
              rw [HF, hD]
              have hz : z2 = 0 := by simpa using hb14
              rw [show bfin x y s k1 (acc, 0) = (x, y, acc, 0) from (if_pos rfl).trans ((if_neg (by omega)).trans ((if_neg (by omega)).trans (if_pos (hz2.trans hz))))]
              exact ⟨A1, c1, rfl, (H.qu 4 rfl).read.2.1, H.quFresh 4 rfl, H.ends⟩
end Go.Proofs.YtndicjikjcifaaaDoor

/- tuskref05.Decode. -/
namespace Go.Proofs.YtndicjikjcifaaaDoor
open Go.RowKit Go.Proofs.YtndicjikjcifaaaDoorW.PrintWords Go.Proofs.YtndicjikjcifaaaDoorW.PrintLast
set_option linter.unusedVariables false
set_option linter.unusedSimpArgs false
set_option maxRecDepth 100000
open PB (S33 k33)
end Go.Proofs.YtndicjikjcifaaaDoor

/- BatchReads. -/
namespace Go.Proofs.YtndicjikjcifaaaDoor
open Go.RowKit Go.Proofs.YtndicjikjcifaaaDoorW.PrintWords Go.Proofs.YtndicjikjcifaaaDoorW.PrintLast
set_option linter.unusedVariables false
set_option linter.unusedSimpArgs false
set_option maxRecDepth 100000
open PB (S33 k33)
theorem bdec_c {s : ByteArray} {w : World} (hs : s.size < 4611686018427387904) {a n : Int} {l : List S33} {er : Int} (hr : bdec s = (a, n, l, er)) : Calls Tryd.prog 28 #[.string s] w fun e w' => ∃ A c, e = .returned (.tuple #[.agg #[.int .i64 a, .int .i64 n, .slice A l.length c], .int .i64 er]) ∧ l.length ≤ c ∧ Foot (fun W => k33.C W A l.length l) w' (fun k => w.heap.size ≤ k ∧ k < w'.heap.size) ∧ Below w.heap.size w w' := by
  have := bdec_calls s w hs
  rw [hr] at this
  exact this
end Go.Proofs.YtndicjikjcifaaaDoor

/- What the laws' works() rests on; batch.Encode and batch.Decode of a batch that is right. -/
namespace Go.Proofs.YtndicjikjcifaaaDoor
open Go.RowKit Go.Proofs.YtndicjikjcifaaaDoorW.PrintWords Go.Proofs.YtndicjikjcifaaaDoorW.PrintLast
open PB (S33 k33)
set_option linter.unusedVariables false
set_option linter.unusedSimpArgs false
theorem benc_ok (au n : Int) (A : Option Addr) (c : Nat) (l : List S33) (w : World) (hr : k33.C w A l.length l) (hc : l.length ≤ c) (hp : ∀ t ∈ l, 0 ≤ t.f3 ∧ 0 ≤ t.f4) (hb : bchk au n l = 0) :
    Calls Tryd.prog 31 #[.agg #[.int .i64 au, .int .i64 n, .slice A l.length c]] w fun e w' => e = .returned (.tuple #[.string (bencB au n l), .int .i64 0]) ∧ Below w.heap.size w w' := by
  have h16 := (bchk_ok hb).2.2.2.2.2.1
  have := benc_calls' au n A c l w hr hc (by omega) hp
  rw [show benc au n l = (bencB au n l, 0) from if_pos hb] at this
  exact this
theorem bencB_size {au n : Int} {l : List S33} (hb : bchk au n l = 0) : (bencB au n l).size ≤ 30000 := by
  have := benc_size au n l
  rw [show benc au n l = (bencB au n l, 0) from if_pos hb] at this
  exact this
theorem bdec_ok {au n : Int} {l : List S33} (w : World) (hb : bchk au n l = 0) (hp : ∀ t ∈ l, 0 ≤ t.f3 ∧ 0 ≤ t.f4) :
    Calls Tryd.prog 28 #[.string (bencB au n l)] w fun e w' => ∃ A c, e = .returned (.tuple #[.agg #[.int .i64 au, .int .i64 n, .slice A l.length c], .int .i64 0]) ∧ l.length ≤ c ∧ Foot (fun W => k33.C W A l.length l) w' (fun k => w.heap.size ≤ k ∧ k < w'.heap.size) ∧ Below w.heap.size w w' :=
  bdec_c (by have := bencB_size hb; omega) (bdec_enc hb hp)
theorem pay_lims (n : Int) (h0 : 0 ≤ n) : 0 ≤ (payT n).f3 ∧ 0 ≤ (payT n).f4 := ⟨(by decide : (0 : Int) ≤ 5), h0⟩
def L3 : List S33 := (([] ++ [payT 1]) ++ [payT 2]) ++ [payT 3]
theorem L3_take : L3.take 2 = [payT 1, payT 2] := rfl
theorem L3_chk : bchk 1 (0 + 1) (L3.take 2) = 0 := by
  have h1 := ch_payT 1 (by decide)
  have h2 := ch_payT 2 (by decide)
  rw [L3_take]
  simp [bchk, bchL, h1, h2]
theorem L3_pos : ∀ t ∈ L3.take 2, 0 ≤ t.f3 ∧ 0 ≤ t.f4 := by
  rw [L3_take]
  intro t ht
  rcases List.mem_cons.1 ht with rfl | ht
  · exact pay_lims 1 (by decide)
  · rw [List.mem_singleton.1 ht]; exact pay_lims 2 (by decide)
theorem L3_len : ∀ t ∈ L3.take 2, LenT t := fun t ht => chT_len ((bchk_ok L3_chk).2.2.2.2.2.2 t ht)
end Go.Proofs.YtndicjikjcifaaaDoor

/- tusklaw05.works. -/
namespace Go.Proofs.YtndicjikjcifaaaDoor
open Go.RowKit Go.Proofs.YtndicjikjcifaaaDoorW.PrintWords Go.Proofs.YtndicjikjcifaaaDoorW.PrintLast
set_option linter.unusedVariables false
set_option linter.unusedSimpArgs false
set_option maxRecDepth 100000
open PB (S33 k33)
set_option maxHeartbeats 1000000 in
theorem bworks_calls (w : World) : Calls Tryd.prog 37 #[] w fun e W => e = .returned (.bool true) ∧ Below w.heap.size w W := by
  have hok : SealOk 1 2 3 := by unfold SealOk; omega
  refine c_enter2 (args := []) (S := (fun _ => False)) (R := (fun _ => True)) (M := []) Tryd.func37 (by kernel_rfl) 73 Tryd.ntmps37 (Nat.le_of_ble_eq_true rfl) (St.first w (fun _ => False) (fun _ => True)) (fun a W F H => ?_)
  have F := F.less [] sub0
  refine c_seq (by kernel_rfl) ?_
  refine c_text (id := 0) (by kernel_rfl) [(0, 2)] (by kernel_rfl) ?_
  refine sq2 (W' := W) (show Eq (α := OSk) _ (some (some 0, (.assign (.const (.bool false))), 4, none)) by kernel_rfl) trivial F (by decide) (v := .bool false) (x_assign rfl) (fun _ => trivial) (fun a F => ?_)
  unfold wpSeq
  have H : St w (fun _ => False) (fun _ => True) [] W := H
  refine t_normal ?_
  refine c_seq (by kernel_rfl) ?_
  refine c_text (id := 1) (by kernel_rfl) [(0, 2), (1, 2), (2, 2), (3, 2), (4, 2), (5, 2)] (by kernel_rfl) ?_
  refine sqc (show Eq (α := OSk) _ (some (some 10, (.call { callee := (.value (.func 16)), args := #[(.const (.int .i64 1)), (.const (.int .i64 2)), (.const (.int .i64 3))], argTypes := #[3, 3, 3] }), 25, none)) by kernel_rfl) trivial F (by decide) (x_call Tryd.func16 (by kernel_rfl) rfl (args_3 rfl rfl rfl)) ((new_calls 1 2 3 W).mono (fun _ _ h => h.is hok)) ?_
  rintro e W ⟨ga, rfl, hga, hbga, hB⟩
  refine ⟨_, rfl, fun a F => ?_⟩
  have H := H.newBlk hB hga hbga
  have H : St w (fun _ => False) (fun _ => True) [Asn.blk ga [.int .i64 1, .int .i64 2, .int .i64 3, .slice none 0 0, .int .i64 0, .int .i64 0] 72] W := H
  refine ⟨(fun _ => trivial), ?_⟩
  refine sq2 (W' := W) (show Eq (α := OSk) _ (some (some 9, (.move (.tmp 10)), 25, none)) by kernel_rfl) trivial F (by decide) (v := .tuple #[.pointer (some ⟨ga, 0, none⟩), .int .i64 0]) (x_move (F.slot rfl)) (fun _ => trivial) (fun a F => ?_)
  refine sq2 (W' := W) (show Eq (α := OSk) _ (some (some 11, (.extract (.tmp 9) 0), 23, none)) by kernel_rfl) trivial F (by decide) (v := .pointer (some ⟨ga, 0, none⟩)) (x_extract (F.slot rfl) rfl) (fun _ => trivial) (fun a F => ?_)
  refine sq2 (W' := W) (show Eq (α := OSk) _ (some (some 12, (.extract (.tmp 9) 1), 24, none)) by kernel_rfl) trivial F (by decide) (v := .int .i64 0) (x_extract (F.slot rfl) rfl) (fun _ => trivial) (fun a F => ?_)
  refine sq2 (W' := W) (show Eq (α := OSk) _ (some (some 1, (.assign (.tmp 11)), 23, none)) by kernel_rfl) trivial F (by decide) (v := .pointer (some ⟨ga, 0, none⟩)) (x_assign (F.slot rfl)) (fun _ => trivial) (fun a F => ?_)
  refine sq2 (W' := W) (show Eq (α := OSk) _ (some (some 2, (.assign (.tmp 12)), 24, none)) by kernel_rfl) trivial F (by decide) (v := .int .i64 0) (x_assign (F.slot rfl)) (fun _ => trivial) (fun a F => ?_)
  unfold wpSeq
  refine t_normal ?_
  refine c_seq (by kernel_rfl) ?_
  refine c_seq (by kernel_rfl) ?_
  refine c_text (id := 2) (by kernel_rfl) [(0, 2), (1, 2), (2, 2), (3, 2), (4, 2), (5, 2)] (by kernel_rfl) ?_
  refine sq2 (W' := W) (show Eq (α := OSk) _ (some (some 13, (.move (.tmp 2)), 24, none)) by kernel_rfl) trivial F (by decide) (v := .int .i64 0) (x_move (F.slot rfl)) (fun _ => trivial) (fun a F => ?_)
  refine sq2 (W' := W) (show Eq (α := OSk) _ (some (some 14, (.binOp .neq 24 (.tmp 13) (.const (.int .i64 0)) 24), 4, none)) by kernel_rfl) trivial F (by decide) (v := .bool false) (x_int (F.slot rfl) rfl rfl) (fun _ => trivial) (fun a F => ?_)
  refine sq2 (W' := W) (show Eq (α := OSk) _ (some (some 15, (.move (.tmp 14)), 4, none)) by kernel_rfl) trivial F (by decide) (v := .bool false) (x_move (F.slot rfl)) (fun _ => trivial) (fun a F => ?_)
  refine sq2 (W' := W) (show Eq (α := OSk) _ (some (some 16, (.move (.tmp 1)), 23, some (2, false))) by kernel_rfl) ⟨15, by kernel_rfl, rfl⟩ F (by decide) (v := .pointer (some ⟨ga, 0, none⟩)) (x_move (F.slot rfl)) (fun _ => trivial) (fun a F => ?_)
  refine sq2 (W' := W) (show Eq (α := OSk) _ (some (some 17, (.binOp .eql 23 (.tmp 16) (.const (.pointer none)) 23), 4, some (2, false))) by kernel_rfl) ⟨15, by kernel_rfl, rfl⟩ F (by decide) (v := .bool false) (x_bin (F.slot rfl) rfl rfl) (fun _ => trivial) (fun a F => ?_)
  refine sq2 (W' := W) (show Eq (α := OSk) _ (some (some 18, (.pick (.tmp 15) (.const (.bool true)) (.tmp 17)), 4, none)) by kernel_rfl) trivial F (by decide) (v := .bool false) (x_pickF (F.slot rfl) (F.slot rfl)) (fun _ => trivial) (fun a F => ?_)
  unfold wpSeq
  refine t_normal ?_
  refine c_no (c := .tmp 18) (by kernel_rfl) (F.slot rfl) ?_
  refine c_skip (by kernel_rfl) ?_
  refine t_normal ?_
  refine c_seq (by kernel_rfl) ?_
  have H := H.quNil k33 33
  refine c_text (id := 4) (by kernel_rfl) [(0, 2), (1, 2), (2, 2)] (by kernel_rfl) ?_
  refine sq2 (W' := W) (show Eq (α := OSk) _ (some (some 19, (.move (.tmp 1)), 23, none)) by kernel_rfl) trivial F (by decide) (v := .pointer (some ⟨ga, 0, none⟩)) (x_move (F.slot rfl)) (fun _ => trivial) (fun a F => ?_)
  refine sqc (show Eq (α := OSk) _ (some (some 20, (.call { callee := (.value (.func 38)), args := #[(.const (.int .i64 1))], argTypes := #[3] }), 33, none)) by kernel_rfl) trivial F (by decide) (x_call Tryd.func38 (by kernel_rfl) rfl (args_1 rfl)) (pay5_calls 1 (by decide) (by decide) W) ?_
  rintro e W ⟨B1, rfl, hF, hB⟩
  refine ⟨_, rfl, fun a F => ?_⟩
  have H := H.freshF hB _ _ hF (fun k hk => hk)
  have H : St w (fun _ => False) (fun _ => True) [Asn.blk ga [.int .i64 1, .int .i64 2, .int .i64 3, .slice none 0 0, .int .i64 0, .int .i64 0] 72, Asn.qu k33 33 (.slice none 0 0) ([] : List S33) (fun _ => False), Asn.fk k33 _ (payT 1) [.int .i64 ((payT 1).f0), .string ((payT 1).f1), .string ((payT 1).f2), .int .u64 ((payT 1).f3), .int .u64 ((payT 1).f4), .string ((payT 1).f5), .string ((payT 1).f6), .slice none ((payT 1).f7.length) 0, .slice B1 ((payT 1).f8.length) 2]] W := H
  refine ⟨(fun _ => trivial), ?_⟩
  have HS := H.select [0, 1, 2] [Asn.blk ga [.int .i64 1, .int .i64 2, .int .i64 3, .slice none 0 0, .int .i64 0, .int .i64 0] 72, Asn.qu k33 33 (.slice none 0 0) ([] : List S33) (fun _ => False), Asn.fk k33 _ (payT 1) [.int .i64 ((payT 1).f0), .string ((payT 1).f1), .string ((payT 1).f2), .int .u64 ((payT 1).f3), .int .u64 ((payT 1).f4), .string ((payT 1).f5), .string ((payT 1).f6), .slice none ((payT 1).f7.length) 0, .slice B1 ((payT 1).f8.length) 2]] rfl (by decide)
  refine sqc (show Eq (α := OSk) _ (some (some 21, (.call { callee := (.value (.func 18)), args := #[(.tmp 19), (.tmp 20)], argTypes := #[23, 33] }), 24, none)) by kernel_rfl) trivial F (by decide) (x_call Tryd.func18 (by kernel_rfl) rfl (args_2 (F.slot rfl) (F.slot rfl))) ((add_calls ga 1 2 3 0 0 none 0 ([] : List S33) (fun _ => False) _ (payT 1) none B1 0 2 W (by decide) (by decide) HS).mono (fun _ _ h => h.in_ (ch_payT 1 (by decide)) (by decide))) ?_
  rintro e W ⟨rfl, Ap1, cp1, okp1, H1⟩
  refine ⟨_, rfl, fun a F => ?_⟩
  have H := H.back [0, 1, 2] [Asn.blk ga [.int .i64 1, .int .i64 2, .int .i64 3, .slice none 0 0, .int .i64 0, .int .i64 0] 72, Asn.qu k33 33 (.slice none 0 0) ([] : List S33) (fun _ => False), Asn.fk k33 _ (payT 1) [.int .i64 ((payT 1).f0), .string ((payT 1).f1), .string ((payT 1).f2), .int .u64 ((payT 1).f3), .int .u64 ((payT 1).f4), .string ((payT 1).f5), .string ((payT 1).f6), .slice none ((payT 1).f7.length) 0, .slice B1 ((payT 1).f8.length) 2]] rfl (by decide) [Asn.blk ga [.int .i64 1, .int .i64 2, .int .i64 3, .slice Ap1 ((([] : List S33) ++ [(payT 1)]).length) cp1, .int .i64 0, .int .i64 0] 72, Asn.qu k33 33 (.slice Ap1 ((([] : List S33) ++ [(payT 1)]).length) cp1) (([] : List S33) ++ [(payT 1)]) okp1, Asn.fk k33 _ (payT 1) [.int .i64 ((payT 1).f0), .string ((payT 1).f1), .string ((payT 1).f2), .int .u64 ((payT 1).f3), .int .u64 ((payT 1).f4), .string ((payT 1).f5), .string ((payT 1).f6), .slice none ((payT 1).f7.length) 0, .slice B1 ((payT 1).f8.length) 2]] [] rfl H1
  clear HS H1
  have H : St w (fun _ => False) (fun _ => True) [Asn.blk ga [.int .i64 1, .int .i64 2, .int .i64 3, .slice Ap1 ((([] : List S33) ++ [(payT 1)]).length) cp1, .int .i64 0, .int .i64 0] 72, Asn.qu k33 33 (.slice Ap1 ((([] : List S33) ++ [(payT 1)]).length) cp1) (([] : List S33) ++ [(payT 1)]) okp1, Asn.fk k33 _ (payT 1) [.int .i64 ((payT 1).f0), .string ((payT 1).f1), .string ((payT 1).f2), .int .u64 ((payT 1).f3), .int .u64 ((payT 1).f4), .string ((payT 1).f5), .string ((payT 1).f6), .slice none ((payT 1).f7.length) 0, .slice B1 ((payT 1).f8.length) 2]] W := H
  refine ⟨(fun _ => trivial), ?_⟩
  unfold wpSeq
  refine t_normal ?_
  refine c_seq (by kernel_rfl) ?_
  refine c_text (id := 5) (by kernel_rfl) [(0, 2), (1, 2), (2, 2)] (by kernel_rfl) ?_
  refine sq2 (W' := W) (show Eq (α := OSk) _ (some (some 22, (.move (.tmp 1)), 23, none)) by kernel_rfl) trivial F (by decide) (v := .pointer (some ⟨ga, 0, none⟩)) (x_move (F.slot rfl)) (fun _ => trivial) (fun a F => ?_)
  refine sqc (show Eq (α := OSk) _ (some (some 23, (.call { callee := (.value (.func 38)), args := #[(.const (.int .i64 2))], argTypes := #[3] }), 33, none)) by kernel_rfl) trivial F (by decide) (x_call Tryd.func38 (by kernel_rfl) rfl (args_1 rfl)) (pay5_calls 2 (by decide) (by decide) W) ?_
  rintro e W ⟨B2, rfl, hF, hB⟩
  refine ⟨_, rfl, fun a F => ?_⟩
  have H := H.freshF hB _ _ hF (fun k hk => hk)
  have H : St w (fun _ => False) (fun _ => True) [Asn.blk ga [.int .i64 1, .int .i64 2, .int .i64 3, .slice Ap1 ((([] : List S33) ++ [(payT 1)]).length) cp1, .int .i64 0, .int .i64 0] 72, Asn.qu k33 33 (.slice Ap1 ((([] : List S33) ++ [(payT 1)]).length) cp1) (([] : List S33) ++ [(payT 1)]) okp1, Asn.fk k33 _ (payT 1) [.int .i64 ((payT 1).f0), .string ((payT 1).f1), .string ((payT 1).f2), .int .u64 ((payT 1).f3), .int .u64 ((payT 1).f4), .string ((payT 1).f5), .string ((payT 1).f6), .slice none ((payT 1).f7.length) 0, .slice B1 ((payT 1).f8.length) 2], Asn.fk k33 _ (payT 2) [.int .i64 ((payT 2).f0), .string ((payT 2).f1), .string ((payT 2).f2), .int .u64 ((payT 2).f3), .int .u64 ((payT 2).f4), .string ((payT 2).f5), .string ((payT 2).f6), .slice none ((payT 2).f7.length) 0, .slice B2 ((payT 2).f8.length) 2]] W := H
  refine ⟨(fun _ => trivial), ?_⟩
  have HS := H.select [0, 1, 3] [Asn.blk ga [.int .i64 1, .int .i64 2, .int .i64 3, .slice Ap1 ((([] : List S33) ++ [(payT 1)]).length) cp1, .int .i64 0, .int .i64 0] 72, Asn.qu k33 33 (.slice Ap1 ((([] : List S33) ++ [(payT 1)]).length) cp1) (([] : List S33) ++ [(payT 1)]) okp1, Asn.fk k33 _ (payT 2) [.int .i64 ((payT 2).f0), .string ((payT 2).f1), .string ((payT 2).f2), .int .u64 ((payT 2).f3), .int .u64 ((payT 2).f4), .string ((payT 2).f5), .string ((payT 2).f6), .slice none ((payT 2).f7.length) 0, .slice B2 ((payT 2).f8.length) 2]] rfl (by decide)
  refine sqc (show Eq (α := OSk) _ (some (some 24, (.call { callee := (.value (.func 18)), args := #[(.tmp 22), (.tmp 23)], argTypes := #[23, 33] }), 24, none)) by kernel_rfl) trivial F (by decide) (x_call Tryd.func18 (by kernel_rfl) rfl (args_2 (F.slot rfl) (F.slot rfl))) ((add_calls ga 1 2 3 0 0 Ap1 cp1 (([] : List S33) ++ [(payT 1)]) okp1 _ (payT 2) none B2 0 2 W (by decide) (by decide) HS).mono (fun _ _ h => h.in_ (ch_payT 2 (by decide)) (by decide))) ?_
  rintro e W ⟨rfl, Ap2, cp2, okp2, H1⟩
  refine ⟨_, rfl, fun a F => ?_⟩
  have H := H.back [0, 1, 3] [Asn.blk ga [.int .i64 1, .int .i64 2, .int .i64 3, .slice Ap1 ((([] : List S33) ++ [(payT 1)]).length) cp1, .int .i64 0, .int .i64 0] 72, Asn.qu k33 33 (.slice Ap1 ((([] : List S33) ++ [(payT 1)]).length) cp1) (([] : List S33) ++ [(payT 1)]) okp1, Asn.fk k33 _ (payT 2) [.int .i64 ((payT 2).f0), .string ((payT 2).f1), .string ((payT 2).f2), .int .u64 ((payT 2).f3), .int .u64 ((payT 2).f4), .string ((payT 2).f5), .string ((payT 2).f6), .slice none ((payT 2).f7.length) 0, .slice B2 ((payT 2).f8.length) 2]] rfl (by decide) [Asn.blk ga [.int .i64 1, .int .i64 2, .int .i64 3, .slice Ap2 (((([] : List S33) ++ [(payT 1)]) ++ [(payT 2)]).length) cp2, .int .i64 0, .int .i64 0] 72, Asn.qu k33 33 (.slice Ap2 (((([] : List S33) ++ [(payT 1)]) ++ [(payT 2)]).length) cp2) ((([] : List S33) ++ [(payT 1)]) ++ [(payT 2)]) okp2, Asn.fk k33 _ (payT 2) [.int .i64 ((payT 2).f0), .string ((payT 2).f1), .string ((payT 2).f2), .int .u64 ((payT 2).f3), .int .u64 ((payT 2).f4), .string ((payT 2).f5), .string ((payT 2).f6), .slice none ((payT 2).f7.length) 0, .slice B2 ((payT 2).f8.length) 2]] [] rfl H1
  clear HS H1
  have H : St w (fun _ => False) (fun _ => True) [Asn.blk ga [.int .i64 1, .int .i64 2, .int .i64 3, .slice Ap2 (((([] : List S33) ++ [(payT 1)]) ++ [(payT 2)]).length) cp2, .int .i64 0, .int .i64 0] 72, Asn.qu k33 33 (.slice Ap2 (((([] : List S33) ++ [(payT 1)]) ++ [(payT 2)]).length) cp2) ((([] : List S33) ++ [(payT 1)]) ++ [(payT 2)]) okp2, Asn.fk k33 _ (payT 1) [.int .i64 ((payT 1).f0), .string ((payT 1).f1), .string ((payT 1).f2), .int .u64 ((payT 1).f3), .int .u64 ((payT 1).f4), .string ((payT 1).f5), .string ((payT 1).f6), .slice none ((payT 1).f7.length) 0, .slice B1 ((payT 1).f8.length) 2], Asn.fk k33 _ (payT 2) [.int .i64 ((payT 2).f0), .string ((payT 2).f1), .string ((payT 2).f2), .int .u64 ((payT 2).f3), .int .u64 ((payT 2).f4), .string ((payT 2).f5), .string ((payT 2).f6), .slice none ((payT 2).f7.length) 0, .slice B2 ((payT 2).f8.length) 2]] W := H
  refine ⟨(fun _ => trivial), ?_⟩
  unfold wpSeq
  refine t_normal ?_
  refine c_seq (by kernel_rfl) ?_
  refine c_text (id := 6) (by kernel_rfl) [(0, 2), (1, 2), (2, 2)] (by kernel_rfl) ?_
  refine sq2 (W' := W) (show Eq (α := OSk) _ (some (some 25, (.move (.tmp 1)), 23, none)) by kernel_rfl) trivial F (by decide) (v := .pointer (some ⟨ga, 0, none⟩)) (x_move (F.slot rfl)) (fun _ => trivial) (fun a F => ?_)
  refine sqc (show Eq (α := OSk) _ (some (some 26, (.call { callee := (.value (.func 38)), args := #[(.const (.int .i64 3))], argTypes := #[3] }), 33, none)) by kernel_rfl) trivial F (by decide) (x_call Tryd.func38 (by kernel_rfl) rfl (args_1 rfl)) (pay5_calls 3 (by decide) (by decide) W) ?_
  rintro e W ⟨B3, rfl, hF, hB⟩
  refine ⟨_, rfl, fun a F => ?_⟩
  have H := H.freshF hB _ _ hF (fun k hk => hk)
  have H : St w (fun _ => False) (fun _ => True) [Asn.blk ga [.int .i64 1, .int .i64 2, .int .i64 3, .slice Ap2 (((([] : List S33) ++ [(payT 1)]) ++ [(payT 2)]).length) cp2, .int .i64 0, .int .i64 0] 72, Asn.qu k33 33 (.slice Ap2 (((([] : List S33) ++ [(payT 1)]) ++ [(payT 2)]).length) cp2) ((([] : List S33) ++ [(payT 1)]) ++ [(payT 2)]) okp2, Asn.fk k33 _ (payT 1) [.int .i64 ((payT 1).f0), .string ((payT 1).f1), .string ((payT 1).f2), .int .u64 ((payT 1).f3), .int .u64 ((payT 1).f4), .string ((payT 1).f5), .string ((payT 1).f6), .slice none ((payT 1).f7.length) 0, .slice B1 ((payT 1).f8.length) 2], Asn.fk k33 _ (payT 2) [.int .i64 ((payT 2).f0), .string ((payT 2).f1), .string ((payT 2).f2), .int .u64 ((payT 2).f3), .int .u64 ((payT 2).f4), .string ((payT 2).f5), .string ((payT 2).f6), .slice none ((payT 2).f7.length) 0, .slice B2 ((payT 2).f8.length) 2], Asn.fk k33 _ (payT 3) [.int .i64 ((payT 3).f0), .string ((payT 3).f1), .string ((payT 3).f2), .int .u64 ((payT 3).f3), .int .u64 ((payT 3).f4), .string ((payT 3).f5), .string ((payT 3).f6), .slice none ((payT 3).f7.length) 0, .slice B3 ((payT 3).f8.length) 2]] W := H
  refine ⟨(fun _ => trivial), ?_⟩
  have HS := H.select [0, 1, 4] [Asn.blk ga [.int .i64 1, .int .i64 2, .int .i64 3, .slice Ap2 (((([] : List S33) ++ [(payT 1)]) ++ [(payT 2)]).length) cp2, .int .i64 0, .int .i64 0] 72, Asn.qu k33 33 (.slice Ap2 (((([] : List S33) ++ [(payT 1)]) ++ [(payT 2)]).length) cp2) ((([] : List S33) ++ [(payT 1)]) ++ [(payT 2)]) okp2, Asn.fk k33 _ (payT 3) [.int .i64 ((payT 3).f0), .string ((payT 3).f1), .string ((payT 3).f2), .int .u64 ((payT 3).f3), .int .u64 ((payT 3).f4), .string ((payT 3).f5), .string ((payT 3).f6), .slice none ((payT 3).f7.length) 0, .slice B3 ((payT 3).f8.length) 2]] rfl (by decide)
  refine sqc (show Eq (α := OSk) _ (some (some 27, (.call { callee := (.value (.func 18)), args := #[(.tmp 25), (.tmp 26)], argTypes := #[23, 33] }), 24, none)) by kernel_rfl) trivial F (by decide) (x_call Tryd.func18 (by kernel_rfl) rfl (args_2 (F.slot rfl) (F.slot rfl))) ((add_calls ga 1 2 3 0 0 Ap2 cp2 ((([] : List S33) ++ [(payT 1)]) ++ [(payT 2)]) okp2 _ (payT 3) none B3 0 2 W (by decide) (by decide) HS).mono (fun _ _ h => h.in_ (ch_payT 3 (by decide)) (by decide))) ?_
  rintro e W ⟨rfl, Ap3, cp3, okp3, H1⟩
  refine ⟨_, rfl, fun a F => ?_⟩
  have H := H.back [0, 1, 4] [Asn.blk ga [.int .i64 1, .int .i64 2, .int .i64 3, .slice Ap2 (((([] : List S33) ++ [(payT 1)]) ++ [(payT 2)]).length) cp2, .int .i64 0, .int .i64 0] 72, Asn.qu k33 33 (.slice Ap2 (((([] : List S33) ++ [(payT 1)]) ++ [(payT 2)]).length) cp2) ((([] : List S33) ++ [(payT 1)]) ++ [(payT 2)]) okp2, Asn.fk k33 _ (payT 3) [.int .i64 ((payT 3).f0), .string ((payT 3).f1), .string ((payT 3).f2), .int .u64 ((payT 3).f3), .int .u64 ((payT 3).f4), .string ((payT 3).f5), .string ((payT 3).f6), .slice none ((payT 3).f7.length) 0, .slice B3 ((payT 3).f8.length) 2]] rfl (by decide) [Asn.blk ga [.int .i64 1, .int .i64 2, .int .i64 3, .slice Ap3 ((((([] : List S33) ++ [(payT 1)]) ++ [(payT 2)]) ++ [(payT 3)]).length) cp3, .int .i64 0, .int .i64 0] 72, Asn.qu k33 33 (.slice Ap3 ((((([] : List S33) ++ [(payT 1)]) ++ [(payT 2)]) ++ [(payT 3)]).length) cp3) (((([] : List S33) ++ [(payT 1)]) ++ [(payT 2)]) ++ [(payT 3)]) okp3, Asn.fk k33 _ (payT 3) [.int .i64 ((payT 3).f0), .string ((payT 3).f1), .string ((payT 3).f2), .int .u64 ((payT 3).f3), .int .u64 ((payT 3).f4), .string ((payT 3).f5), .string ((payT 3).f6), .slice none ((payT 3).f7.length) 0, .slice B3 ((payT 3).f8.length) 2]] [] rfl H1
  clear HS H1
  have H : St w (fun _ => False) (fun _ => True) [Asn.blk ga [.int .i64 1, .int .i64 2, .int .i64 3, .slice Ap3 ((((([] : List S33) ++ [(payT 1)]) ++ [(payT 2)]) ++ [(payT 3)]).length) cp3, .int .i64 0, .int .i64 0] 72, Asn.qu k33 33 (.slice Ap3 ((((([] : List S33) ++ [(payT 1)]) ++ [(payT 2)]) ++ [(payT 3)]).length) cp3) (((([] : List S33) ++ [(payT 1)]) ++ [(payT 2)]) ++ [(payT 3)]) okp3, Asn.fk k33 _ (payT 1) [.int .i64 ((payT 1).f0), .string ((payT 1).f1), .string ((payT 1).f2), .int .u64 ((payT 1).f3), .int .u64 ((payT 1).f4), .string ((payT 1).f5), .string ((payT 1).f6), .slice none ((payT 1).f7.length) 0, .slice B1 ((payT 1).f8.length) 2], Asn.fk k33 _ (payT 2) [.int .i64 ((payT 2).f0), .string ((payT 2).f1), .string ((payT 2).f2), .int .u64 ((payT 2).f3), .int .u64 ((payT 2).f4), .string ((payT 2).f5), .string ((payT 2).f6), .slice none ((payT 2).f7.length) 0, .slice B2 ((payT 2).f8.length) 2], Asn.fk k33 _ (payT 3) [.int .i64 ((payT 3).f0), .string ((payT 3).f1), .string ((payT 3).f2), .int .u64 ((payT 3).f3), .int .u64 ((payT 3).f4), .string ((payT 3).f5), .string ((payT 3).f6), .slice none ((payT 3).f7.length) 0, .slice B3 ((payT 3).f8.length) 2]] W := H
  refine ⟨(fun _ => trivial), ?_⟩
  unfold wpSeq
  refine t_normal ?_
  refine c_seq (by kernel_rfl) ?_
  have H : St w (fun _ => False) (fun _ => True) [Asn.blk ga [.int .i64 1, .int .i64 2, .int .i64 3, .slice Ap3 L3.length cp3, .int .i64 0, .int .i64 0] 72, Asn.qu k33 33 (.slice Ap3 L3.length cp3) L3 okp3, Asn.fk k33 _ (payT 1) [.int .i64 ((payT 1).f0), .string ((payT 1).f1), .string ((payT 1).f2), .int .u64 ((payT 1).f3), .int .u64 ((payT 1).f4), .string ((payT 1).f5), .string ((payT 1).f6), .slice none ((payT 1).f7.length) 0, .slice B1 ((payT 1).f8.length) 2], Asn.fk k33 _ (payT 2) [.int .i64 ((payT 2).f0), .string ((payT 2).f1), .string ((payT 2).f2), .int .u64 ((payT 2).f3), .int .u64 ((payT 2).f4), .string ((payT 2).f5), .string ((payT 2).f6), .slice none ((payT 2).f7.length) 0, .slice B2 ((payT 2).f8.length) 2], Asn.fk k33 _ (payT 3) [.int .i64 ((payT 3).f0), .string ((payT 3).f1), .string ((payT 3).f2), .int .u64 ((payT 3).f3), .int .u64 ((payT 3).f4), .string ((payT 3).f5), .string ((payT 3).f6), .slice none ((payT 3).f7.length) 0, .slice B3 ((payT 3).f8.length) 2]] W := H
  refine c_text (id := 7) (by kernel_rfl) [(0, 2), (1, 2), (2, 2), (3, 2), (4, 2), (5, 2), (6, 2), (7, 2)] (by kernel_rfl) ?_
  refine sq2 (W' := W) (show Eq (α := OSk) _ (some (some 29, (.move (.tmp 1)), 23, none)) by kernel_rfl) trivial F (by decide) (v := .pointer (some ⟨ga, 0, none⟩)) (x_move (F.slot rfl)) (fun _ => trivial) (fun a F => ?_)
  have HS := H.select [0, 1] [Asn.blk ga [.int .i64 1, .int .i64 2, .int .i64 3, .slice Ap3 L3.length cp3, .int .i64 0, .int .i64 0] 72, Asn.qu k33 33 (.slice Ap3 L3.length cp3) L3 okp3] rfl (by decide)
  refine sqc (show Eq (α := OSk) _ (some (some 30, (.call { callee := (.value (.func 21)), args := #[(.tmp 29)], argTypes := #[23] }), 41, none)) by kernel_rfl) trivial F (by decide) (x_call Tryd.func21 (by kernel_rfl) rfl (args_1 (F.slot rfl))) ((tick_calls ga 1 2 3 0 0 Ap3 cp3 L3 okp3 W (by decide) (by decide) (by decide) (by decide) (by decide) (by decide) (by decide) HS).mono (fun _ _ h => h.seal (by decide) (by decide) 2 (by decide))) ?_
  rintro e W ⟨rfl, H1⟩
  refine ⟨_, rfl, fun a F => ?_⟩
  have H := H.back [0, 1] [Asn.blk ga [.int .i64 1, .int .i64 2, .int .i64 3, .slice Ap3 L3.length cp3, .int .i64 0, .int .i64 0] 72, Asn.qu k33 33 (.slice Ap3 L3.length cp3) L3 okp3] rfl (by decide) [Asn.blk ga [.int .i64 1, .int .i64 2, .int .i64 3, .slice (cutA Ap3 cp3 2) ((L3.drop 2).length) (cp3 - 2), .int .i64 0, .int .i64 (0 + 1)] 72, Asn.qf k33 33 (.slice (cutA Ap3 cp3 2) (L3.drop 2).length (cp3 - 2)) (L3.drop 2) okp3 Ap3 (L3.take 2).length (L3.take 2)] [] rfl H1
  clear HS H1
  have H : St w (fun _ => False) (fun _ => True) [Asn.blk ga [.int .i64 1, .int .i64 2, .int .i64 3, .slice (cutA Ap3 cp3 2) ((L3.drop 2).length) (cp3 - 2), .int .i64 0, .int .i64 (0 + 1)] 72, Asn.qf k33 33 (.slice (cutA Ap3 cp3 2) (L3.drop 2).length (cp3 - 2)) (L3.drop 2) okp3 Ap3 (L3.take 2).length (L3.take 2), Asn.fk k33 _ (payT 1) [.int .i64 ((payT 1).f0), .string ((payT 1).f1), .string ((payT 1).f2), .int .u64 ((payT 1).f3), .int .u64 ((payT 1).f4), .string ((payT 1).f5), .string ((payT 1).f6), .slice none ((payT 1).f7.length) 0, .slice B1 ((payT 1).f8.length) 2], Asn.fk k33 _ (payT 2) [.int .i64 ((payT 2).f0), .string ((payT 2).f1), .string ((payT 2).f2), .int .u64 ((payT 2).f3), .int .u64 ((payT 2).f4), .string ((payT 2).f5), .string ((payT 2).f6), .slice none ((payT 2).f7.length) 0, .slice B2 ((payT 2).f8.length) 2], Asn.fk k33 _ (payT 3) [.int .i64 ((payT 3).f0), .string ((payT 3).f1), .string ((payT 3).f2), .int .u64 ((payT 3).f3), .int .u64 ((payT 3).f4), .string ((payT 3).f5), .string ((payT 3).f6), .slice none ((payT 3).f7.length) 0, .slice B3 ((payT 3).f8.length) 2]] W := H
  refine ⟨(fun _ => trivial), ?_⟩
  refine sq2 (W' := W) (show Eq (α := OSk) _ (some (some 28, (.move (.tmp 30)), 41, none)) by kernel_rfl) trivial F (by decide) (v := .tuple #[.agg #[.int .i64 1, .int .i64 (0 + 1), .slice Ap3 ((L3.take 2).length) 2], .bool true]) (x_move (F.slot rfl)) (fun _ => trivial) (fun a F => ?_)
  refine sq2 (W' := W) (show Eq (α := OSk) _ (some (some 31, (.extract (.tmp 28) 0), 40, none)) by kernel_rfl) trivial F (by decide) (v := .agg #[.int .i64 1, .int .i64 (0 + 1), .slice Ap3 ((L3.take 2).length) 2]) (x_extract (F.slot rfl) rfl) (fun _ => trivial) (fun a F => ?_)
  refine sq2 (W' := W) (show Eq (α := OSk) _ (some (some 32, (.extract (.tmp 28) 1), 4, none)) by kernel_rfl) trivial F (by decide) (v := .bool true) (x_extract (F.slot rfl) rfl) (fun _ => trivial) (fun a F => ?_)
  refine sq_new (show Eq (α := OSk) _ (some (some 3, (.alloc 40), 0, none)) by kernel_rfl) trivial F (by decide) H [.int .i64 0, .int .i64 0, .slice none 0 0] 40 (x_alloc Tryd.zeroValue40 rfl) ?_
  intro g1 W a hg1 H F
  refine ⟨(fun _ => trivial), ?_⟩
  refine sq_put (M := [Asn.blk ga [.int .i64 1, .int .i64 2, .int .i64 3, .slice (cutA Ap3 cp3 2) ((L3.drop 2).length) (cp3 - 2), .int .i64 0, .int .i64 (0 + 1)] 72, Asn.qf k33 33 (.slice (cutA Ap3 cp3 2) (L3.drop 2).length (cp3 - 2)) (L3.drop 2) okp3 Ap3 (L3.take 2).length (L3.take 2), Asn.fk k33 _ (payT 1) [.int .i64 ((payT 1).f0), .string ((payT 1).f1), .string ((payT 1).f2), .int .u64 ((payT 1).f3), .int .u64 ((payT 1).f4), .string ((payT 1).f5), .string ((payT 1).f6), .slice none ((payT 1).f7.length) 0, .slice B1 ((payT 1).f8.length) 2], Asn.fk k33 _ (payT 2) [.int .i64 ((payT 2).f0), .string ((payT 2).f1), .string ((payT 2).f2), .int .u64 ((payT 2).f3), .int .u64 ((payT 2).f4), .string ((payT 2).f5), .string ((payT 2).f6), .slice none ((payT 2).f7.length) 0, .slice B2 ((payT 2).f8.length) 2], Asn.fk k33 _ (payT 3) [.int .i64 ((payT 3).f0), .string ((payT 3).f1), .string ((payT 3).f2), .int .u64 ((payT 3).f3), .int .u64 ((payT 3).f4), .string ((payT 3).f5), .string ((payT 3).f6), .slice none ((payT 3).f7.length) 0, .slice B3 ((payT 3).f8.length) 2], Asn.blk g1 [.int .i64 1, .int .i64 (0 + 1), .slice Ap3 ((L3.take 2).length) 2] 40]) (show Eq (α := OSk) _ (some (none, (.store 40 (.tmp 3) (.tmp 31)), 0, none)) by kernel_rfl) trivial F (x_store H (k := 5) (cs' := [.int .i64 1, .int .i64 (0 + 1), .slice Ap3 ((L3.take 2).length) 2]) rfl (Tryd.sizeOf40 W) (F.slot rfl) (F.slot rfl) rfl (Nat.le_of_ble_eq_true rfl) rfl rfl) ?_
  intro W H
  refine ⟨(fun _ => trivial), ?_⟩
  refine sq2 (W' := W) (show Eq (α := OSk) _ (some (some 4, (.assign (.tmp 32)), 4, none)) by kernel_rfl) trivial F (by decide) (v := .bool true) (x_assign (F.slot rfl)) (fun _ => trivial) (fun a F => ?_)
  unfold wpSeq
  refine t_normal ?_
  refine c_seq (by kernel_rfl) ?_
  refine c_text (id := 8) (by kernel_rfl) [(0, 2), (1, 2), (2, 2), (3, 2), (4, 2), (5, 2), (6, 2)] (by kernel_rfl) ?_
  refine sq2 (show Eq (α := OSk) _ (some (some 34, (.load 40 (.tmp 3)), 40, none)) by kernel_rfl) trivial F (by decide) (v := .agg #[.int .i64 1, .int .i64 (0 + 1), .slice Ap3 ((L3.take 2).length) 2]) (x_loadB (Tryd.isAgg40 W) [.int .i64 1, .int .i64 (0 + 1), .slice Ap3 ((L3.take 2).length) 2] (Tryd.sizeOf40 W) (F.slot rfl) (H.blk 5 rfl)) (fun _ => trivial) (fun a F => ?_)
  refine sqc (show Eq (α := OSk) _ (some (some 35, (.call { callee := (.value (.func 31)), args := #[(.tmp 34)], argTypes := #[40] }), 55, none)) by kernel_rfl) trivial F (by decide) (x_call Tryd.func31 (by kernel_rfl) rfl (args_1 (F.slot rfl))) (benc_ok 1 (0 + 1) Ap3 2 (L3.take 2) W (H.qfRead 1 rfl) (by decide) L3_pos L3_chk) ?_
  rintro e W ⟨rfl, hB⟩
  refine ⟨_, rfl, fun a F => ?_⟩
  have H := H.below hB
  refine ⟨(fun _ => trivial), ?_⟩
  refine sq2 (W' := W) (show Eq (α := OSk) _ (some (some 33, (.move (.tmp 35)), 55, none)) by kernel_rfl) trivial F (by decide) (v := .tuple #[.string (bencB 1 (0 + 1) (L3.take 2)), .int .i64 0]) (x_move (F.slot rfl)) (fun _ => trivial) (fun a F => ?_)
  refine sq2 (W' := W) (show Eq (α := OSk) _ (some (some 36, (.extract (.tmp 33) 0), 9, none)) by kernel_rfl) trivial F (by decide) (v := .string (bencB 1 (0 + 1) (L3.take 2))) (x_extract (F.slot rfl) rfl) (fun _ => trivial) (fun a F => ?_)
  refine sq2 (W' := W) (show Eq (α := OSk) _ (some (some 37, (.extract (.tmp 33) 1), 24, none)) by kernel_rfl) trivial F (by decide) (v := .int .i64 0) (x_extract (F.slot rfl) rfl) (fun _ => trivial) (fun a F => ?_)
  refine sq2 (W' := W) (show Eq (α := OSk) _ (some (some 5, (.assign (.tmp 36)), 9, none)) by kernel_rfl) trivial F (by decide) (v := .string (bencB 1 (0 + 1) (L3.take 2))) (x_assign (F.slot rfl)) (fun _ => trivial) (fun a F => ?_)
  refine sq2 (W' := W) (show Eq (α := OSk) _ (some (some 6, (.assign (.tmp 37)), 24, none)) by kernel_rfl) trivial F (by decide) (v := .int .i64 0) (x_assign (F.slot rfl)) (fun _ => trivial) (fun a F => ?_)
  unfold wpSeq
  refine t_normal ?_
  refine c_seq (by kernel_rfl) ?_
  refine c_text (id := 9) (by kernel_rfl) [(0, 2), (1, 2), (2, 2), (3, 2), (4, 2), (5, 2), (6, 2), (7, 2)] (by kernel_rfl) ?_
  refine sq2 (W' := W) (show Eq (α := OSk) _ (some (some 39, (.move (.tmp 5)), 9, none)) by kernel_rfl) trivial F (by decide) (v := .string (bencB 1 (0 + 1) (L3.take 2))) (x_move (F.slot rfl)) (fun _ => trivial) (fun a F => ?_)
  refine sqc (show Eq (α := OSk) _ (some (some 40, (.call { callee := (.value (.func 28)), args := #[(.tmp 39)], argTypes := #[9] }), 52, none)) by kernel_rfl) trivial F (by decide) (x_call Tryd.func28 (by kernel_rfl) rfl (args_1 (F.slot rfl))) (bdec_ok W L3_chk L3_pos) ?_
  rintro e W ⟨Ad, cd, rfl, hcd, hF, hB⟩
  refine ⟨_, rfl, fun a F => ?_⟩
  have H := H.freshF hB _ _ hF (fun k hk => hk.1)
  have H : St w (fun _ => False) (fun _ => True) [Asn.blk ga [.int .i64 1, .int .i64 2, .int .i64 3, .slice (cutA Ap3 cp3 2) ((L3.drop 2).length) (cp3 - 2), .int .i64 0, .int .i64 (0 + 1)] 72, Asn.qf k33 33 (.slice (cutA Ap3 cp3 2) (L3.drop 2).length (cp3 - 2)) (L3.drop 2) okp3 Ap3 (L3.take 2).length (L3.take 2), Asn.fk k33 _ (payT 1) [.int .i64 ((payT 1).f0), .string ((payT 1).f1), .string ((payT 1).f2), .int .u64 ((payT 1).f3), .int .u64 ((payT 1).f4), .string ((payT 1).f5), .string ((payT 1).f6), .slice none ((payT 1).f7.length) 0, .slice B1 ((payT 1).f8.length) 2], Asn.fk k33 _ (payT 2) [.int .i64 ((payT 2).f0), .string ((payT 2).f1), .string ((payT 2).f2), .int .u64 ((payT 2).f3), .int .u64 ((payT 2).f4), .string ((payT 2).f5), .string ((payT 2).f6), .slice none ((payT 2).f7.length) 0, .slice B2 ((payT 2).f8.length) 2], Asn.fk k33 _ (payT 3) [.int .i64 ((payT 3).f0), .string ((payT 3).f1), .string ((payT 3).f2), .int .u64 ((payT 3).f3), .int .u64 ((payT 3).f4), .string ((payT 3).f5), .string ((payT 3).f6), .slice none ((payT 3).f7.length) 0, .slice B3 ((payT 3).f8.length) 2], Asn.blk g1 [.int .i64 1, .int .i64 (0 + 1), .slice Ap3 ((L3.take 2).length) 2] 40, Asn.rd k33 _ Ad ((L3.take 2).length) (L3.take 2)] W := H
  refine ⟨(fun _ => trivial), ?_⟩
  refine sq2 (W' := W) (show Eq (α := OSk) _ (some (some 38, (.move (.tmp 40)), 52, none)) by kernel_rfl) trivial F (by decide) (v := .tuple #[.agg #[.int .i64 1, .int .i64 (0 + 1), .slice Ad ((L3.take 2).length) cd], .int .i64 0]) (x_move (F.slot rfl)) (fun _ => trivial) (fun a F => ?_)
  refine sq2 (W' := W) (show Eq (α := OSk) _ (some (some 41, (.extract (.tmp 38) 0), 40, none)) by kernel_rfl) trivial F (by decide) (v := .agg #[.int .i64 1, .int .i64 (0 + 1), .slice Ad ((L3.take 2).length) cd]) (x_extract (F.slot rfl) rfl) (fun _ => trivial) (fun a F => ?_)
  refine sq2 (W' := W) (show Eq (α := OSk) _ (some (some 42, (.extract (.tmp 38) 1), 24, none)) by kernel_rfl) trivial F (by decide) (v := .int .i64 0) (x_extract (F.slot rfl) rfl) (fun _ => trivial) (fun a F => ?_)
  refine sq_new (show Eq (α := OSk) _ (some (some 7, (.alloc 40), 0, none)) by kernel_rfl) trivial F (by decide) H [.int .i64 0, .int .i64 0, .slice none 0 0] 40 (x_alloc Tryd.zeroValue40 rfl) ?_
  intro g2 W a hg2 H F
  refine ⟨(fun _ => trivial), ?_⟩
  refine sq_put (M := [Asn.blk ga [.int .i64 1, .int .i64 2, .int .i64 3, .slice (cutA Ap3 cp3 2) ((L3.drop 2).length) (cp3 - 2), .int .i64 0, .int .i64 (0 + 1)] 72, Asn.qf k33 33 (.slice (cutA Ap3 cp3 2) (L3.drop 2).length (cp3 - 2)) (L3.drop 2) okp3 Ap3 (L3.take 2).length (L3.take 2), Asn.fk k33 _ (payT 1) [.int .i64 ((payT 1).f0), .string ((payT 1).f1), .string ((payT 1).f2), .int .u64 ((payT 1).f3), .int .u64 ((payT 1).f4), .string ((payT 1).f5), .string ((payT 1).f6), .slice none ((payT 1).f7.length) 0, .slice B1 ((payT 1).f8.length) 2], Asn.fk k33 _ (payT 2) [.int .i64 ((payT 2).f0), .string ((payT 2).f1), .string ((payT 2).f2), .int .u64 ((payT 2).f3), .int .u64 ((payT 2).f4), .string ((payT 2).f5), .string ((payT 2).f6), .slice none ((payT 2).f7.length) 0, .slice B2 ((payT 2).f8.length) 2], Asn.fk k33 _ (payT 3) [.int .i64 ((payT 3).f0), .string ((payT 3).f1), .string ((payT 3).f2), .int .u64 ((payT 3).f3), .int .u64 ((payT 3).f4), .string ((payT 3).f5), .string ((payT 3).f6), .slice none ((payT 3).f7.length) 0, .slice B3 ((payT 3).f8.length) 2], Asn.blk g1 [.int .i64 1, .int .i64 (0 + 1), .slice Ap3 ((L3.take 2).length) 2] 40, Asn.rd k33 _ Ad ((L3.take 2).length) (L3.take 2), Asn.blk g2 [.int .i64 1, .int .i64 (0 + 1), .slice Ad ((L3.take 2).length) cd] 40]) (show Eq (α := OSk) _ (some (none, (.store 40 (.tmp 7) (.tmp 41)), 0, none)) by kernel_rfl) trivial F (x_store H (k := 7) (cs' := [.int .i64 1, .int .i64 (0 + 1), .slice Ad ((L3.take 2).length) cd]) rfl (Tryd.sizeOf40 W) (F.slot rfl) (F.slot rfl) rfl (Nat.le_of_ble_eq_true rfl) rfl rfl) ?_
  intro W H
  refine ⟨(fun _ => trivial), ?_⟩
  refine sq2 (W' := W) (show Eq (α := OSk) _ (some (some 8, (.assign (.tmp 42)), 24, none)) by kernel_rfl) trivial F (by decide) (v := .int .i64 0) (x_assign (F.slot rfl)) (fun _ => trivial) (fun a F => ?_)
  unfold wpSeq
  refine t_normal ?_
  refine c_seq (by kernel_rfl) ?_
  refine c_text (id := 10) (by kernel_rfl) [(0, 2), (1, 2), (2, 2), (3, 2), (4, 2), (5, 2), (6, 2), (7, 2), (8, 2), (9, 2), (10, 2), (11, 2), (12, 2), (13, 2), (14, 2), (15, 2), (16, 2), (17, 2), (18, 2), (19, 2), (20, 2), (21, 2), (22, 2), (23, 2), (24, 2), (25, 2), (26, 2), (27, 2), (28, 2), (29, 2), (30, 2)] (by kernel_rfl) ?_
  refine sq2 (W' := W) (show Eq (α := OSk) _ (some (some 43, (.move (.tmp 4)), 4, none)) by kernel_rfl) trivial F (by decide) (v := .bool true) (x_move (F.slot rfl)) (fun _ => trivial) (fun a F => ?_)
  refine sq2 (W' := W) (show Eq (α := OSk) _ (some (some 44, (.move (.tmp 43)), 4, none)) by kernel_rfl) trivial F (by decide) (v := .bool true) (x_move (F.slot rfl)) (fun _ => trivial) (fun a F => ?_)
  refine sq2 (W' := W) (show Eq (α := OSk) _ (some (some 45, (.fieldAddr 40 (.tmp 3) 1), 0, some (1, true))) by kernel_rfl) ⟨44, by kernel_rfl, rfl⟩ F (by decide) (v := .pointer (some ⟨g1, 1, none⟩)) (x_field0 Tryd.underlying40 rfl rfl (Tryd.sizeOf3 W) (F.slot rfl)) (fun _ => trivial) (fun a F => ?_)
  refine sq2 (show Eq (α := OSk) _ (some (some 46, (.load 3 (.tmp 45)), 3, some (1, true))) by kernel_rfl) ⟨44, by kernel_rfl, rfl⟩ F (by decide) (v := .int .i64 (0 + 1)) (x_load1 (Tryd.isAgg3 W) (F.slot rfl) (H.cell 5 rfl rfl)) (fun _ => trivial) (fun a F => ?_)
  refine sq2 (W' := W) (show Eq (α := OSk) _ (some (some 47, (.binOp .eql 3 (.tmp 46) (.const (.int .i64 1)) 3), 4, some (1, true))) by kernel_rfl) ⟨44, by kernel_rfl, rfl⟩ F (by decide) (v := .bool ((0 + 1) == (1 : Int))) (x_int (F.slot rfl) rfl rfl) (fun _ => trivial) (fun a F => ?_)
  refine sq2 (W' := W) (show Eq (α := OSk) _ (some (some 48, (.pick (.tmp 44) (.tmp 47) (.const (.bool false))), 4, none)) by kernel_rfl) trivial F (by decide) (v := .bool ((0 + 1) == (1 : Int))) (x_pickT (F.slot rfl) (F.slot rfl)) (fun _ => trivial) (fun a F => ?_)
  refine sq2 (W' := W) (show Eq (α := OSk) _ (some (some 49, (.move (.tmp 48)), 4, none)) by kernel_rfl) trivial F (by decide) (v := .bool ((0 + 1) == (1 : Int))) (x_move (F.slot rfl)) (fun _ => trivial) (fun a F => ?_)
  have hb3 : ((0 + 1) == (1 : Int)) = true := by decide
  have F := F.at 49 rfl (v' := .bool true) (congrArg Value.bool hb3)
  refine sq2 (W' := W) (show Eq (α := OSk) _ (some (some 50, (.fieldAddr 40 (.tmp 3) 2), 0, some (6, true))) by kernel_rfl) ⟨49, by kernel_rfl, rfl⟩ F (by decide) (v := .pointer (some ⟨g1, 2, none⟩)) (x_field0 Tryd.underlying40 rfl rfl (Tryd.sizeOf38 W) (F.slot rfl)) (fun _ => trivial) (fun a F => ?_)
  refine sq2 (show Eq (α := OSk) _ (some (some 51, (.load 38 (.tmp 50)), 38, some (6, true))) by kernel_rfl) ⟨49, by kernel_rfl, rfl⟩ F (by decide) (v := .slice Ap3 ((L3.take 2).length) 2) (x_load1 (Tryd.isAgg38 W) (F.slot rfl) (H.cell 5 rfl rfl)) (fun _ => trivial) (fun a F => ?_)
  refine sq2 (W' := W) (show Eq (α := OSk) _ (some (some 52, (.call { callee := (.builtin .len), args := #[(.tmp 51)], argTypes := #[38] }), 3, some (6, true))) by kernel_rfl) ⟨49, by kernel_rfl, rfl⟩ F (by decide) (v := .int .i64 ((L3.take 2).length : Int)) (x_lenL Tryd.underlying38 (F.slot rfl)) (fun _ => trivial) (fun a F => ?_)
  refine sq2 (W' := W) (show Eq (α := OSk) _ (some (some 53, (.binOp .eql 3 (.tmp 52) (.const (.int .i64 2)) 3), 4, some (6, true))) by kernel_rfl) ⟨49, by kernel_rfl, rfl⟩ F (by decide) (v := .bool (((L3.take 2).length : Int) == (2 : Int))) (x_int (F.slot rfl) rfl rfl) (fun _ => trivial) (fun a F => ?_)
  refine sq2 (W' := W) (show Eq (α := OSk) _ (some (some 54, (.pick (.tmp 49) (.tmp 53) (.const (.bool false))), 4, none)) by kernel_rfl) trivial F (by decide) (v := .bool (((L3.take 2).length : Int) == (2 : Int))) (x_pickT (F.slot rfl) (F.slot rfl)) (fun _ => trivial) (fun a F => ?_)
  refine sq2 (W' := W) (show Eq (α := OSk) _ (some (some 55, (.move (.tmp 54)), 4, none)) by kernel_rfl) trivial F (by decide) (v := .bool (((L3.take 2).length : Int) == (2 : Int))) (x_move (F.slot rfl)) (fun _ => trivial) (fun a F => ?_)
  have hb4 : (((L3.take 2).length : Int) == (2 : Int)) = true := by decide
  have F := F.at 55 rfl (v' := .bool true) (congrArg Value.bool hb4)
  refine sq2 (W' := W) (show Eq (α := OSk) _ (some (some 56, (.move (.tmp 1)), 23, some (12, true))) by kernel_rfl) ⟨55, by kernel_rfl, rfl⟩ F (by decide) (v := .pointer (some ⟨ga, 0, none⟩)) (x_move (F.slot rfl)) (fun _ => trivial) (fun a F => ?_)
  have HS := H.select [0] [Asn.blk ga [.int .i64 1, .int .i64 2, .int .i64 3, .slice (cutA Ap3 cp3 2) ((L3.drop 2).length) (cp3 - 2), .int .i64 0, .int .i64 (0 + 1)] 72] rfl (by decide)
  refine sqc (show Eq (α := OSk) _ (some (some 57, (.call { callee := (.value (.func 24)), args := #[(.tmp 56)], argTypes := #[23] }), 3, some (12, true))) by kernel_rfl) ⟨55, by kernel_rfl, rfl⟩ F (by decide) (x_call Tryd.func24 (by kernel_rfl) rfl (args_1 (F.slot rfl))) (waits_calls ga 1 2 3 0 (0 + 1) (cutA Ap3 cp3 2) ((L3.drop 2).length) (cp3 - 2)  W HS) ?_
  rintro e W ⟨rfl, H1⟩
  refine ⟨_, rfl, fun a F => ?_⟩
  have H := H.back [0] [Asn.blk ga [.int .i64 1, .int .i64 2, .int .i64 3, .slice (cutA Ap3 cp3 2) ((L3.drop 2).length) (cp3 - 2), .int .i64 0, .int .i64 (0 + 1)] 72] rfl (by decide) [Asn.blk ga [.int .i64 1, .int .i64 2, .int .i64 3, .slice (cutA Ap3 cp3 2) ((L3.drop 2).length) (cp3 - 2), .int .i64 0, .int .i64 (0 + 1)] 72] [] rfl H1
  clear HS H1
  refine ⟨(fun _ => trivial), ?_⟩
  refine sq2 (W' := W) (show Eq (α := OSk) _ (some (some 58, (.binOp .eql 3 (.tmp 57) (.const (.int .i64 1)) 3), 4, some (12, true))) by kernel_rfl) ⟨55, by kernel_rfl, rfl⟩ F (by decide) (v := .bool (((L3.drop 2).length : Int) == (1 : Int))) (x_int (F.slot rfl) rfl rfl) (fun _ => trivial) (fun a F => ?_)
  refine sq2 (W' := W) (show Eq (α := OSk) _ (some (some 59, (.pick (.tmp 55) (.tmp 58) (.const (.bool false))), 4, none)) by kernel_rfl) trivial F (by decide) (v := .bool (((L3.drop 2).length : Int) == (1 : Int))) (x_pickT (F.slot rfl) (F.slot rfl)) (fun _ => trivial) (fun a F => ?_)
  refine sq2 (W' := W) (show Eq (α := OSk) _ (some (some 60, (.move (.tmp 59)), 4, none)) by kernel_rfl) trivial F (by decide) (v := .bool (((L3.drop 2).length : Int) == (1 : Int))) (x_move (F.slot rfl)) (fun _ => trivial) (fun a F => ?_)
  have hb5 : (((L3.drop 2).length : Int) == (1 : Int)) = true := by decide
  have F := F.at 60 rfl (v' := .bool true) (congrArg Value.bool hb5)
  refine sq2 (W' := W) (show Eq (α := OSk) _ (some (some 61, (.move (.tmp 6)), 24, some (17, true))) by kernel_rfl) ⟨60, by kernel_rfl, rfl⟩ F (by decide) (v := .int .i64 0) (x_move (F.slot rfl)) (fun _ => trivial) (fun a F => ?_)
  refine sq2 (W' := W) (show Eq (α := OSk) _ (some (some 62, (.binOp .eql 24 (.tmp 61) (.const (.int .i64 0)) 24), 4, some (17, true))) by kernel_rfl) ⟨60, by kernel_rfl, rfl⟩ F (by decide) (v := .bool true) (x_int (F.slot rfl) rfl rfl) (fun _ => trivial) (fun a F => ?_)
  refine sq2 (W' := W) (show Eq (α := OSk) _ (some (some 63, (.pick (.tmp 60) (.tmp 62) (.const (.bool false))), 4, none)) by kernel_rfl) trivial F (by decide) (v := .bool true) (x_pickT (F.slot rfl) (F.slot rfl)) (fun _ => trivial) (fun a F => ?_)
  refine sq2 (W' := W) (show Eq (α := OSk) _ (some (some 64, (.move (.tmp 63)), 4, none)) by kernel_rfl) trivial F (by decide) (v := .bool true) (x_move (F.slot rfl)) (fun _ => trivial) (fun a F => ?_)
  refine sq2 (W' := W) (show Eq (α := OSk) _ (some (some 65, (.move (.tmp 8)), 24, some (21, true))) by kernel_rfl) ⟨64, by kernel_rfl, rfl⟩ F (by decide) (v := .int .i64 0) (x_move (F.slot rfl)) (fun _ => trivial) (fun a F => ?_)
  refine sq2 (W' := W) (show Eq (α := OSk) _ (some (some 66, (.binOp .eql 24 (.tmp 65) (.const (.int .i64 0)) 24), 4, some (21, true))) by kernel_rfl) ⟨64, by kernel_rfl, rfl⟩ F (by decide) (v := .bool true) (x_int (F.slot rfl) rfl rfl) (fun _ => trivial) (fun a F => ?_)
  refine sq2 (W' := W) (show Eq (α := OSk) _ (some (some 67, (.pick (.tmp 64) (.tmp 66) (.const (.bool false))), 4, none)) by kernel_rfl) trivial F (by decide) (v := .bool true) (x_pickT (F.slot rfl) (F.slot rfl)) (fun _ => trivial) (fun a F => ?_)
  refine sq2 (W' := W) (show Eq (α := OSk) _ (some (some 68, (.move (.tmp 67)), 4, none)) by kernel_rfl) trivial F (by decide) (v := .bool true) (x_move (F.slot rfl)) (fun _ => trivial) (fun a F => ?_)
  refine sq2 (show Eq (α := OSk) _ (some (some 69, (.load 40 (.tmp 7)), 40, some (25, true))) by kernel_rfl) ⟨68, by kernel_rfl, rfl⟩ F (by decide) (v := .agg #[.int .i64 1, .int .i64 (0 + 1), .slice Ad ((L3.take 2).length) cd]) (x_loadB (Tryd.isAgg40 W) [.int .i64 1, .int .i64 (0 + 1), .slice Ad ((L3.take 2).length) cd] (Tryd.sizeOf40 W) (F.slot rfl) (H.blk 7 rfl)) (fun _ => trivial) (fun a F => ?_)
  refine sq2 (show Eq (α := OSk) _ (some (some 70, (.load 40 (.tmp 3)), 40, some (25, true))) by kernel_rfl) ⟨68, by kernel_rfl, rfl⟩ F (by decide) (v := .agg #[.int .i64 1, .int .i64 (0 + 1), .slice Ap3 ((L3.take 2).length) 2]) (x_loadB (Tryd.isAgg40 W) [.int .i64 1, .int .i64 (0 + 1), .slice Ap3 ((L3.take 2).length) 2] (Tryd.sizeOf40 W) (F.slot rfl) (H.blk 5 rfl)) (fun _ => trivial) (fun a F => ?_)
  refine sqc (show Eq (α := OSk) _ (some (some 71, (.call { callee := (.value (.func 23)), args := #[(.tmp 69), (.tmp 70)], argTypes := #[40, 40] }), 4, some (25, true))) by kernel_rfl) ⟨68, by kernel_rfl, rfl⟩ F (by decide) (x_call Tryd.func23 (by kernel_rfl) rfl (args_2 (F.slot rfl) (F.slot rfl))) (bsame_calls 1 (0 + 1) Ad Ap3 cd 2 (L3.take 2) W (by decide) L3_len (H.rd 6 rfl) hcd (H.qfRead 1 rfl) (by decide)) ?_
  rintro e W ⟨rfl, hB⟩
  refine ⟨_, rfl, fun a F => ?_⟩
  have H := H.below hB
  refine ⟨(fun _ => trivial), ?_⟩
  refine sq2 (W' := W) (show Eq (α := OSk) _ (some (some 72, (.pick (.tmp 68) (.tmp 71) (.const (.bool false))), 4, none)) by kernel_rfl) trivial F (by decide) (v := .bool true) (x_pickT (F.slot rfl) (F.slot rfl)) (fun _ => trivial) (fun a F => ?_)
  refine sq2 (W' := W) (show Eq (α := OSk) _ (some (some 0, (.assign (.tmp 72)), 4, none)) by kernel_rfl) trivial F (by decide) (v := .bool true) (x_assign (F.slot rfl)) (fun _ => trivial) (fun a F => ?_)
  unfold wpSeq
  have F := F.less [(0, .bool true), (10, .tuple #[.pointer (some ⟨ga, 0, none⟩), .int .i64 0]), (9, .tuple #[.pointer (some ⟨ga, 0, none⟩), .int .i64 0]), (11, .pointer (some ⟨ga, 0, none⟩)), (12, .int .i64 0), (1, .pointer (some ⟨ga, 0, none⟩)), (2, .int .i64 0), (13, .int .i64 0), (14, .bool false), (15, .bool false), (16, .pointer (some ⟨ga, 0, none⟩)), (17, .bool false), (18, .bool false), (19, .pointer (some ⟨ga, 0, none⟩)), (20, .agg #[.int .i64 ((payT 1).f0), .string ((payT 1).f1), .string ((payT 1).f2), .int .u64 ((payT 1).f3), .int .u64 ((payT 1).f4), .string ((payT 1).f5), .string ((payT 1).f6), .slice none ((payT 1).f7.length) 0, .slice B1 ((payT 1).f8.length) 2]), (22, .pointer (some ⟨ga, 0, none⟩)), (23, .agg #[.int .i64 ((payT 2).f0), .string ((payT 2).f1), .string ((payT 2).f2), .int .u64 ((payT 2).f3), .int .u64 ((payT 2).f4), .string ((payT 2).f5), .string ((payT 2).f6), .slice none ((payT 2).f7.length) 0, .slice B2 ((payT 2).f8.length) 2]), (25, .pointer (some ⟨ga, 0, none⟩)), (26, .agg #[.int .i64 ((payT 3).f0), .string ((payT 3).f1), .string ((payT 3).f2), .int .u64 ((payT 3).f3), .int .u64 ((payT 3).f4), .string ((payT 3).f5), .string ((payT 3).f6), .slice none ((payT 3).f7.length) 0, .slice B3 ((payT 3).f8.length) 2]), (29, .pointer (some ⟨ga, 0, none⟩)), (30, .tuple #[.agg #[.int .i64 1, .int .i64 (0 + 1), .slice Ap3 ((L3.take 2).length) 2], .bool true]), (28, .tuple #[.agg #[.int .i64 1, .int .i64 (0 + 1), .slice Ap3 ((L3.take 2).length) 2], .bool true]), (31, .agg #[.int .i64 1, .int .i64 (0 + 1), .slice Ap3 ((L3.take 2).length) 2]), (32, .bool true), (3, .pointer (some ⟨g1, 0, none⟩)), (34, .agg #[.int .i64 1, .int .i64 (0 + 1), .slice Ap3 ((L3.take 2).length) 2]), (35, .tuple #[.string (bencB 1 (0 + 1) (L3.take 2)), .int .i64 0]), (33, .tuple #[.string (bencB 1 (0 + 1) (L3.take 2)), .int .i64 0]), (36, .string (bencB 1 (0 + 1) (L3.take 2))), (37, .int .i64 0), (5, .string (bencB 1 (0 + 1) (L3.take 2))), (39, .string (bencB 1 (0 + 1) (L3.take 2))), (40, .tuple #[.agg #[.int .i64 1, .int .i64 (0 + 1), .slice Ad ((L3.take 2).length) cd], .int .i64 0]), (38, .tuple #[.agg #[.int .i64 1, .int .i64 (0 + 1), .slice Ad ((L3.take 2).length) cd], .int .i64 0]), (41, .agg #[.int .i64 1, .int .i64 (0 + 1), .slice Ad ((L3.take 2).length) cd]), (42, .int .i64 0), (7, .pointer (some ⟨g2, 0, none⟩))] (subc rfl (subc rfl (subc rfl (subc rfl (subc rfl (subc rfl (subc rfl (subc rfl (subc rfl (subc rfl (subc rfl (subc rfl (subc rfl (subc rfl (subc rfl (subc rfl (subc rfl (subc rfl (subc rfl (subc rfl (subc rfl (subc rfl (subc rfl (subc rfl (subc rfl (subc rfl (subc rfl (subc rfl (subc rfl (subc rfl (subc rfl (subc rfl (subc rfl (subc rfl (subc rfl (subc rfl (subc rfl sub0)))))))))))))))))))))))))))))))))))))
  refine t_normal ?_
  refine c_ret (by kernel_rfl) ?_
  refine p_tmp Tryd.results37 F rfl ?_
  exact ⟨rfl, H.ends⟩
end Go.Proofs.YtndicjikjcifaaaDoor

/- Numbers as the laws cut them down. -/
namespace Go.Proofs.YtndicjikjcifaaaDoor
open Go.RowKit Go.Proofs.YtndicjikjcifaaaDoorW.PrintWords Go.Proofs.YtndicjikjcifaaaDoorW.PrintLast
open PB (S33 k33)
set_option linter.unusedVariables false
set_option linter.unusedSimpArgs false
theorem cut_num (c x k : Int) (hc0 : 0 ≤ c) (hc1 : c ≤ 1000) (hk0 : 0 < k) (hk1 : k ≤ 1000) :
    ∃ z : Int, IntKind.i64.wrap (c + (IntKind.i64.wrap (Int.tmod (IntKind.u64.wrap x) k))) = z ∧ c ≤ z ∧ z ≤ c + k - 1 := by
  have h0 : 0 ≤ IntKind.u64.wrap x := by simp [IntKind.wrap, IntKind.bits, IntKind.signed]; omega
  refine ⟨_, rfl, ?_⟩
  rw [Int.tmod_eq_emod_of_nonneg h0]
  have h1 := Int.emod_nonneg (IntKind.u64.wrap x) (show k ≠ 0 by omega)
  have h2 := Int.emod_lt_of_pos (IntKind.u64.wrap x) hk0
  rw [wrap_i64 (IntKind.u64.wrap x % k) (by omega) (by omega), wrap_i64 _ (by omega) (by omega)]
  omega
theorem x_rem {P : Program} {a : Act} {W : World} {x y : Operand} {ty t yt : TypeId} {k : IntKind} {p q : Int} (hx : a.eval x = .int k p) (hy : a.eval y = .int k q) (hq : q ≠ 0) : (ex a (.binOp .rem t x y yt) ty).run P W = .ok (.value (.int k (Int.tmod p q))) W := by
  refine x_int hx hy ?_
  simp [binOp, eqGuard, Op.intDiv, hq]
end Go.Proofs.YtndicjikjcifaaaDoor

/- BatchWaits. -/
namespace Go.Proofs.YtndicjikjcifaaaDoor
open Go.RowKit Go.Proofs.YtndicjikjcifaaaDoorW.PrintWords Go.Proofs.YtndicjikjcifaaaDoorW.PrintLast
set_option linter.unusedVariables false
set_option linter.unusedSimpArgs false
set_option maxRecDepth 100000
open PB (S33 k33)
set_option maxHeartbeats 1000000 in
theorem batchWaits_calls (a0 b0 c0 : Int) (w : World) : Calls Tryd.prog 9 #[.int .i64 a0, .int .i64 b0, .int .i64 c0] w fun e W => e = .returned (.bool true) ∧ Below w.heap.size w W := by
  obtain ⟨z1, hz, hz1, hz2⟩ := cut_num 2 a0 15 (by decide) (by decide) (by decide) (by decide)
  obtain ⟨T1, hT, hT1, hT2⟩ := cut_num 1 b0 50 (by decide) (by decide) (by decide) (by decide)
  obtain ⟨N1, hN, hN1, hN2⟩ := cut_num 1 c0 (z1 - 1) (by decide) (by decide) (by omega) (by omega)
  have hok : SealOk 0 z1 T1 := by unfold SealOk; omega
  refine c_enter2 (args := [.int .i64 a0, .int .i64 b0, .int .i64 c0]) (S := (fun _ => False)) (R := (fun _ => True)) (M := []) Tryd.func9 (by kernel_rfl) 85 Tryd.ntmps9 (Nat.le_of_ble_eq_true rfl) (St.first w (fun _ => False) (fun _ => True)) (fun a W F H => ?_)
  have F := F.less [(0, .int .i64 a0), (1, .int .i64 b0), (2, .int .i64 c0)] (subc rfl (subc rfl (subc rfl sub0)))
  refine c_seq (by kernel_rfl) ?_
  refine c_text (id := 0) (by kernel_rfl) [(0, 2)] (by kernel_rfl) ?_
  refine sq2 (W' := W) (show Eq (α := OSk) _ (some (some 6, (.assign (.const (.bool false))), 4, none)) by kernel_rfl) trivial F (by decide) (v := .bool false) (x_assign rfl) (fun _ => trivial) (fun a F => ?_)
  unfold wpSeq
  have H : St w (fun _ => False) (fun _ => True) [] W := H
  refine t_normal ?_
  refine c_seq (by kernel_rfl) ?_
  refine c_seq (by kernel_rfl) ?_
  refine c_text (id := 1) (by kernel_rfl) [(0, 2), (1, 2)] (by kernel_rfl) ?_
  refine sqc (show Eq (α := OSk) _ (some (some 15, (.call { callee := (.value (.func 37)), args := #[], argTypes := #[] }), 4, none)) by kernel_rfl) trivial F (by decide) (x_call Tryd.func37 (by kernel_rfl) rfl (args_0)) (bworks_calls W) ?_
  rintro e W ⟨rfl, hB⟩
  refine ⟨_, rfl, fun a F => ?_⟩
  have H := H.below hB
  refine ⟨(fun _ => trivial), ?_⟩
  refine sq2 (W' := W) (show Eq (α := OSk) _ (some (some 16, (.unOp .not 4 (.tmp 15)), 4, none)) by kernel_rfl) trivial F (by decide) (v := .bool false) (x_not (b := true) (F.slot rfl)) (fun _ => trivial) (fun a F => ?_)
  unfold wpSeq
  refine t_normal ?_
  refine c_no (c := .tmp 16) (by kernel_rfl) (F.slot rfl) ?_
  refine c_skip (by kernel_rfl) ?_
  refine t_normal ?_
  refine c_seq (by kernel_rfl) ?_
  refine c_text (id := 3) (by kernel_rfl) [(0, 2), (1, 2), (2, 2), (3, 2), (4, 2), (5, 2), (6, 2), (7, 2), (8, 2), (9, 2), (10, 2), (11, 2)] (by kernel_rfl) ?_
  refine sq2 (W' := W) (show Eq (α := OSk) _ (some (some 17, (.move (.tmp 0)), 3, none)) by kernel_rfl) trivial F (by decide) (v := .int .i64 a0) (x_move (F.slot rfl)) (fun _ => trivial) (fun a F => ?_)
  refine sq2 (W' := W) (show Eq (α := OSk) _ (some (some 18, (.convert 3 30 (.tmp 17)), 30, none)) by kernel_rfl) trivial F (by decide) (v := .int .u64 (IntKind.u64.wrap a0)) (x_conv Tryd.underlying3 Tryd.underlying30 (F.slot rfl)) (fun _ => trivial) (fun a F => ?_)
  refine sq2 (W' := W) (show Eq (α := OSk) _ (some (some 19, (.binOp .rem 30 (.tmp 18) (.const (.int .u64 15)) 30), 30, none)) by kernel_rfl) trivial F (by decide) (v := .int .u64 (Int.tmod (IntKind.u64.wrap a0) 15)) (x_int (F.slot rfl) rfl rfl) (fun _ => trivial) (fun a F => ?_)
  refine sq2 (W' := W) (show Eq (α := OSk) _ (some (some 20, (.convert 30 3 (.tmp 19)), 3, none)) by kernel_rfl) trivial F (by decide) (v := .int .i64 (IntKind.i64.wrap (Int.tmod (IntKind.u64.wrap a0) 15))) (x_conv Tryd.underlying30 Tryd.underlying3 (F.slot rfl)) (fun _ => trivial) (fun a F => ?_)
  have F := F.conv (v' := .int .i64 (IntKind.i64.wrap (Int.tmod (IntKind.u64.wrap a0) 15))) (rfl)
  refine sq2 (W' := W) (show Eq (α := OSk) _ (some (some 21, (.binOp .add 3 (.const (.int .i64 2)) (.tmp 20) 3), 3, none)) by kernel_rfl) trivial F (by decide) (v := .int .i64 (IntKind.i64.wrap (2 + (IntKind.i64.wrap (Int.tmod (IntKind.u64.wrap a0) 15))))) (x_int rfl (F.slot rfl) rfl) (fun _ => trivial) (fun a F => ?_)
  have F := F.conv (v' := .int .i64 z1) (congrArg (Value.int .i64) hz)
  refine sq2 (W' := W) (show Eq (α := OSk) _ (some (some 22, (.move (.tmp 1)), 3, none)) by kernel_rfl) trivial F (by decide) (v := .int .i64 b0) (x_move (F.slot rfl)) (fun _ => trivial) (fun a F => ?_)
  refine sq2 (W' := W) (show Eq (α := OSk) _ (some (some 23, (.convert 3 30 (.tmp 22)), 30, none)) by kernel_rfl) trivial F (by decide) (v := .int .u64 (IntKind.u64.wrap b0)) (x_conv Tryd.underlying3 Tryd.underlying30 (F.slot rfl)) (fun _ => trivial) (fun a F => ?_)
  refine sq2 (W' := W) (show Eq (α := OSk) _ (some (some 24, (.binOp .rem 30 (.tmp 23) (.const (.int .u64 50)) 30), 30, none)) by kernel_rfl) trivial F (by decide) (v := .int .u64 (Int.tmod (IntKind.u64.wrap b0) 50)) (x_int (F.slot rfl) rfl rfl) (fun _ => trivial) (fun a F => ?_)
  refine sq2 (W' := W) (show Eq (α := OSk) _ (some (some 25, (.convert 30 3 (.tmp 24)), 3, none)) by kernel_rfl) trivial F (by decide) (v := .int .i64 (IntKind.i64.wrap (Int.tmod (IntKind.u64.wrap b0) 50))) (x_conv Tryd.underlying30 Tryd.underlying3 (F.slot rfl)) (fun _ => trivial) (fun a F => ?_)
  have F := F.conv (v' := .int .i64 (IntKind.i64.wrap (Int.tmod (IntKind.u64.wrap b0) 50))) (rfl)
  refine sq2 (W' := W) (show Eq (α := OSk) _ (some (some 26, (.binOp .add 3 (.const (.int .i64 1)) (.tmp 25) 3), 3, none)) by kernel_rfl) trivial F (by decide) (v := .int .i64 (IntKind.i64.wrap (1 + (IntKind.i64.wrap (Int.tmod (IntKind.u64.wrap b0) 50))))) (x_int rfl (F.slot rfl) rfl) (fun _ => trivial) (fun a F => ?_)
  have F := F.conv (v' := .int .i64 T1) (congrArg (Value.int .i64) hT)
  refine sq2 (W' := W) (show Eq (α := OSk) _ (some (some 0, (.assign (.tmp 21)), 3, none)) by kernel_rfl) trivial F (by decide) (v := .int .i64 z1) (x_assign (F.slot rfl)) (fun _ => trivial) (fun a F => ?_)
  refine sq2 (W' := W) (show Eq (α := OSk) _ (some (some 1, (.assign (.tmp 26)), 3, none)) by kernel_rfl) trivial F (by decide) (v := .int .i64 T1) (x_assign (F.slot rfl)) (fun _ => trivial) (fun a F => ?_)
  unfold wpSeq
  refine t_normal ?_
  refine c_seq (by kernel_rfl) ?_
  refine c_text (id := 4) (by kernel_rfl) [(0, 2), (1, 2), (2, 2), (3, 2), (4, 2), (5, 2), (6, 2), (7, 2), (8, 2)] (by kernel_rfl) ?_
  refine sq2 (W' := W) (show Eq (α := OSk) _ (some (some 27, (.move (.tmp 2)), 3, none)) by kernel_rfl) trivial F (by decide) (v := .int .i64 c0) (x_move (F.slot rfl)) (fun _ => trivial) (fun a F => ?_)
  refine sq2 (W' := W) (show Eq (α := OSk) _ (some (some 28, (.convert 3 30 (.tmp 27)), 30, none)) by kernel_rfl) trivial F (by decide) (v := .int .u64 (IntKind.u64.wrap c0)) (x_conv Tryd.underlying3 Tryd.underlying30 (F.slot rfl)) (fun _ => trivial) (fun a F => ?_)
  refine sq2 (W' := W) (show Eq (α := OSk) _ (some (some 29, (.move (.tmp 0)), 3, none)) by kernel_rfl) trivial F (by decide) (v := .int .i64 z1) (x_move (F.slot rfl)) (fun _ => trivial) (fun a F => ?_)
  refine sq2 (W' := W) (show Eq (α := OSk) _ (some (some 30, (.binOp .sub 3 (.tmp 29) (.const (.int .i64 1)) 3), 3, none)) by kernel_rfl) trivial F (by decide) (v := .int .i64 (IntKind.i64.wrap (z1 - 1))) (x_int (F.slot rfl) rfl rfl) (fun _ => trivial) (fun a F => ?_)
  have F := F.conv (v' := .int .i64 (z1 - 1)) (congrArg (Value.int .i64) (wrap_i64 _ (by omega) (by omega)))
  refine sq2 (W' := W) (show Eq (α := OSk) _ (some (some 31, (.convert 3 30 (.tmp 30)), 30, none)) by kernel_rfl) trivial F (by decide) (v := .int .u64 (IntKind.u64.wrap (z1 - 1))) (x_conv Tryd.underlying3 Tryd.underlying30 (F.slot rfl)) (fun _ => trivial) (fun a F => ?_)
  have F := F.conv (v' := .int .u64 (z1 - 1)) (congrArg (Value.int .u64) (wrap_u64 _ (by omega) (by omega)))
  refine sq2 (W' := W) (show Eq (α := OSk) _ (some (some 32, (.binOp .rem 30 (.tmp 28) (.tmp 31) 30), 30, none)) by kernel_rfl) trivial F (by decide) (v := .int .u64 (Int.tmod (IntKind.u64.wrap c0) (z1 - 1))) (x_rem (F.slot rfl) (F.slot rfl) (by omega)) (fun _ => trivial) (fun a F => ?_)
  refine sq2 (W' := W) (show Eq (α := OSk) _ (some (some 33, (.convert 30 3 (.tmp 32)), 3, none)) by kernel_rfl) trivial F (by decide) (v := .int .i64 (IntKind.i64.wrap (Int.tmod (IntKind.u64.wrap c0) (z1 - 1)))) (x_conv Tryd.underlying30 Tryd.underlying3 (F.slot rfl)) (fun _ => trivial) (fun a F => ?_)
  have F := F.conv (v' := .int .i64 (IntKind.i64.wrap (Int.tmod (IntKind.u64.wrap c0) (z1 - 1)))) (rfl)
  refine sq2 (W' := W) (show Eq (α := OSk) _ (some (some 34, (.binOp .add 3 (.const (.int .i64 1)) (.tmp 33) 3), 3, none)) by kernel_rfl) trivial F (by decide) (v := .int .i64 (IntKind.i64.wrap (1 + (IntKind.i64.wrap (Int.tmod (IntKind.u64.wrap c0) (z1 - 1)))))) (x_int rfl (F.slot rfl) rfl) (fun _ => trivial) (fun a F => ?_)
  have F := F.conv (v' := .int .i64 N1) (congrArg (Value.int .i64) hN)
  refine sq2 (W' := W) (show Eq (α := OSk) _ (some (some 2, (.assign (.tmp 34)), 3, none)) by kernel_rfl) trivial F (by decide) (v := .int .i64 N1) (x_assign (F.slot rfl)) (fun _ => trivial) (fun a F => ?_)
  unfold wpSeq
  refine t_normal ?_
  refine c_seq (by kernel_rfl) ?_
  refine c_text (id := 5) (by kernel_rfl) [(0, 2), (1, 2), (2, 2), (3, 2), (4, 2), (5, 2), (6, 2), (7, 2)] (by kernel_rfl) ?_
  refine sq2 (W' := W) (show Eq (α := OSk) _ (some (some 36, (.move (.tmp 0)), 3, none)) by kernel_rfl) trivial F (by decide) (v := .int .i64 z1) (x_move (F.slot rfl)) (fun _ => trivial) (fun a F => ?_)
  refine sq2 (W' := W) (show Eq (α := OSk) _ (some (some 37, (.move (.tmp 1)), 3, none)) by kernel_rfl) trivial F (by decide) (v := .int .i64 T1) (x_move (F.slot rfl)) (fun _ => trivial) (fun a F => ?_)
  refine sqc (show Eq (α := OSk) _ (some (some 38, (.call { callee := (.value (.func 16)), args := #[(.const (.int .i64 0)), (.tmp 36), (.tmp 37)], argTypes := #[3, 3, 3] }), 25, none)) by kernel_rfl) trivial F (by decide) (x_call Tryd.func16 (by kernel_rfl) rfl (args_3 rfl (F.slot rfl) (F.slot rfl))) ((new_calls 0 z1 T1 W).mono (fun _ _ h => h.is hok)) ?_
  rintro e W ⟨ga, rfl, hga, hbga, hB⟩
  refine ⟨_, rfl, fun a F => ?_⟩
  have H := H.newBlk hB hga hbga
  have H : St w (fun _ => False) (fun _ => True) [Asn.blk ga [.int .i64 0, .int .i64 z1, .int .i64 T1, .slice none 0 0, .int .i64 0, .int .i64 0] 72] W := H
  refine ⟨(fun _ => trivial), ?_⟩
  refine sq2 (W' := W) (show Eq (α := OSk) _ (some (some 35, (.move (.tmp 38)), 25, none)) by kernel_rfl) trivial F (by decide) (v := .tuple #[.pointer (some ⟨ga, 0, none⟩), .int .i64 0]) (x_move (F.slot rfl)) (fun _ => trivial) (fun a F => ?_)
  refine sq2 (W' := W) (show Eq (α := OSk) _ (some (some 39, (.extract (.tmp 35) 0), 23, none)) by kernel_rfl) trivial F (by decide) (v := .pointer (some ⟨ga, 0, none⟩)) (x_extract (F.slot rfl) rfl) (fun _ => trivial) (fun a F => ?_)
  refine sq2 (W' := W) (show Eq (α := OSk) _ (some (some 40, (.extract (.tmp 35) 1), 24, none)) by kernel_rfl) trivial F (by decide) (v := .int .i64 0) (x_extract (F.slot rfl) rfl) (fun _ => trivial) (fun a F => ?_)
  refine sq2 (W' := W) (show Eq (α := OSk) _ (some (some 7, (.assign (.tmp 39)), 23, none)) by kernel_rfl) trivial F (by decide) (v := .pointer (some ⟨ga, 0, none⟩)) (x_assign (F.slot rfl)) (fun _ => trivial) (fun a F => ?_)
  refine sq2 (W' := W) (show Eq (α := OSk) _ (some (some 8, (.assign (.tmp 40)), 24, none)) by kernel_rfl) trivial F (by decide) (v := .int .i64 0) (x_assign (F.slot rfl)) (fun _ => trivial) (fun a F => ?_)
  unfold wpSeq
  refine t_normal ?_
  refine c_seq (by kernel_rfl) ?_
  refine c_seq (by kernel_rfl) ?_
  refine c_text (id := 6) (by kernel_rfl) [(0, 2), (1, 2), (2, 2), (3, 2), (4, 2), (5, 2)] (by kernel_rfl) ?_
  refine sq2 (W' := W) (show Eq (α := OSk) _ (some (some 41, (.move (.tmp 8)), 24, none)) by kernel_rfl) trivial F (by decide) (v := .int .i64 0) (x_move (F.slot rfl)) (fun _ => trivial) (fun a F => ?_)
  refine sq2 (W' := W) (show Eq (α := OSk) _ (some (some 42, (.binOp .neq 24 (.tmp 41) (.const (.int .i64 0)) 24), 4, none)) by kernel_rfl) trivial F (by decide) (v := .bool false) (x_int (F.slot rfl) rfl rfl) (fun _ => trivial) (fun a F => ?_)
  refine sq2 (W' := W) (show Eq (α := OSk) _ (some (some 43, (.move (.tmp 42)), 4, none)) by kernel_rfl) trivial F (by decide) (v := .bool false) (x_move (F.slot rfl)) (fun _ => trivial) (fun a F => ?_)
  refine sq2 (W' := W) (show Eq (α := OSk) _ (some (some 44, (.move (.tmp 7)), 23, some (2, false))) by kernel_rfl) ⟨43, by kernel_rfl, rfl⟩ F (by decide) (v := .pointer (some ⟨ga, 0, none⟩)) (x_move (F.slot rfl)) (fun _ => trivial) (fun a F => ?_)
  refine sq2 (W' := W) (show Eq (α := OSk) _ (some (some 45, (.binOp .eql 23 (.tmp 44) (.const (.pointer none)) 23), 4, some (2, false))) by kernel_rfl) ⟨43, by kernel_rfl, rfl⟩ F (by decide) (v := .bool false) (x_bin (F.slot rfl) rfl rfl) (fun _ => trivial) (fun a F => ?_)
  refine sq2 (W' := W) (show Eq (α := OSk) _ (some (some 46, (.pick (.tmp 43) (.const (.bool true)) (.tmp 45)), 4, none)) by kernel_rfl) trivial F (by decide) (v := .bool false) (x_pickF (F.slot rfl) (F.slot rfl)) (fun _ => trivial) (fun a F => ?_)
  unfold wpSeq
  refine t_normal ?_
  refine c_no (c := .tmp 46) (by kernel_rfl) (F.slot rfl) ?_
  refine c_skip (by kernel_rfl) ?_
  refine t_normal ?_
  refine c_seq (by kernel_rfl) ?_
  refine c_seq (by kernel_rfl) ?_
  have H := H.quNil k33 33
  refine c_text (id := 8) (by kernel_rfl) [(0, 2)] (by kernel_rfl) ?_
  refine sq2 (W' := W) (show Eq (α := OSk) _ (some (some 9, (.assign (.const (.int .i64 0))), 3, none)) by kernel_rfl) trivial F (by decide) (v := .int .i64 0) (x_assign rfl) (fun _ => trivial) (fun a F => ?_)
  unfold wpSeq
  have H : St w (fun _ => False) (fun _ => True) [Asn.blk ga [.int .i64 0, .int .i64 z1, .int .i64 T1, .slice none 0 0, .int .i64 0, .int .i64 0] 72, Asn.qu k33 33 (.slice none 0 0) ([] : List S33) (fun _ => False)] W := H
  refine t_normal ?_
  refine c_block (id := 0) (by kernel_rfl) ?_
  refine c_loop (by kernel_rfl) (fun k a W => ∃ (j : Nat) (A1 : Option Addr) (c1 : Nat) (xs : List S33) (ok1 : Nat → Prop), Fr 85 [(0, .int .i64 z1), (1, .int .i64 T1), (2, .int .i64 N1), (6, .bool false), (15, .bool true), (16, .bool false), (17, .int .i64 a0), (18, .int .u64 (IntKind.u64.wrap a0)), (19, .int .u64 (Int.tmod (IntKind.u64.wrap a0) 15)), (20, .int .i64 (IntKind.i64.wrap (Int.tmod (IntKind.u64.wrap a0) 15))), (21, .int .i64 z1), (22, .int .i64 b0), (23, .int .u64 (IntKind.u64.wrap b0)), (24, .int .u64 (Int.tmod (IntKind.u64.wrap b0) 50)), (25, .int .i64 (IntKind.i64.wrap (Int.tmod (IntKind.u64.wrap b0) 50))), (26, .int .i64 T1), (27, .int .i64 c0), (28, .int .u64 (IntKind.u64.wrap c0)), (29, .int .i64 z1), (30, .int .i64 (z1 - 1)), (31, .int .u64 (z1 - 1)), (32, .int .u64 (Int.tmod (IntKind.u64.wrap c0) (z1 - 1))), (33, .int .i64 (IntKind.i64.wrap (Int.tmod (IntKind.u64.wrap c0) (z1 - 1)))), (34, .int .i64 N1), (36, .int .i64 z1), (37, .int .i64 T1), (38, .tuple #[.pointer (some ⟨ga, 0, none⟩), .int .i64 0]), (35, .tuple #[.pointer (some ⟨ga, 0, none⟩), .int .i64 0]), (39, .pointer (some ⟨ga, 0, none⟩)), (40, .int .i64 0), (7, .pointer (some ⟨ga, 0, none⟩)), (8, .int .i64 0), (41, .int .i64 0), (42, .bool false), (43, .bool false), (44, .pointer (some ⟨ga, 0, none⟩)), (45, .bool false), (46, .bool false), (9, .int .i64 (j : Int))] a ∧ St w (fun _ => False) (fun _ => True) [Asn.blk ga [.int .i64 0, .int .i64 z1, .int .i64 T1, .slice A1 xs.length c1, .int .i64 0, .int .i64 0] 72, Asn.qu k33 33 (.slice A1 xs.length c1) xs ok1] W ∧ ((k : Int) + j = N1) ∧ ((j : Int) ≤ N1) ∧ (xs.length = j)) N1.toNat ⟨0, none, 0, [], _, F.less _ (subc rfl (subc rfl (subc rfl (subc rfl (subc rfl (subc rfl (subc rfl (subc rfl (subc rfl (subc rfl (subc rfl (subc rfl (subc rfl (subc rfl (subc rfl (subc rfl (subc rfl (subc rfl (subc rfl (subc rfl (subc rfl (subc rfl (subc rfl (subc rfl (subc rfl (subc rfl (subc rfl (subc rfl (subc rfl (subc rfl (subc rfl (subc rfl (subc rfl (subc rfl (subc rfl (subc rfl (subc rfl (subc rfl (subc rfl sub0))))))))))))))))))))))))))))))))))))))), H, (by omega), (by omega), rfl⟩ ?_
  rintro k a W ⟨j, A1, c1, xs, ok1, F, H, hkj, hj, hxj⟩
  refine c_seq (by kernel_rfl) ?_
  refine c_seq (by kernel_rfl) ?_
  refine c_text (id := 9) (by kernel_rfl) [(0, 2), (1, 2), (2, 2)] (by kernel_rfl) ?_
  refine sq2 (W' := W) (show Eq (α := OSk) _ (some (some 47, (.move (.tmp 9)), 3, none)) by kernel_rfl) trivial F (by decide) (v := .int .i64 (j : Int)) (x_move (F.slot rfl)) (fun _ => trivial) (fun a F => ?_)
  refine sq2 (W' := W) (show Eq (α := OSk) _ (some (some 48, (.move (.tmp 2)), 3, none)) by kernel_rfl) trivial F (by decide) (v := .int .i64 N1) (x_move (F.slot rfl)) (fun _ => trivial) (fun a F => ?_)
  refine sq2 (W' := W) (show Eq (α := OSk) _ (some (some 49, (.binOp .lss 3 (.tmp 47) (.tmp 48) 3), 4, none)) by kernel_rfl) trivial F (by decide) (v := .bool (decide ((j : Int) < N1))) (x_int (F.slot rfl) (F.slot rfl) rfl) (fun _ => trivial) (fun a F => ?_)
  unfold wpSeq
  have H : St w (fun _ => False) (fun _ => True) [Asn.blk ga [.int .i64 0, .int .i64 z1, .int .i64 T1, .slice A1 xs.length c1, .int .i64 0, .int .i64 0] 72, Asn.qu k33 33 (.slice A1 xs.length c1) xs ok1] W := H
  refine t_normal ?_
  rcases bool_or (decide ((j : Int) < N1)) with hb1 | hb1
  · have hb1d := of_decide_eq_true hb1
    have F := F.at 49 rfl (v' := .bool true) (congrArg Value.bool hb1)
    refine c_yes (c := .tmp 49) (by kernel_rfl) (F.slot rfl) ?_
    refine c_skip (by kernel_rfl) ?_
    refine t_normal ?_
    refine c_seq (by kernel_rfl) ?_
    refine c_block (id := 1) (by kernel_rfl) ?_
    refine c_text (id := 11) (by kernel_rfl) [(0, 2), (1, 2), (2, 2), (3, 2)] (by kernel_rfl) ?_
    refine sq2 (W' := W) (show Eq (α := OSk) _ (some (some 52, (.move (.tmp 7)), 23, none)) by kernel_rfl) trivial F (by decide) (v := .pointer (some ⟨ga, 0, none⟩)) (x_move (F.slot rfl)) (fun _ => trivial) (fun a F => ?_)
    refine sq2 (W' := W) (show Eq (α := OSk) _ (some (some 53, (.move (.tmp 9)), 3, none)) by kernel_rfl) trivial F (by decide) (v := .int .i64 (j : Int)) (x_move (F.slot rfl)) (fun _ => trivial) (fun a F => ?_)
    refine sqc (show Eq (α := OSk) _ (some (some 54, (.call { callee := (.value (.func 38)), args := #[(.tmp 53)], argTypes := #[3] }), 33, none)) by kernel_rfl) trivial F (by decide) (x_call Tryd.func38 (by kernel_rfl) rfl (args_1 (F.slot rfl))) (pay5_calls (j : Int) (by omega) (by omega) W) ?_
    rintro e W ⟨B1, rfl, hF, hB⟩
    refine ⟨_, rfl, fun a F => ?_⟩
    have H := H.freshF hB _ _ hF (fun k hk => hk)
    have H : St w (fun _ => False) (fun _ => True) [Asn.blk ga [.int .i64 0, .int .i64 z1, .int .i64 T1, .slice A1 xs.length c1, .int .i64 0, .int .i64 0] 72, Asn.qu k33 33 (.slice A1 xs.length c1) xs ok1, Asn.fk k33 _ (payT (j : Int)) [.int .i64 ((payT (j : Int)).f0), .string ((payT (j : Int)).f1), .string ((payT (j : Int)).f2), .int .u64 ((payT (j : Int)).f3), .int .u64 ((payT (j : Int)).f4), .string ((payT (j : Int)).f5), .string ((payT (j : Int)).f6), .slice none ((payT (j : Int)).f7.length) 0, .slice B1 ((payT (j : Int)).f8.length) 2]] W := H
    refine ⟨(fun _ => trivial), ?_⟩
    have HS := H.select [0, 1, 2] [Asn.blk ga [.int .i64 0, .int .i64 z1, .int .i64 T1, .slice A1 xs.length c1, .int .i64 0, .int .i64 0] 72, Asn.qu k33 33 (.slice A1 xs.length c1) xs ok1, Asn.fk k33 _ (payT (j : Int)) [.int .i64 ((payT (j : Int)).f0), .string ((payT (j : Int)).f1), .string ((payT (j : Int)).f2), .int .u64 ((payT (j : Int)).f3), .int .u64 ((payT (j : Int)).f4), .string ((payT (j : Int)).f5), .string ((payT (j : Int)).f6), .slice none ((payT (j : Int)).f7.length) 0, .slice B1 ((payT (j : Int)).f8.length) 2]] rfl (by decide)
    refine sqc (show Eq (α := OSk) _ (some (some 55, (.call { callee := (.value (.func 18)), args := #[(.tmp 52), (.tmp 54)], argTypes := #[23, 33] }), 24, none)) by kernel_rfl) trivial F (by decide) (x_call Tryd.func18 (by kernel_rfl) rfl (args_2 (F.slot rfl) (F.slot rfl))) ((add_calls ga 0 z1 T1 0 0 A1 c1 xs ok1 _ (payT (j : Int)) none B1 0 2 W (by omega) (by omega) HS).mono (fun _ _ h => h.in_ (ch_payT (j : Int) (by omega)) (by omega))) ?_
    rintro e W ⟨rfl, Ap, cp, okp, H1⟩
    refine ⟨_, rfl, fun a F => ?_⟩
    have H := H.back [0, 1, 2] [Asn.blk ga [.int .i64 0, .int .i64 z1, .int .i64 T1, .slice A1 xs.length c1, .int .i64 0, .int .i64 0] 72, Asn.qu k33 33 (.slice A1 xs.length c1) xs ok1, Asn.fk k33 _ (payT (j : Int)) [.int .i64 ((payT (j : Int)).f0), .string ((payT (j : Int)).f1), .string ((payT (j : Int)).f2), .int .u64 ((payT (j : Int)).f3), .int .u64 ((payT (j : Int)).f4), .string ((payT (j : Int)).f5), .string ((payT (j : Int)).f6), .slice none ((payT (j : Int)).f7.length) 0, .slice B1 ((payT (j : Int)).f8.length) 2]] rfl (by decide) [Asn.blk ga [.int .i64 0, .int .i64 z1, .int .i64 T1, .slice Ap ((xs ++ [(payT (j : Int))]).length) cp, .int .i64 0, .int .i64 0] 72, Asn.qu k33 33 (.slice Ap ((xs ++ [(payT (j : Int))]).length) cp) (xs ++ [(payT (j : Int))]) okp, Asn.fk k33 _ (payT (j : Int)) [.int .i64 ((payT (j : Int)).f0), .string ((payT (j : Int)).f1), .string ((payT (j : Int)).f2), .int .u64 ((payT (j : Int)).f3), .int .u64 ((payT (j : Int)).f4), .string ((payT (j : Int)).f5), .string ((payT (j : Int)).f6), .slice none ((payT (j : Int)).f7.length) 0, .slice B1 ((payT (j : Int)).f8.length) 2]] [] rfl H1
    clear HS H1
    have H : St w (fun _ => False) (fun _ => True) [Asn.blk ga [.int .i64 0, .int .i64 z1, .int .i64 T1, .slice Ap ((xs ++ [(payT (j : Int))]).length) cp, .int .i64 0, .int .i64 0] 72, Asn.qu k33 33 (.slice Ap ((xs ++ [(payT (j : Int))]).length) cp) (xs ++ [(payT (j : Int))]) okp, Asn.fk k33 _ (payT (j : Int)) [.int .i64 ((payT (j : Int)).f0), .string ((payT (j : Int)).f1), .string ((payT (j : Int)).f2), .int .u64 ((payT (j : Int)).f3), .int .u64 ((payT (j : Int)).f4), .string ((payT (j : Int)).f5), .string ((payT (j : Int)).f6), .slice none ((payT (j : Int)).f7.length) 0, .slice B1 ((payT (j : Int)).f8.length) 2]] W := H
    refine ⟨(fun _ => trivial), ?_⟩
    unfold wpSeq
    refine b_normal ?_
    refine t_normal ?_
    refine c_text (id := 10) (by kernel_rfl) [(0, 2), (1, 2), (2, 2)] (by kernel_rfl) ?_
    refine sq2 (W' := W) (show Eq (α := OSk) _ (some (some 50, (.move (.tmp 9)), 3, none)) by kernel_rfl) trivial F (by decide) (v := .int .i64 (j : Int)) (x_move (F.slot rfl)) (fun _ => trivial) (fun a F => ?_)
    refine sq2 (W' := W) (show Eq (α := OSk) _ (some (some 51, (.binOp .add 3 (.tmp 50) (.const (.int .i64 1)) 3), 3, none)) by kernel_rfl) trivial F (by decide) (v := .int .i64 (IntKind.i64.wrap ((j : Int) + 1))) (x_int (F.slot rfl) rfl rfl) (fun _ => trivial) (fun a F => ?_)
    have F := F.conv (v' := .int .i64 ((j : Int) + 1)) (congrArg (Value.int .i64) (wrap_i64 _ (by omega) (by omega)))
    refine sq2 (W' := W) (show Eq (α := OSk) _ (some (some 9, (.assign (.tmp 51)), 3, none)) by kernel_rfl) trivial F (by decide) (v := .int .i64 ((j : Int) + 1)) (x_assign (F.slot rfl)) (fun _ => trivial) (fun a F => ?_)
    unfold wpSeq
    refine t_normal ?_
    have F_ := F
    have H := H.front 2
    have F := F.at 9 rfl (v' := .int .i64 ((j + 1 : Nat) : Int)) (congrArg (Value.int .i64) (by omega))
    have hxl : (xs ++ [(payT (j : Int))]).length = xs.length + 1 := by simp
    exact ⟨k - 1, by omega, j + 1, Ap, cp, (xs ++ [(payT (j : Int))]), _, F.less _ (subc rfl (subc rfl (subc rfl (subc rfl (subc rfl (subc rfl (subc rfl (subc rfl (subc rfl (subc rfl (subc rfl (subc rfl (subc rfl (subc rfl (subc rfl (subc rfl (subc rfl (subc rfl (subc rfl (subc rfl (subc rfl (subc rfl (subc rfl (subc rfl (subc rfl (subc rfl (subc rfl (subc rfl (subc rfl (subc rfl (subc rfl (subc rfl (subc rfl (subc rfl (subc rfl (subc rfl (subc rfl (subc rfl (subc rfl sub0))))))))))))))))))))))))))))))))))))))), H, (by omega), (by omega), (by omega)⟩
  · have hb1d := of_decide_eq_false hb1
    have F := F.at 49 rfl (v' := .bool false) (congrArg Value.bool hb1)
    refine c_no (c := .tmp 49) (by kernel_rfl) (F.slot rfl) ?_
    refine c_exit (id := 0) (by kernel_rfl) ?_
    refine t_exit ?_
    refine t_exit ?_
    refine b_here ?_
    refine t_normal ?_
    refine c_seq (by kernel_rfl) ?_
    refine c_seq (by kernel_rfl) ?_
    refine c_text (id := 12) (by kernel_rfl) [(0, 2)] (by kernel_rfl) ?_
    refine sq2 (W' := W) (show Eq (α := OSk) _ (some (some 10, (.assign (.const (.int .i64 1))), 3, none)) by kernel_rfl) trivial F (by decide) (v := .int .i64 1) (x_assign rfl) (fun _ => trivial) (fun a F => ?_)
    unfold wpSeq
    refine t_normal ?_
    refine c_block (id := 2) (by kernel_rfl) ?_
    refine c_loop (by kernel_rfl) (fun k a W => ∃ (i : Nat) (k0 : Int), Fr 85 [(0, .int .i64 z1), (1, .int .i64 T1), (2, .int .i64 N1), (15, .bool true), (16, .bool false), (17, .int .i64 a0), (18, .int .u64 (IntKind.u64.wrap a0)), (19, .int .u64 (Int.tmod (IntKind.u64.wrap a0) 15)), (20, .int .i64 (IntKind.i64.wrap (Int.tmod (IntKind.u64.wrap a0) 15))), (21, .int .i64 z1), (22, .int .i64 b0), (23, .int .u64 (IntKind.u64.wrap b0)), (24, .int .u64 (Int.tmod (IntKind.u64.wrap b0) 50)), (25, .int .i64 (IntKind.i64.wrap (Int.tmod (IntKind.u64.wrap b0) 50))), (26, .int .i64 T1), (27, .int .i64 c0), (28, .int .u64 (IntKind.u64.wrap c0)), (29, .int .i64 z1), (30, .int .i64 (z1 - 1)), (31, .int .u64 (z1 - 1)), (32, .int .u64 (Int.tmod (IntKind.u64.wrap c0) (z1 - 1))), (33, .int .i64 (IntKind.i64.wrap (Int.tmod (IntKind.u64.wrap c0) (z1 - 1)))), (34, .int .i64 N1), (36, .int .i64 z1), (37, .int .i64 T1), (38, .tuple #[.pointer (some ⟨ga, 0, none⟩), .int .i64 0]), (35, .tuple #[.pointer (some ⟨ga, 0, none⟩), .int .i64 0]), (39, .pointer (some ⟨ga, 0, none⟩)), (40, .int .i64 0), (7, .pointer (some ⟨ga, 0, none⟩)), (8, .int .i64 0), (41, .int .i64 0), (42, .bool false), (43, .bool false), (44, .pointer (some ⟨ga, 0, none⟩)), (45, .bool false), (46, .bool false), (9, .int .i64 (j : Int)), (47, .int .i64 (j : Int)), (48, .int .i64 N1), (49, .bool false), (10, .int .i64 (i : Int))] a ∧ St w (fun _ => False) (fun _ => True) [Asn.blk ga [.int .i64 0, .int .i64 z1, .int .i64 T1, .slice A1 xs.length c1, .int .i64 k0, .int .i64 0] 72, Asn.qu k33 33 (.slice A1 xs.length c1) xs ok1] W ∧ ((k : Int) + i = T1) ∧ (1 ≤ i) ∧ ((i : Int) ≤ T1) ∧ (k0 = (i : Int) - 1)) (T1.toNat - 1) ⟨1, 0, F.less _ (subc rfl (subc rfl (subc rfl (subc rfl (subc rfl (subc rfl (subc rfl (subc rfl (subc rfl (subc rfl (subc rfl (subc rfl (subc rfl (subc rfl (subc rfl (subc rfl (subc rfl (subc rfl (subc rfl (subc rfl (subc rfl (subc rfl (subc rfl (subc rfl (subc rfl (subc rfl (subc rfl (subc rfl (subc rfl (subc rfl (subc rfl (subc rfl (subc rfl (subc rfl (subc rfl (subc rfl (subc rfl (subc rfl (subc rfl (subc rfl (subc rfl (subc rfl sub0)))))))))))))))))))))))))))))))))))))))))), H, (by omega), (by omega), (by omega), (by omega)⟩ ?_
    rintro k a W ⟨i, k0, F, H, hki, hi1, hi, hk0⟩
    refine c_seq (by kernel_rfl) ?_
    refine c_seq (by kernel_rfl) ?_
    refine c_text (id := 13) (by kernel_rfl) [(0, 2), (1, 2), (2, 2)] (by kernel_rfl) ?_
    refine sq2 (W' := W) (show Eq (α := OSk) _ (some (some 56, (.move (.tmp 10)), 3, none)) by kernel_rfl) trivial F (by decide) (v := .int .i64 (i : Int)) (x_move (F.slot rfl)) (fun _ => trivial) (fun a F => ?_)
    refine sq2 (W' := W) (show Eq (α := OSk) _ (some (some 57, (.move (.tmp 1)), 3, none)) by kernel_rfl) trivial F (by decide) (v := .int .i64 T1) (x_move (F.slot rfl)) (fun _ => trivial) (fun a F => ?_)
    refine sq2 (W' := W) (show Eq (α := OSk) _ (some (some 58, (.binOp .lss 3 (.tmp 56) (.tmp 57) 3), 4, none)) by kernel_rfl) trivial F (by decide) (v := .bool (decide ((i : Int) < T1))) (x_int (F.slot rfl) (F.slot rfl) rfl) (fun _ => trivial) (fun a F => ?_)
    unfold wpSeq
    have H : St w (fun _ => False) (fun _ => True) [Asn.blk ga [.int .i64 0, .int .i64 z1, .int .i64 T1, .slice A1 xs.length c1, .int .i64 k0, .int .i64 0] 72, Asn.qu k33 33 (.slice A1 xs.length c1) xs ok1] W := H
    refine t_normal ?_
    rcases bool_or (decide ((i : Int) < T1)) with hb2 | hb2
    · have hb2d := of_decide_eq_true hb2
      have F := F.at 58 rfl (v' := .bool true) (congrArg Value.bool hb2)
      refine c_yes (c := .tmp 58) (by kernel_rfl) (F.slot rfl) ?_
      refine c_skip (by kernel_rfl) ?_
      refine t_normal ?_
      refine c_seq (by kernel_rfl) ?_
      refine c_block (id := 3) (by kernel_rfl) ?_
      refine c_seq (by kernel_rfl) ?_
      refine c_text (id := 15) (by kernel_rfl) [(0, 2), (1, 2), (2, 2), (3, 2), (4, 2), (5, 2), (6, 2), (7, 2)] (by kernel_rfl) ?_
      refine sq2 (W' := W) (show Eq (α := OSk) _ (some (some 62, (.move (.tmp 7)), 23, none)) by kernel_rfl) trivial F (by decide) (v := .pointer (some ⟨ga, 0, none⟩)) (x_move (F.slot rfl)) (fun _ => trivial) (fun a F => ?_)
      have HS := H.select [0, 1] [Asn.blk ga [.int .i64 0, .int .i64 z1, .int .i64 T1, .slice A1 xs.length c1, .int .i64 k0, .int .i64 0] 72, Asn.qu k33 33 (.slice A1 xs.length c1) xs ok1] rfl (by decide)
      refine sqc (show Eq (α := OSk) _ (some (some 63, (.call { callee := (.value (.func 21)), args := #[(.tmp 62)], argTypes := #[23] }), 41, none)) by kernel_rfl) trivial F (by decide) (x_call Tryd.func21 (by kernel_rfl) rfl (args_1 (F.slot rfl))) ((tick_calls ga 0 z1 T1 k0 0 A1 c1 xs ok1 W (by omega) (by omega) (by omega) (by omega) (by omega) (by omega) (by omega) HS).mono (fun _ _ h => h.wait (by omega) ⟨by omega, by omega⟩)) ?_
      rintro e W ⟨rfl, H1⟩
      refine ⟨_, rfl, fun a F => ?_⟩
      have H := H.back [0, 1] [Asn.blk ga [.int .i64 0, .int .i64 z1, .int .i64 T1, .slice A1 xs.length c1, .int .i64 k0, .int .i64 0] 72, Asn.qu k33 33 (.slice A1 xs.length c1) xs ok1] rfl (by decide) [Asn.blk ga [.int .i64 0, .int .i64 z1, .int .i64 T1, .slice A1 xs.length c1, .int .i64 (k0 + 1), .int .i64 0] 72, Asn.qu k33 33 (.slice A1 xs.length c1) xs ok1] [] rfl H1
      clear HS H1
      have H : St w (fun _ => False) (fun _ => True) [Asn.blk ga [.int .i64 0, .int .i64 z1, .int .i64 T1, .slice A1 xs.length c1, .int .i64 (k0 + 1), .int .i64 0] 72, Asn.qu k33 33 (.slice A1 xs.length c1) xs ok1] W := H
      refine ⟨(fun _ => trivial), ?_⟩
      refine sq2 (W' := W) (show Eq (α := OSk) _ (some (some 61, (.move (.tmp 63)), 41, none)) by kernel_rfl) trivial F (by decide) (v := .tuple #[.agg #[.int .i64 0, .int .i64 0, .slice none 0 0], .bool false]) (x_move (F.slot rfl)) (fun _ => trivial) (fun a F => ?_)
      refine sq2 (W' := W) (show Eq (α := OSk) _ (some (some 64, (.extract (.tmp 61) 0), 40, none)) by kernel_rfl) trivial F (by decide) (v := .agg #[.int .i64 0, .int .i64 0, .slice none 0 0]) (x_extract (F.slot rfl) rfl) (fun _ => trivial) (fun a F => ?_)
      refine sq2 (W' := W) (show Eq (α := OSk) _ (some (some 65, (.extract (.tmp 61) 1), 4, none)) by kernel_rfl) trivial F (by decide) (v := .bool false) (x_extract (F.slot rfl) rfl) (fun _ => trivial) (fun a F => ?_)
      refine sq_new (show Eq (α := OSk) _ (some (some 11, (.alloc 40), 0, none)) by kernel_rfl) trivial F (by decide) H [.int .i64 0, .int .i64 0, .slice none 0 0] 40 (x_alloc Tryd.zeroValue40 rfl) ?_
      intro g3 W a hg3 H F
      refine ⟨(fun _ => trivial), ?_⟩
      refine sq_put (M := [Asn.blk ga [.int .i64 0, .int .i64 z1, .int .i64 T1, .slice A1 xs.length c1, .int .i64 (k0 + 1), .int .i64 0] 72, Asn.qu k33 33 (.slice A1 xs.length c1) xs ok1, Asn.blk g3 [.int .i64 0, .int .i64 0, .slice none 0 0] 40]) (show Eq (α := OSk) _ (some (none, (.store 40 (.tmp 11) (.tmp 64)), 0, none)) by kernel_rfl) trivial F (x_store H (k := 2) (cs' := [.int .i64 0, .int .i64 0, .slice none 0 0]) rfl (Tryd.sizeOf40 W) (F.slot rfl) (F.slot rfl) rfl (Nat.le_of_ble_eq_true rfl) rfl rfl) ?_
      intro W H
      refine ⟨(fun _ => trivial), ?_⟩
      refine sq2 (W' := W) (show Eq (α := OSk) _ (some (some 12, (.assign (.tmp 65)), 4, none)) by kernel_rfl) trivial F (by decide) (v := .bool false) (x_assign (F.slot rfl)) (fun _ => trivial) (fun a F => ?_)
      unfold wpSeq
      refine t_normal ?_
      refine c_seq (by kernel_rfl) ?_
      refine c_text (id := 16) (by kernel_rfl) [(0, 2)] (by kernel_rfl) ?_
      refine sq2 (W' := W) (show Eq (α := OSk) _ (some (some 66, (.move (.tmp 12)), 4, none)) by kernel_rfl) trivial F (by decide) (v := .bool false) (x_move (F.slot rfl)) (fun _ => trivial) (fun a F => ?_)
      unfold wpSeq
      refine t_normal ?_
      refine c_no (c := .tmp 66) (by kernel_rfl) (F.slot rfl) ?_
      refine c_skip (by kernel_rfl) ?_
      refine b_normal ?_
      refine t_normal ?_
      refine c_text (id := 14) (by kernel_rfl) [(0, 2), (1, 2), (2, 2)] (by kernel_rfl) ?_
      refine sq2 (W' := W) (show Eq (α := OSk) _ (some (some 59, (.move (.tmp 10)), 3, none)) by kernel_rfl) trivial F (by decide) (v := .int .i64 (i : Int)) (x_move (F.slot rfl)) (fun _ => trivial) (fun a F => ?_)
      refine sq2 (W' := W) (show Eq (α := OSk) _ (some (some 60, (.binOp .add 3 (.tmp 59) (.const (.int .i64 1)) 3), 3, none)) by kernel_rfl) trivial F (by decide) (v := .int .i64 (IntKind.i64.wrap ((i : Int) + 1))) (x_int (F.slot rfl) rfl rfl) (fun _ => trivial) (fun a F => ?_)
      have F := F.conv (v' := .int .i64 ((i : Int) + 1)) (congrArg (Value.int .i64) (wrap_i64 _ (by omega) (by omega)))
      refine sq2 (W' := W) (show Eq (α := OSk) _ (some (some 10, (.assign (.tmp 60)), 3, none)) by kernel_rfl) trivial F (by decide) (v := .int .i64 ((i : Int) + 1)) (x_assign (F.slot rfl)) (fun _ => trivial) (fun a F => ?_)
      unfold wpSeq
      refine t_normal ?_
      have F_ := F
      have H := H.front 2
      have F := F.at 10 rfl (v' := .int .i64 ((i + 1 : Nat) : Int)) (congrArg (Value.int .i64) (by omega))
      exact ⟨k - 1, by omega, i + 1, (k0 + 1), F.less _ (subc rfl (subc rfl (subc rfl (subc rfl (subc rfl (subc rfl (subc rfl (subc rfl (subc rfl (subc rfl (subc rfl (subc rfl (subc rfl (subc rfl (subc rfl (subc rfl (subc rfl (subc rfl (subc rfl (subc rfl (subc rfl (subc rfl (subc rfl (subc rfl (subc rfl (subc rfl (subc rfl (subc rfl (subc rfl (subc rfl (subc rfl (subc rfl (subc rfl (subc rfl (subc rfl (subc rfl (subc rfl (subc rfl (subc rfl (subc rfl (subc rfl (subc rfl sub0)))))))))))))))))))))))))))))))))))))))))), H, (by omega), (by omega), (by omega), (by omega)⟩
    · have hb2d := of_decide_eq_false hb2
      have F := F.at 58 rfl (v' := .bool false) (congrArg Value.bool hb2)
      refine c_no (c := .tmp 58) (by kernel_rfl) (F.slot rfl) ?_
      refine c_exit (id := 2) (by kernel_rfl) ?_
      refine t_exit ?_
      refine t_exit ?_
      refine b_here ?_
      refine t_normal ?_
      refine c_seq (by kernel_rfl) ?_
      refine c_text (id := 18) (by kernel_rfl) [(0, 2), (1, 2), (2, 2), (3, 2), (4, 2), (5, 2), (6, 2), (7, 2)] (by kernel_rfl) ?_
      refine sq2 (W' := W) (show Eq (α := OSk) _ (some (some 68, (.move (.tmp 7)), 23, none)) by kernel_rfl) trivial F (by decide) (v := .pointer (some ⟨ga, 0, none⟩)) (x_move (F.slot rfl)) (fun _ => trivial) (fun a F => ?_)
      have HS := H.select [0, 1] [Asn.blk ga [.int .i64 0, .int .i64 z1, .int .i64 T1, .slice A1 xs.length c1, .int .i64 k0, .int .i64 0] 72, Asn.qu k33 33 (.slice A1 xs.length c1) xs ok1] rfl (by decide)
      refine sqc (show Eq (α := OSk) _ (some (some 69, (.call { callee := (.value (.func 21)), args := #[(.tmp 68)], argTypes := #[23] }), 41, none)) by kernel_rfl) trivial F (by decide) (x_call Tryd.func21 (by kernel_rfl) rfl (args_1 (F.slot rfl))) ((tick_calls ga 0 z1 T1 k0 0 A1 c1 xs ok1 W (by omega) (by omega) (by omega) (by omega) (by omega) (by omega) (by omega) HS).mono (fun _ _ h => h.seal (by omega) (by omega) xs.length (by omega))) ?_
      rintro e W ⟨rfl, H1⟩
      refine ⟨_, rfl, fun a F => ?_⟩
      have H := H.back [0, 1] [Asn.blk ga [.int .i64 0, .int .i64 z1, .int .i64 T1, .slice A1 xs.length c1, .int .i64 k0, .int .i64 0] 72, Asn.qu k33 33 (.slice A1 xs.length c1) xs ok1] rfl (by decide) [Asn.blk ga [.int .i64 0, .int .i64 z1, .int .i64 T1, .slice (cutA A1 c1 xs.length) ((xs.drop xs.length).length) (c1 - xs.length), .int .i64 0, .int .i64 (0 + 1)] 72, Asn.qf k33 33 (.slice (cutA A1 c1 xs.length) (xs.drop xs.length).length (c1 - xs.length)) (xs.drop xs.length) ok1 A1 (xs.take xs.length).length (xs.take xs.length)] [] rfl H1
      clear HS H1
      have H : St w (fun _ => False) (fun _ => True) [Asn.blk ga [.int .i64 0, .int .i64 z1, .int .i64 T1, .slice (cutA A1 c1 xs.length) ((xs.drop xs.length).length) (c1 - xs.length), .int .i64 0, .int .i64 (0 + 1)] 72, Asn.qf k33 33 (.slice (cutA A1 c1 xs.length) (xs.drop xs.length).length (c1 - xs.length)) (xs.drop xs.length) ok1 A1 (xs.take xs.length).length (xs.take xs.length)] W := H
      refine ⟨(fun _ => trivial), ?_⟩
      refine sq2 (W' := W) (show Eq (α := OSk) _ (some (some 67, (.move (.tmp 69)), 41, none)) by kernel_rfl) trivial F (by decide) (v := .tuple #[.agg #[.int .i64 0, .int .i64 (0 + 1), .slice A1 ((xs.take xs.length).length) xs.length], .bool true]) (x_move (F.slot rfl)) (fun _ => trivial) (fun a F => ?_)
      refine sq2 (W' := W) (show Eq (α := OSk) _ (some (some 70, (.extract (.tmp 67) 0), 40, none)) by kernel_rfl) trivial F (by decide) (v := .agg #[.int .i64 0, .int .i64 (0 + 1), .slice A1 ((xs.take xs.length).length) xs.length]) (x_extract (F.slot rfl) rfl) (fun _ => trivial) (fun a F => ?_)
      refine sq2 (W' := W) (show Eq (α := OSk) _ (some (some 71, (.extract (.tmp 67) 1), 4, none)) by kernel_rfl) trivial F (by decide) (v := .bool true) (x_extract (F.slot rfl) rfl) (fun _ => trivial) (fun a F => ?_)
      refine sq_new (show Eq (α := OSk) _ (some (some 13, (.alloc 40), 0, none)) by kernel_rfl) trivial F (by decide) H [.int .i64 0, .int .i64 0, .slice none 0 0] 40 (x_alloc Tryd.zeroValue40 rfl) ?_
      intro g4 W a hg4 H F
      refine ⟨(fun _ => trivial), ?_⟩
      refine sq_put (M := [Asn.blk ga [.int .i64 0, .int .i64 z1, .int .i64 T1, .slice (cutA A1 c1 xs.length) ((xs.drop xs.length).length) (c1 - xs.length), .int .i64 0, .int .i64 (0 + 1)] 72, Asn.qf k33 33 (.slice (cutA A1 c1 xs.length) (xs.drop xs.length).length (c1 - xs.length)) (xs.drop xs.length) ok1 A1 (xs.take xs.length).length (xs.take xs.length), Asn.blk g4 [.int .i64 0, .int .i64 (0 + 1), .slice A1 ((xs.take xs.length).length) xs.length] 40]) (show Eq (α := OSk) _ (some (none, (.store 40 (.tmp 13) (.tmp 70)), 0, none)) by kernel_rfl) trivial F (x_store H (k := 2) (cs' := [.int .i64 0, .int .i64 (0 + 1), .slice A1 ((xs.take xs.length).length) xs.length]) rfl (Tryd.sizeOf40 W) (F.slot rfl) (F.slot rfl) rfl (Nat.le_of_ble_eq_true rfl) rfl rfl) ?_
      intro W H
      refine ⟨(fun _ => trivial), ?_⟩
      refine sq2 (W' := W) (show Eq (α := OSk) _ (some (some 14, (.assign (.tmp 71)), 4, none)) by kernel_rfl) trivial F (by decide) (v := .bool true) (x_assign (F.slot rfl)) (fun _ => trivial) (fun a F => ?_)
      unfold wpSeq
      refine t_normal ?_
      refine c_seq (by kernel_rfl) ?_
      refine c_text (id := 19) (by kernel_rfl) [(0, 2), (1, 2), (2, 2), (3, 2), (4, 2), (5, 2), (6, 2), (7, 2), (8, 2), (9, 2), (10, 2), (11, 2), (12, 2), (13, 2)] (by kernel_rfl) ?_
      refine sq2 (W' := W) (show Eq (α := OSk) _ (some (some 72, (.move (.tmp 14)), 4, none)) by kernel_rfl) trivial F (by decide) (v := .bool true) (x_move (F.slot rfl)) (fun _ => trivial) (fun a F => ?_)
      refine sq2 (W' := W) (show Eq (α := OSk) _ (some (some 73, (.move (.tmp 72)), 4, none)) by kernel_rfl) trivial F (by decide) (v := .bool true) (x_move (F.slot rfl)) (fun _ => trivial) (fun a F => ?_)
      refine sq2 (W' := W) (show Eq (α := OSk) _ (some (some 74, (.fieldAddr 40 (.tmp 13) 2), 0, some (1, true))) by kernel_rfl) ⟨73, by kernel_rfl, rfl⟩ F (by decide) (v := .pointer (some ⟨g4, 2, none⟩)) (x_field0 Tryd.underlying40 rfl rfl (Tryd.sizeOf38 W) (F.slot rfl)) (fun _ => trivial) (fun a F => ?_)
      refine sq2 (show Eq (α := OSk) _ (some (some 75, (.load 38 (.tmp 74)), 38, some (1, true))) by kernel_rfl) ⟨73, by kernel_rfl, rfl⟩ F (by decide) (v := .slice A1 ((xs.take xs.length).length) xs.length) (x_load1 (Tryd.isAgg38 W) (F.slot rfl) (H.cell 2 rfl rfl)) (fun _ => trivial) (fun a F => ?_)
      refine sq2 (W' := W) (show Eq (α := OSk) _ (some (some 76, (.call { callee := (.builtin .len), args := #[(.tmp 75)], argTypes := #[38] }), 3, some (1, true))) by kernel_rfl) ⟨73, by kernel_rfl, rfl⟩ F (by decide) (v := .int .i64 ((xs.take xs.length).length : Int)) (x_lenL Tryd.underlying38 (F.slot rfl)) (fun _ => trivial) (fun a F => ?_)
      refine sq2 (W' := W) (show Eq (α := OSk) _ (some (some 77, (.move (.tmp 2)), 3, some (1, true))) by kernel_rfl) ⟨73, by kernel_rfl, rfl⟩ F (by decide) (v := .int .i64 N1) (x_move (F.slot rfl)) (fun _ => trivial) (fun a F => ?_)
      refine sq2 (W' := W) (show Eq (α := OSk) _ (some (some 78, (.binOp .eql 3 (.tmp 76) (.tmp 77) 3), 4, some (1, true))) by kernel_rfl) ⟨73, by kernel_rfl, rfl⟩ F (by decide) (v := .bool (((xs.take xs.length).length : Int) == N1)) (x_int (F.slot rfl) (F.slot rfl) rfl) (fun _ => trivial) (fun a F => ?_)
      refine sq2 (W' := W) (show Eq (α := OSk) _ (some (some 79, (.pick (.tmp 73) (.tmp 78) (.const (.bool false))), 4, none)) by kernel_rfl) trivial F (by decide) (v := .bool (((xs.take xs.length).length : Int) == N1)) (x_pickT (F.slot rfl) (F.slot rfl)) (fun _ => trivial) (fun a F => ?_)
      refine sq2 (W' := W) (show Eq (α := OSk) _ (some (some 80, (.move (.tmp 79)), 4, none)) by kernel_rfl) trivial F (by decide) (v := .bool (((xs.take xs.length).length : Int) == N1)) (x_move (F.slot rfl)) (fun _ => trivial) (fun a F => ?_)
      have hb5 : (((xs.take xs.length).length : Int) == N1) = true := beq_iff_eq.2 (by rw [List.length_take]; omega)
      have F := F.at 80 rfl (v' := .bool true) (congrArg Value.bool hb5)
      refine sq2 (W' := W) (show Eq (α := OSk) _ (some (some 81, (.move (.tmp 7)), 23, some (8, true))) by kernel_rfl) ⟨80, by kernel_rfl, rfl⟩ F (by decide) (v := .pointer (some ⟨ga, 0, none⟩)) (x_move (F.slot rfl)) (fun _ => trivial) (fun a F => ?_)
      have HS := H.select [0] [Asn.blk ga [.int .i64 0, .int .i64 z1, .int .i64 T1, .slice (cutA A1 c1 xs.length) ((xs.drop xs.length).length) (c1 - xs.length), .int .i64 0, .int .i64 (0 + 1)] 72] rfl (by decide)
      refine sqc (show Eq (α := OSk) _ (some (some 82, (.call { callee := (.value (.func 24)), args := #[(.tmp 81)], argTypes := #[23] }), 3, some (8, true))) by kernel_rfl) ⟨80, by kernel_rfl, rfl⟩ F (by decide) (x_call Tryd.func24 (by kernel_rfl) rfl (args_1 (F.slot rfl))) (waits_calls ga 0 z1 T1 0 (0 + 1) (cutA A1 c1 xs.length) ((xs.drop xs.length).length) (c1 - xs.length)  W HS) ?_
      rintro e W ⟨rfl, H1⟩
      refine ⟨_, rfl, fun a F => ?_⟩
      have H := H.back [0] [Asn.blk ga [.int .i64 0, .int .i64 z1, .int .i64 T1, .slice (cutA A1 c1 xs.length) ((xs.drop xs.length).length) (c1 - xs.length), .int .i64 0, .int .i64 (0 + 1)] 72] rfl (by decide) [Asn.blk ga [.int .i64 0, .int .i64 z1, .int .i64 T1, .slice (cutA A1 c1 xs.length) ((xs.drop xs.length).length) (c1 - xs.length), .int .i64 0, .int .i64 (0 + 1)] 72] [] rfl H1
      clear HS H1
      refine ⟨(fun _ => trivial), ?_⟩
      refine sq2 (W' := W) (show Eq (α := OSk) _ (some (some 83, (.binOp .eql 3 (.tmp 82) (.const (.int .i64 0)) 3), 4, some (8, true))) by kernel_rfl) ⟨80, by kernel_rfl, rfl⟩ F (by decide) (v := .bool (((xs.drop xs.length).length : Int) == (0 : Int))) (x_int (F.slot rfl) rfl rfl) (fun _ => trivial) (fun a F => ?_)
      refine sq2 (W' := W) (show Eq (α := OSk) _ (some (some 84, (.pick (.tmp 80) (.tmp 83) (.const (.bool false))), 4, none)) by kernel_rfl) trivial F (by decide) (v := .bool (((xs.drop xs.length).length : Int) == (0 : Int))) (x_pickT (F.slot rfl) (F.slot rfl)) (fun _ => trivial) (fun a F => ?_)
      refine sq2 (W' := W) (show Eq (α := OSk) _ (some (some 6, (.assign (.tmp 84)), 4, none)) by kernel_rfl) trivial F (by decide) (v := .bool (((xs.drop xs.length).length : Int) == (0 : Int))) (x_assign (F.slot rfl)) (fun _ => trivial) (fun a F => ?_)
      unfold wpSeq
      refine t_normal ?_
      refine c_ret (by kernel_rfl) ?_
      refine p_tmp Tryd.results9 F rfl ?_
      exact ⟨congrArg (fun b => Ending.returned (.bool b)) (beq_iff_eq.2 (by rw [List.length_drop]; omega)), H.ends⟩
end Go.Proofs.YtndicjikjcifaaaDoor

/- BatchFull. -/
namespace Go.Proofs.YtndicjikjcifaaaDoor
open Go.RowKit Go.Proofs.YtndicjikjcifaaaDoorW.PrintWords Go.Proofs.YtndicjikjcifaaaDoorW.PrintLast
set_option linter.unusedVariables false
set_option linter.unusedSimpArgs false
set_option maxRecDepth 100000
open PB (S33 k33)
end Go.Proofs.YtndicjikjcifaaaDoor

/- BatchSeals. -/
namespace Go.Proofs.YtndicjikjcifaaaDoor
open Go.RowKit Go.Proofs.YtndicjikjcifaaaDoorW.PrintWords Go.Proofs.YtndicjikjcifaaaDoorW.PrintLast
set_option linter.unusedVariables false
set_option linter.unusedSimpArgs false
set_option maxRecDepth 100000
open PB (S33 k33)
end Go.Proofs.YtndicjikjcifaaaDoor

/- The batch laws' arguments: rows of operations, a transaction, a batch: from data to plain values. -/
namespace Go.Proofs.YtndicjikjcifaaaDoor
open Go.RowKit Go.Proofs.YtndicjikjcifaaaDoorW.PrintWords Go.Proofs.YtndicjikjcifaaaDoorW.PrintLast
open PB (S33 k33)
set_option linter.unusedVariables false
set_option linter.unusedSimpArgs false
end Go.Proofs.YtndicjikjcifaaaDoor

/- The batch laws' rows: from what came in to the walks. -/
namespace Go.Proofs.YtndicjikjcifaaaDoor
open Go.RowKit Go.Proofs.YtndicjikjcifaaaDoorW.PrintWords Go.Proofs.YtndicjikjcifaaaDoorW.PrintLast
open PB (S33 k33)
set_option linter.unusedVariables false
set_option linter.unusedSimpArgs false
end Go.Proofs.YtndicjikjcifaaaDoor
