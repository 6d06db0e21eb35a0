/- Texts joined by wip/tools/slim2.py: Opens, Txown, Txchecks, Benc, Batpl, Rencode, Blake, Hku, Num4, Hkq, Seal, Radd, Add, Tick, Rtick, Waits, Txdec, Inref, Refdec, Refdecb, Batpre, Batsame, Bownh, Sealp, Pay, Rmix, Rsum, Rtab, Rnum. -/
import Derived.Test.YtndicjikjcifaaaDoorJ1
import Derived.ChangeArms
import Derived.Deep.Slices
import Derived.SizedLaws
import Derived.ChangeShapes
import Derived.Test.YtndicjikjcifaaaDoorJ3
import Derived.DataShut
import Derived.Test.YtndicjikjcifaaaDoorJ2
import Derived.Deep.RegionHeld3
import Derived.WalkKit
import Derived.Lib.Strings
import Derived.Laws.IdiomStrings
import Derived.Test.YtndicjikjcifaaaDoorProg
import Derived.Deep.QuietTactic
import Derived.BigQuiet
import Derived.Lib.Hide
import Derived.Deep.DeepMust
/- From an argument's reading as data to a plain Lean value that its cells read as: one lemma a kind of type. No program in sight. -/
namespace Go.Proofs.YtndicjikjcifaaaDoor
open Go.RowKit Go.Proofs.YtndicjikjcifaaaDoorW.PrintWords Go.Proofs.YtndicjikjcifaaaDoorW.PrintLast
structure Opens (P : Program) (T : TypeId) {α : Type} (d : Kd α) (G : α → Prop) : Prop where
  size : P.cellsOf T = d.sz
  run : ∀ {H : Type} {enc : TypeId × Value → H} {w : World} {fuel : Nat} {cs : List Value} {x : DataW H × List MemPlace},
    DataW.trod enc P w 0 (fun _ => true) true fuel T cs = some x → (x.1.weights P T).all (· ≤ reachBytes) = true → ∃ a, d.K w a cs ∧ G a
section
variable {P : Program} {T : TypeId}
theorem Opens.int (k : IntKind) (hu : P.underlying T = some (.int k)) (hc : P.cellsOf T = 1) : Opens P T (Kd.int k) (fun n => (Lit.int k n).wf = true) :=
  ⟨hc, fun h _ => by
    obtain ⟨n, rfl, _, hw⟩ := DataW.trod_int hu h
    exact ⟨n, rfl, hw⟩⟩
theorem Opens.bool (hu : P.underlying T = some .bool) (hc : P.cellsOf T = 1) : Opens P T Kd.bool (fun _ => True) :=
  ⟨hc, fun h _ => by
    obtain ⟨n, rfl, _⟩ := DataW.trod_bool hu h
    exact ⟨n, rfl, trivial⟩⟩
theorem Opens.string (hu : P.underlying T = some .string) (hc : P.cellsOf T = 1) : Opens P T Kd.string (fun s => s.size ≤ 140737488351232) :=
  ⟨hc, fun h hw => by
    obtain ⟨s, rfl, rfl, hs⟩ := DataW.trod_string hu h
    refine ⟨s, rfl, ?_⟩
    have : s.data.toList.length ≤ reachBytes := by simpa [DataW.weights] using hw
    simpa [reachBytes] using this⟩
theorem cells_get {w : World} {base n : Nat} {a : Addr} {cs : List Value} (h : w.cells? base a n = some cs) : cs.length = n ∧ ∀ i u, cs[i]? = some u → w.cell? (a.add i) = some u := by
  unfold World.cells? at h
  split at h
  · have hl : cs.length = n := by simpa using mapM_some_length h
    refine ⟨hl, fun i u hu => ?_⟩
    have hi : i < n := by rw [← hl]; exact (List.getElem?_eq_some_iff.1 hu).1
    have := mapM_some_get h i i (by simp [hi])
    rw [this, hu]
  · cases h
theorem weightsAll_mem {H : Type} {e : TypeId} : ∀ {l : List (DataW H)} {d : DataW H}, d ∈ l → ∀ n ∈ d.weights P e, n ∈ DataW.weightsAll P e l
  | x :: r, d, h, n, hn => by
    rw [DataW.weightsAll]
    rcases List.mem_cons.1 h with rfl | h
    · exact List.mem_append_left _ hn
    · exact List.mem_append_right _ (weightsAll_mem h n hn)
theorem choose_list {α : Type} {Q : Nat → α → Prop} (n : Nat) (h : ∀ i, i < n → ∃ a, Q i a) : ∃ l : List α, l.length = n ∧ ∀ i a, l[i]? = some a → Q i a := by
  induction n with
  | zero => exact ⟨[], rfl, fun i a h => by simp at h⟩
  | succ n ih =>
    obtain ⟨l, hl, hq⟩ := ih (fun i hi => h i (by omega))
    obtain ⟨a, ha⟩ := h n (by omega)
    refine ⟨l ++ [a], by simp [hl], fun i b hb => ?_⟩
    rcases Nat.lt_or_ge i n with hi | hi
    · rw [List.getElem?_append_left (by omega)] at hb
      exact hq i b hb
    · have : i = n := by
        have := (List.getElem?_eq_some_iff.1 hb).1
        simp [hl] at this
        omega
      subst this
      rw [List.getElem?_append_right (by omega), hl] at hb
      simp at hb
      exact hb ▸ ha
theorem Opens.slice {e : TypeId} {α : Type} {d : Kd α} {G : α → Prop} (hu : P.underlying T = some (.slice e)) (hc : P.cellsOf T = 1) (he : Opens P e d G) (B : Nat) (hB : P.bytesOf e = B) :
    Opens P T (Kd.slice e d) (fun l => (∀ a ∈ l, G a) ∧ l.length * B ≤ 140737488351232 ∧ l.length ≤ maxLen) := by
  refine ⟨hc, fun {H} {enc} {w} {fuel} {cs} {x} h hw => ?_⟩
  rcases Go.Deep.open_slice hu h with ⟨rfl, _⟩ | ⟨a, len, cap, m, n, D, Pl, rfl, _, hl, hm, hmm, rfl, hx⟩
  · exact ⟨[], ⟨none, 0, rfl, Nat.le_refl _, rfl, by simp, fun h => by simp at h⟩, fun a h => by simp at h, by simp, by simp⟩
  · simp only [if_true] at hmm
    subst hmm
    have hw' : ∀ i, i < len → ((D i).weights P e).all (· ≤ reachBytes) = true := by
      intro i hi
      rw [List.all_eq_true] at hw ⊢
      intro z hz
      refine hw z ?_
      simp only [DataW.weights, hu]
      refine List.mem_cons_of_mem _ (List.mem_append_left _ (weightsAll_mem (d := D i) ?_ z hz))
      exact List.mem_map.2 ⟨i, by simpa using hi, rfl⟩
    have hlen : len * B ≤ 140737488351232 := by
      rw [List.all_eq_true] at hw
      have h1 := hw (((List.range len).map D).length * P.bytesOf e + ((List.range (m - len)).map fun j => D (len + j)).length * P.bytesOf e) (by
        simp only [DataW.weights, hu, Nat.add_mul]
        exact List.mem_cons_self)
      rw [hB] at h1
      simp [reachBytes] at h1
      omega
    obtain ⟨l, hll, hq⟩ := choose_list (Q := fun i a' => ∃ c, c.length = d.sz ∧ d.K w a' c ∧ (∀ j u, c[j]? = some u → w.cell? (a.add (i * d.sz + j)) = some u) ∧ G a') len (fun i hi => by
      obtain ⟨cs', hcs, ht⟩ := hx i (by omega)
      obtain ⟨a', hK, hG⟩ := he.run ht (hw' i hi)
      have hcg := cells_get hcs
      rw [he.size] at hcg
      refine ⟨a', cs', hcg.1, hK, fun j u hu => ?_, hG⟩
      have := hcg.2 j u hu
      rwa [add_add] at this)
    refine ⟨l, ⟨some a, m, by rw [hll], by omega, rfl, by rw [hll]; unfold maxLen at hm; omega, fun _ => ⟨a, rfl, fun j p hp => ?_⟩⟩, fun p hp => ?_, by rw [hll]; exact hlen, by rw [hll]; omega⟩
    · obtain ⟨c, h1, h2, h3, _⟩ := hq j p hp
      exact ⟨c, h1, h2, h3⟩
    · obtain ⟨j, hj⟩ := List.mem_iff_getElem?.1 hp
      obtain ⟨c, _, _, _, h4⟩ := hq j p hj
      exact h4
structure Fields (P : Program) (fs : List Field) (o : Nat) {α : Type} (d : Kd α) (G : α → Prop) : Prop where
  run : ∀ {H : Type} {enc : TypeId × Value → H} {w : World} {fuel : Nat} {cs : List Value} {xs : List (DataW H × List MemPlace)}, xs.length = fs.length →
    (∀ (i : Nat) (f : Field), fs[i]? = some f → DataW.trod enc P w 0 (fun _ => true) true fuel f.type ((cs.drop f.offset).take (P.cellsOf f.type)) = xs[i]?) →
    (DataW.weightsEach P (fs.map (·.type)) (xs.map (·.1))).all (· ≤ reachBytes) = true → cs.length = o + d.sz → ∃ a, d.K w a (cs.drop o) ∧ G a
theorem Fields.one {f : Field} {o : Nat} {α : Type} {d : Kd α} {G : α → Prop} (ho : f.offset = o) (h : Opens P f.type d G) : Fields P [f] o d G :=
  ⟨fun {H} {enc} {w} {fuel} {cs} {xs} hl ht hw hc => by
    match xs, hl with
    | [x], _ =>
      have h1 := ht 0 f rfl
      rw [ho, h.size, List.take_of_length_le (by rw [List.length_drop]; omega)] at h1
      refine h.run h1 ?_
      simpa [DataW.weightsEach] using hw⟩
theorem Fields.cons {f : Field} {fs : List Field} {o : Nat} {α β : Type} {d : Kd α} {d' : Kd β} {G : α → Prop} {G' : β → Prop} (ho : f.offset = o) (h : Opens P f.type d G) (h' : Fields P fs (o + d.sz) d' G') :
    Fields P (f :: fs) o (Kd.pair d d') (fun x => G x.1 ∧ G' x.2) :=
  ⟨fun {H} {enc} {w} {fuel} {cs} {xs} hl ht hw hc => by
    match xs, hl with
    | x :: xs, hl =>
      have h1 := ht 0 f rfl
      rw [ho, h.size] at h1
      have hsz : (Kd.pair d d').sz = d.sz + d'.sz := rfl
      rw [hsz] at hc
      simp only [List.map_cons, DataW.weightsEach, List.all_append, Bool.and_eq_true] at hw
      obtain ⟨a, ha, hG⟩ := h.run h1 hw.1
      obtain ⟨b, hb, hG'⟩ := h'.run (cs := cs) (xs := xs) (by simpa using hl) (fun i f hf => by simpa using ht (i + 1) f (by simpa using hf)) hw.2 (by omega)
      refine ⟨(a, b), ⟨(cs.drop o).take d.sz, cs.drop (o + d.sz), ?_, ha, hb⟩, hG, hG'⟩
      rw [← List.drop_drop, List.take_append_drop]⟩
theorem Opens.struct {fs : Array Field} {α : Type} {d : Kd α} {G : α → Prop} (hu : P.underlying T = some (.struct fs)) (hc : P.cellsOf T = d.sz) (h : Fields P fs.toList 0 d G) : Opens P T d G :=
  ⟨hc, fun {H} {enc} {w} {fuel} {cs} {x} ht hw => by
    obtain ⟨xs, n, _, rfl, hl, hxl, hf⟩ := DataW.trod_struct hu ht
    obtain ⟨a, ha, hG⟩ := h.run (cs := cs) (xs := xs) (by simpa using hxl) (fun i f hi => hf i f (by simpa using hi)) (by simpa [DataW.weights, hu] using hw) (by omega)
    exact ⟨a, by simpa using ha, hG⟩⟩
theorem Opens.iso {α β : Type} {d : Kd α} {G : α → Prop} (h : Opens P T d G) (f : β → α) (g : α → β) (hfg : ∀ a, f (g a) = a) : Opens P T (Kd.iso d f) (fun b => G (f b)) :=
  ⟨h.size, fun ht hw => by
    obtain ⟨a, ha, hG⟩ := h.run ht hw
    exact ⟨g a, by show d.K _ (f (g a)) _; rw [hfg]; exact ha, by show G (f (g a)); rw [hfg]; exact hG⟩⟩
end
end Go.Proofs.YtndicjikjcifaaaDoor

/- tusklaw04.Own, tuskref04.Same in a form of one line each; what a transaction argument is. -/
namespace Go.Proofs.YtndicjikjcifaaaDoor
open Go.RowKit Go.Shelf Go.Lib Go.Proofs.YtndicjikjcifaaaDoorW.PrintWords Go.Proofs.YtndicjikjcifaaaDoorW.PrintLast
open Go.Proofs.YtndicjikjcifaaaDoor.POw
set_option linter.unusedVariables false
set_option linter.unusedSimpArgs false
theorem opensStr : Opens Tryd.prog 9 Kd.string (fun s => s.size ≤ 140737488351232) := Opens.string Tryd.underlying9 (by kernel_rfl)
theorem opensStrs : Opens Tryd.prog 31 (Kd.slice 9 Kd.string) (fun l => (∀ a ∈ l, a.size ≤ 140737488351232) ∧ l.length * 16 ≤ 140737488351232 ∧ l.length ≤ maxLen) :=
  Opens.slice Tryd.underlying31 (by kernel_rfl) opensStr 16 (by kernel_rfl)
theorem opensInt : Opens Tryd.prog 3 (Kd.int .i64) (fun n => (Lit.int .i64 n).wf = true) := Opens.int .i64 Tryd.underlying3 (by kernel_rfl)
theorem opensU64 : Opens Tryd.prog 30 (Kd.int .u64) (fun n => (Lit.int .u64 n).wf = true) := Opens.int .u64 Tryd.underlying30 (by kernel_rfl)
abbrev kTx := Kd.pair (Kd.int .i64) (Kd.pair Kd.string (Kd.pair Kd.string (Kd.pair (Kd.int .u64) (Kd.pair (Kd.int .u64) (Kd.pair Kd.string (Kd.pair Kd.string (Kd.pair (Kd.slice 9 Kd.string) (Kd.slice 9 Kd.string))))))))
structure TxIn (w : World) (k : Int) (f t : ByteArray) (am nc : Int) (ky' vl : ByteArray) (A B : Option Addr) (c d : Nat) (rs ws : List ByteArray) : Prop where
  r : Kd.C Kd.string w A rs.length rs
  rc : rs.length ≤ c
  s : Kd.C Kd.string w B ws.length ws
  sc : ws.length ≤ d
  am : 0 ≤ am
  nc : 0 ≤ nc
  rl : rs.length * 16 ≤ 140737488351232
  sl : ws.length * 16 ≤ 140737488351232
  f : f.size ≤ 140737488351232
  t : t.size ≤ 140737488351232
  ky : ky'.size ≤ 140737488351232
  vl : vl.size ≤ 140737488351232
  rz : ∀ a ∈ rs, a.size ≤ 140737488351232
  sz : ∀ a ∈ ws, a.size ≤ 140737488351232
theorem TxIn.below {w w' : World} {k : Int} {f t : ByteArray} {am nc : Int} {ky' vl : ByteArray} {A B : Option Addr} {c d : Nat} {rs ws : List ByteArray} (h : TxIn w k f t am nc ky' vl A B c d rs ws) (hb : Below w.heap.size w w') : TxIn w' k f t am nc ky' vl A B c d rs ws :=
  { h with r := Kd.C_below h.r hb, s := Kd.C_below h.s hb }
theorem u64_lo {n : Int} (h : (Lit.int .u64 n).wf = true) : 0 ≤ n := ((Lit.wf_int_iff .u64 n).1 h).1
end Go.Proofs.YtndicjikjcifaaaDoor

/- tuskref01's numbers, texts, lists and tuskref04.Encode: the same bytes as tx's. -/
namespace Go.Proofs.YtndicjikjcifaaaDoor
open Go.RowKit Go.Shelf Go.Lib Go.Proofs.YtndicjikjcifaaaDoorW.PrintWords Go.Proofs.YtndicjikjcifaaaDoorW.PrintLast
set_option linter.unusedVariables false
set_option linter.unusedSimpArgs false
theorem str_cons (a : Int) (l : List Int) : strOfNums (a :: l) = strOfNums [a] ++ strOfNums l := by
  apply ba_eq
  rw [ba_app, strOfNums_data, strOfNums_data, strOfNums_data]
  rfl
open PRi in
theorem ref_int : ∀ d (n : Nat) K, n < 128 ^ (d + 1) → n ≤ 4611686018427387903 → 2 * d + 2 ≤ K → tuskref01_Int.f K (n : Int) = some (strOfNums (vints n))
  | d, n, 0, h, hm, hK => by omega
  | d, n, 1, h, hm, hK => by omega
  | d, n, K + 2, h, hm, hK => by
    rw [tuskref01_Int.f, if_neg (by omega), tuskref01_Int.j0, if_neg (by simp; omega)]
    by_cases h1 : n < 128
    · rw [if_pos (by omega), vints, dif_pos h1]
      congr 3
      omega
    · rw [if_neg (by omega)]
      cases d with
      | zero => omega
      | succ d =>
        have e1 : Int.tmod (n : Int) 128 = ((n % 128 : Nat) : Int) := by
          rw [Int.tmod_eq_emod_of_nonneg (by omega)]; omega
        have e2 : Int.tdiv (n : Int) 128 = ((n / 128 : Nat) : Int) := by
          rw [Int.tdiv_eq_ediv_of_nonneg (by omega)]; omega
        have e3 : wrap64 (128 + Int.tmod (n : Int) 128) % 256 = ((n % 128 + 128 : Nat) : Int) := by
          rw [e1, w64 _ (by omega) (by omega)]; omega
        have e4 : wrap64 (Int.tdiv (n : Int) 128) = ((n / 128 : Nat) : Int) := by rw [e2, w64 _ (by omega) (by omega)]
        have ih := ref_int d (n / 128) K (by rw [Nat.pow_succ] at h; omega) (by omega) (by omega)
        rw [e3, e4, ih, Option.bind_some, Option.bind_some]
        have hl := vints_len (d + 1 + 7) (n / 128) (by
          have : 128 ^ (d + 1) ≤ 128 ^ (d + 1 + 7 + 1) := Nat.pow_le_pow_right (by omega) (by omega)
          rw [Nat.pow_succ] at h
          omega)
        have hl2 := vints_len 8 (n / 128) (by omega)
        rw [if_pos (by rw [strOfNums_size, strOfNums_size, List.length_singleton]; omega)]
        conv => rhs; rw [vints, dif_neg h1, str_cons]
theorem int2_calls (n : Int) (w : World) (h0 : 0 ≤ n) (h1 : n ≤ 4611686018427387903) : Calls Tryd.prog 64 #[.int .i64 n] w fun e w' => e = .returned (.string (ib n)) ∧ Below w.heap.size w w' := by
  obtain ⟨m, rfl⟩ : ∃ m : Nat, n = m := ⟨n.toNat, by omega⟩
  refine PRi.tuskref01_Int.calls 18 (m : Int) (ib m) w ?_
  rw [ref_int 8 m 18 (by omega) (by omega) (by omega), ib_eq (by omega) (by omega), Int.toNat_natCast]
open PRi in
theorem ref_txt (x : ByteArray) (hx : x.size ≤ 4611686018427387000) (K : Nat) (hK : 18 ≤ K) : tuskref01_Text.f K x = some (tb x) := by
  have hi := ib_size x.size
  rw [tuskref01_Text.f, ref_int 8 x.size K (by omega) (by omega) (by omega), Option.bind_some]
  rw [ib_eq (by omega) (by omega), Int.toNat_natCast] at hi
  rw [if_pos (by omega), tb, ib_eq (by omega) (by omega), Int.toNat_natCast]
theorem text2_calls (x : ByteArray) (w : World) (hx : x.size ≤ 4611686018427387000) : Calls Tryd.prog 70 #[.string x] w fun e w' => e = .returned (.string (tb x)) ∧ Below w.heap.size w w' :=
  PRi.tuskref01_Text.calls 18 x (tb x) w (ref_txt x hx 18 (by omega))
open PRi in
theorem ref_lst (xs : List ByteArray) (hx : xs.length ≤ 1000) (hz : ∀ x ∈ xs, x.size ≤ 65536) : ∀ d i K acc, i + d = xs.length → d + 19 ≤ K → acc.size ≤ 9 + i * 65545 →
    tuskref01_List.l0 K xs acc (i : Int) = some (acc ++ tbsB (xs.drop i))
  | 0, i, 0, acc, hi, hK, ha => by omega
  | 0, i, K + 1, acc, hi, hK, ha => by
    rw [tuskref01_List.l0, if_neg (by omega), List.drop_eq_nil_of_le (by omega), tbsB_nil, ba_nil']
  | d + 1, i, 0, acc, hi, hK, ha => by omega
  | d + 1, i, K + 1, acc, hi, hK, ha => by
    have hlt : i < xs.length := by omega
    have hw : wrap64 ((i : Int) + 1) = ((i + 1 : Nat) : Int) := by rw [w64 _ (by omega) (by omega)]; push_cast; rfl
    have hs := hz xs[i] (List.getElem_mem hlt)
    have ht := tb_size xs[i]
    have hm : i * 65545 ≤ 1000 * 65545 := Nat.mul_le_mul_right _ (by omega)
    rw [tuskref01_List.l0, if_pos (by omega), if_pos (by omega), rd_at xs i hlt, ref_txt _ (by omega) K (by omega), Option.bind_some, if_pos (by omega), hw,
      ref_lst xs hx hz d (i + 1) K (acc ++ tb xs[i]) (by omega) (by omega) (by rw [ByteArray.size_append, Nat.succ_mul]; omega), List.drop_eq_getElem_cons hlt, tbsB_cons, ba_assoc]
theorem list2_calls (A : Option Addr) (c : Nat) (xs : List ByteArray) (w : World) (hr : Kd.C Kd.string w A xs.length xs) (hc : xs.length ≤ c) (hx : xs.length ≤ 1000) (hz : ∀ x ∈ xs, x.size ≤ 65536) :
    Calls Tryd.prog 65 #[.slice A xs.length c] w fun e w' => e = .returned (.string (lb xs)) ∧ Below w.heap.size w w' := by
  refine PRi.tuskref01_List.calls (xs.length + 19) A c xs (lb xs) w hr hc ?_
  have hi := ib_size xs.length
  rw [PRi.tuskref01_List.f, ref_int 8 xs.length _ (by omega) (by omega) (by omega), Option.bind_some]
  have e : strOfNums (vints xs.length) = ib xs.length := by rw [ib_eq (by omega) (by omega), Int.toNat_natCast]
  rw [e]
  have := ref_lst xs hx hz xs.length 0 (xs.length + 19) (ib xs.length) (by omega) (by omega) (by omega)
  rw [List.drop_zero, ← lb_eq] at this
  exact this
set_option maxHeartbeats 8000000 in
set_option maxRecDepth 100000 in
theorem enc2_no (k : Int) (f t : ByteArray) (am nc : Int) (ky' vl : ByteArray) (A B : Option Addr) (c d : Nat) (rs ws : List ByteArray) (w : World) (x : Int) (hx : ch k f t am nc ky' vl rs ws = x) (h0 : x ≠ 0) (hL : Lim f t ky' rs ws)
    (hr : Kd.C Kd.string w A rs.length rs) (hc : rs.length ≤ c) (hs : Kd.C Kd.string w B ws.length ws) (hd : ws.length ≤ d) :
    Calls Tryd.prog 40 #[.agg #[.int .i64 k, .string f, .string t, .int .u64 am, .int .u64 nc, .string ky', .string vl, .slice A rs.length c, .slice B ws.length d]] w
      fun e w' => EP (⟨#[]⟩, x) w e w' := by
  have HR := Lib.hid hr
  have HC := Lib.hid hc
  have HS := Lib.hid hs
  have HD := Lib.hid hd
  have HL := Lib.hid hL
  clear hr hc hs hd hL
  have hx2 : (x != 0) = true := by simpa using h0
  have hch := Lib.hid (fun W hw => tuskref04_Check.calls k f t am nc ky' vl A c rs B d ws x W (Kd.C_below HR.out hw) HC.out (Kd.C_below HS.out hw) HD.out (by rw [tuskref04_Check.f, if_pos HL.out, hx]))
  clear hx h0
  go_enter Tryd.func40, Tryd.ntmps40
  have HX := Lib.hid (Bq.first w #[.int .i64 k, .string f, .string t, .int .u64 am, .int .u64 nc, .string ky', .string vl, .slice A rs.length c, .slice B ws.length d])
  go_wp2_with (first
    | (go_at_call 42
       go_must (refine (hch.out _ HX.out.low).mono ?_)
       rintro e w2 ⟨rfl, hB⟩
       have HX := Lib.hid (HX.out.step hB)
       clear hB))
  go_ret2
  exact ⟨rfl, HX.out.low⟩
set_option maxHeartbeats 8000000 in
set_option maxRecDepth 100000 in
theorem enc2_ok (k : Int) (f t : ByteArray) (am nc : Int) (ky' vl : ByteArray) (A B : Option Addr) (c d : Nat) (rs ws : List ByteArray) (w : World) (hx : ch k f t am nc ky' vl rs ws = 0) (hL : Lim f t ky' rs ws)
    (hr : Kd.C Kd.string w A rs.length rs) (hc : rs.length ≤ c) (hs : Kd.C Kd.string w B ws.length ws) (hd : ws.length ≤ d) (ha : 0 ≤ am) (hn : 0 ≤ nc) :
    Calls Tryd.prog 40 #[.agg #[.int .i64 k, .string f, .string t, .int .u64 am, .int .u64 nc, .string ky', .string vl, .slice A rs.length c, .slice B ws.length d]] w
      fun e w' => EP (encB k f t am nc ky' vl rs ws, 0) w e w' := by
  have hf := ch_fine hx
  have HR := Lib.hid hr
  have HC := Lib.hid hc
  have HS := Lib.hid hs
  have HD := Lib.hid hd
  have hr1 := ke_zero hf.rs
  have hs1 := ke_zero hf.ws
  have L1 := lb_size 34 rs hr1.2
  have L2 := lb_size 34 ws hs1.2
  have S1 : (lb rs).size = (lbL rs).length := by simp [lb, ByteArray.size]
  have S2 : (lb ws).size = (lbL ws).length := by simp [lb, ByteArray.size]
  have L1 : (lbL rs).length ≤ 353 := by have := hr1.1; omega
  have L2 : (lbL ws).length ≤ 353 := by have := hs1.1; omega
  have T1 := tb_size f
  have T2 := tb_size t
  have T3 := tb_size ky'
  have T4 := tb_size vl
  have I1 := ib_size k
  have I2 := ib_size am
  have I3 := ib_size nc
  have Q1 := hf.f
  have Q2 := hf.t
  have Q3 := hf.ky
  have Q4 := hf.vl
  have Q5 := hf.k
  have HT := Lib.hid (show f.size ≤ 4611686018427387000 ∧ t.size ≤ 4611686018427387000 ∧ ky'.size ≤ 4611686018427387000 ∧ vl.size ≤ 4611686018427387000 from ⟨by omega, by omega, by omega, by omega⟩)
  have HI := Lib.hid (show (0 ≤ k ∧ k ≤ 4611686018427387903) ∧ (0 ≤ am ∧ am ≤ 4611686018427387903) ∧ (0 ≤ nc ∧ nc ≤ 4611686018427387903) from ⟨by omega, ⟨ha, hf.am⟩, ⟨hn, hf.nc⟩⟩)
  have HZ := Lib.hid (show (rs.length ≤ 1000 ∧ ∀ x ∈ rs, x.size ≤ 65536) ∧ (ws.length ≤ 1000 ∧ ∀ x ∈ ws, x.size ≤ 65536) from ⟨⟨by omega, fun x h => by have := hr1.2 x h; omega⟩, ⟨by omega, fun x h => by have := hs1.2 x h; omega⟩⟩)
  have g1 : (9223372036854775807 < (ib k).size + (tb f).size) = False := by rw [eq_iff_iff, iff_false]; omega
  have g2 : (9223372036854775807 < (ib k).size + (tb f).size + (tb t).size) = False := by rw [eq_iff_iff, iff_false]; omega
  have g3 : (9223372036854775807 < (ib k).size + (tb f).size + (tb t).size + (ib am).size) = False := by rw [eq_iff_iff, iff_false]; omega
  have g4 : (9223372036854775807 < (ib k).size + (tb f).size + (tb t).size + (ib am).size + (ib nc).size) = False := by rw [eq_iff_iff, iff_false]; omega
  have g5 : (9223372036854775807 < (ib k).size + (tb f).size + (tb t).size + (ib am).size + (ib nc).size + (tb ky').size) = False := by rw [eq_iff_iff, iff_false]; omega
  have g6 : (9223372036854775807 < (ib k).size + (tb f).size + (tb t).size + (ib am).size + (ib nc).size + (tb ky').size + (tb vl).size) = False := by rw [eq_iff_iff, iff_false]; omega
  have g7 : (9223372036854775807 < (ib k).size + (tb f).size + (tb t).size + (ib am).size + (ib nc).size + (tb ky').size + (tb vl).size + (lb rs).size) = False := by rw [eq_iff_iff, iff_false]; omega
  have g8 : (9223372036854775807 < (ib k).size + (tb f).size + (tb t).size + (ib am).size + (ib nc).size + (tb ky').size + (tb vl).size + (lb rs).size + (lb ws).size) = False := by rw [eq_iff_iff, iff_false]; omega
  have wa : IntKind.i64.wrap am = am := by have := hf.am; rw [IntKind.wrap_i64]; omega
  have wn : IntKind.i64.wrap nc = nc := by have := hf.nc; rw [IntKind.wrap_i64]; omega
  have hch := Lib.hid (fun W hw => tuskref04_Check.calls k f t am nc ky' vl A c rs B d ws 0 W (Kd.C_below HR.out hw) HC.out (Kd.C_below HS.out hw) HD.out (by rw [tuskref04_Check.f, if_pos hL, hx]))
  clear hr hc hs hd hx ha hn hf hr1 hs1 L1 L2 T1 T2 T3 T4 Q1 Q2 Q3 Q4 Q5 S1 S2 I1 I2 I3 hL
  go_enter Tryd.func40, Tryd.ntmps40
  have HX := Lib.hid (Bq.first w #[.int .i64 k, .string f, .string t, .int .u64 am, .int .u64 nc, .string ky', .string vl, .slice A rs.length c, .slice B ws.length d])
  go_wp2_with (first
    | (go_at_call 42
       go_must (refine (hch.out _ HX.out.low).mono ?_)
       rintro e w2 ⟨rfl, hB⟩
       have HX := Lib.hid (HX.out.step hB)
       clear hB))
  have hq : ∀ W, Bq w #[.int .i64 k, .string f, .string t, .int .u64 am, .int .u64 nc, .string ky', .string vl, .slice A rs.length c, .slice B ws.length d] W →
      Bq w #[.int .i64 k, .string f, .string t, .int .u64 am, .int .u64 nc, .string ky', .string vl, .slice A rs.length c, .slice B ws.length d] W ∧
      W.cell? ⟨w.heap.size, 0, none⟩ = some (.int .i64 k) ∧ W.cell? ⟨w.heap.size, 1, none⟩ = some (.string f) ∧ W.cell? ⟨w.heap.size, 2, none⟩ = some (.string t) ∧ W.cell? ⟨w.heap.size, 3, none⟩ = some (.int .u64 am) ∧ W.cell? ⟨w.heap.size, 4, none⟩ = some (.int .u64 nc) ∧ W.cell? ⟨w.heap.size, 5, none⟩ = some (.string ky') ∧ W.cell? ⟨w.heap.size, 6, none⟩ = some (.string vl) ∧ W.cell? ⟨w.heap.size, 7, none⟩ = some (.slice A rs.length c) ∧ W.cell? ⟨w.heap.size, 8, none⟩ = some (.slice B ws.length d) :=
    fun W h => ⟨h, blk_cell h.box 0, blk_cell h.box 1, blk_cell h.box 2, blk_cell h.box 3, blk_cell h.box 4, blk_cell h.box 5, blk_cell h.box 6, blk_cell h.box 7, blk_cell h.box 8⟩
  have hq0 := hq _ HX.out
  have hq := Lib.hid hq
  obtain ⟨B0, q0, q1, q2, q3, q4, q5, q6, q7, q8⟩ := hq0
  go_region_held3 (fun W => Bq w #[.int .i64 k, .string f, .string t, .int .u64 am, .int .u64 nc, .string ky', .string vl, .slice A rs.length c, .slice B ws.length d] W ∧
      W.cell? ⟨w.heap.size, 0, none⟩ = some (.int .i64 k) ∧ W.cell? ⟨w.heap.size, 1, none⟩ = some (.string f) ∧ W.cell? ⟨w.heap.size, 2, none⟩ = some (.string t) ∧ W.cell? ⟨w.heap.size, 3, none⟩ = some (.int .u64 am) ∧ W.cell? ⟨w.heap.size, 4, none⟩ = some (.int .u64 nc) ∧ W.cell? ⟨w.heap.size, 5, none⟩ = some (.string ky') ∧ W.cell? ⟨w.heap.size, 6, none⟩ = some (.string vl) ∧ W.cell? ⟨w.heap.size, 7, none⟩ = some (.slice A rs.length c) ∧ W.cell? ⟨w.heap.size, 8, none⟩ = some (.slice B ws.length d))
    (first
      | exact hq.out _ HX.out
      | exact hq.out _ (HX.out.step ((Below.refl _ _).drew))
      | exact hq.out _ (HX.out.step ((Below.refl _ _).alloc (Nat.le_refl _) _)))
    (first
      | (go_at_call 64; first | with_reducible refine (int2_calls k _ HI.out.1.1 HI.out.1.2).mono ?_ | with_reducible refine (int2_calls am _ HI.out.2.1.1 HI.out.2.1.2).mono ?_ | with_reducible refine (int2_calls nc _ HI.out.2.2.1 HI.out.2.2.2).mono ?_
         rintro e w2 ⟨rfl, hB⟩; first | have HX := Lib.hid (HX.out.step hB) | have HX := Lib.hid ((HX.out.step ((Below.refl _ _).drew)).step hB))
      | (go_at_call 70; first | with_reducible refine (text2_calls f _ HT.out.1).mono ?_ | with_reducible refine (text2_calls t _ HT.out.2.1).mono ?_ | with_reducible refine (text2_calls ky' _ HT.out.2.2.1).mono ?_ | with_reducible refine (text2_calls vl _ HT.out.2.2.2).mono ?_
         rintro e w2 ⟨rfl, hB⟩; first | have HX := Lib.hid (HX.out.step hB) | have HX := Lib.hid ((HX.out.step ((Below.refl _ _).drew)).step hB))
      | (go_at_call 65; first | with_reducible refine Calls.mono (list2_calls A c rs _ ?_ HC.out HZ.out.1.1 HZ.out.1.2) ?_ | with_reducible refine Calls.mono (list2_calls B d ws _ ?_ HD.out HZ.out.2.1 HZ.out.2.2) ?_
         · first | exact Kd.C_below HR.out (Bq.low (And.left (by assumption))) | exact Kd.C_below HS.out (Bq.low (And.left (by assumption)))
         rintro e w2 ⟨rfl, hB⟩; first | have HX := Lib.hid (HX.out.step hB) | have HX := Lib.hid ((HX.out.step ((Below.refl _ _).drew)).step hB)))
  have hE := Lib.hid (show ib k ++ tb f ++ tb t ++ ib am ++ ib nc ++ tb ky' ++ tb vl ++ lb rs ++ lb ws = encB k f t am nc ky' vl rs ws by rw [encB_eq]; simp only [ba_assoc])
  go_wp2
  go_ret2
  exact ⟨congrArg (fun s => Ending.returned (.tuple #[.string s, .int .i64 0])) hE.out, HX.out.low⟩
theorem enc2_calls (k : Int) (f t : ByteArray) (am nc : Int) (ky' vl : ByteArray) (A B : Option Addr) (c d : Nat) (rs ws : List ByteArray) (w : World) (hL : Lim f t ky' rs ws) (b : ByteArray) (x : Int) (he : enc k f t am nc ky' vl rs ws = (b, x))
    (hr : Kd.C Kd.string w A rs.length rs) (hc : rs.length ≤ c) (hs : Kd.C Kd.string w B ws.length ws) (hd : ws.length ≤ d) (ha : 0 ≤ am) (hn : 0 ≤ nc) :
    Calls Tryd.prog 40 #[.agg #[.int .i64 k, .string f, .string t, .int .u64 am, .int .u64 nc, .string ky', .string vl, .slice A rs.length c, .slice B ws.length d]] w
      fun e w' => e = .returned (.tuple #[.string b, .int .i64 x]) ∧ Below w.heap.size w w' := by
  unfold enc at he
  split at he
  · have := enc2_ok k f t am nc ky' vl A B c d rs ws w (by assumption) hL hr hc hs hd ha hn
    rw [he] at this
    exact this
  · have := enc2_no k f t am nc ky' vl A B c d rs ws w _ rfl (by assumption) hL hr hc hs hd
    rw [he] at this
    exact this
end Go.Proofs.YtndicjikjcifaaaDoor
/- TxChecks: the walk. -/
namespace Go.Proofs.YtndicjikjcifaaaDoor
open Go.RowKit Go.Shelf Go.Lib Go.Proofs.YtndicjikjcifaaaDoorW.PrintWords Go.Proofs.YtndicjikjcifaaaDoorW.PrintLast
set_option linter.unusedVariables false
set_option linter.unusedSimpArgs false
abbrev Two (w w2 : World) (k : Int) (f t : ByteArray) (am nc : Int) (ky' vl : ByteArray) (a7 a8 b7 b8 : Value) (W : World) : Prop :=
  Bq w #[.int .i64 k, .string f, .string t, .int .u64 am, .int .u64 nc, .string ky', .string vl, a7, a8] W ∧ Bq w2 #[.int .i64 k, .string f, .string t, .int .u64 am, .int .u64 nc, .string ky', .string vl, b7, b8] W
theorem Two.step {w w2 : World} {k : Int} {f t : ByteArray} {am nc : Int} {ky' vl : ByteArray} {a7 a8 b7 b8 : Value} {W W' : World} (h : Two w w2 k f t am nc ky' vl a7 a8 b7 b8 W) (hb : Below W.heap.size W W') : Two w w2 k f t am nc ky' vl a7 a8 b7 b8 W' := ⟨h.1.step hb, h.2.step hb⟩
end Go.Proofs.YtndicjikjcifaaaDoor

/- batch.Encode. -/
namespace Go.Proofs.YtndicjikjcifaaaDoor
open Go.RowKit Go.Proofs.YtndicjikjcifaaaDoorW.PrintWords Go.Proofs.YtndicjikjcifaaaDoorW.PrintLast
set_option linter.unusedVariables false
set_option linter.unusedSimpArgs false
set_option maxRecDepth 100000
open PB (S33 k33)
theorem k33_old {w : World} {A : Option Addr} {n : Nat} {l : List S33} (h : k33.C w A n l) : Foot (fun W => k33.C W A n l) w (fun k => k < w.heap.size) := fun W' hW => k33_heap.C (fun k hk => hW k hk hk) h
theorem St.addStr {w W : World} {S R : Nat → Prop} {M : List Asn} (H : St w S R M W) (b : ByteArray) : St w S R (M ++ [Asn.fk Kd.string (fun _ => False) b [.string b]]) W :=
  H.add _ (fun W' _ => rfl) (fun k hk => by rcases hk with hk | hk <;> exact hk.elim) (fun k hk => hk.elim) (fun k hk => hk.elim)
theorem St.oldAt {w W : World} {M : List Asn} (H : St w (fun _ => False) (fun _ => True) M W) (p : World → Prop) (hp : Foot p W (fun k => k < w.heap.size)) : St w (fun _ => False) (fun _ => True) (M ++ [Asn.ft p (fun k => k < w.heap.size)]) W :=
  H.old p (Foot.step hp (fun k hk _ => (H.low.block k hk (fun h => h)).symm)) (fun B hB k hk => ((H.has B hB).2.2.1 k hk).elim (fun q => q.elim) id)
theorem k33_parts2 {w : World} {t : S33} {A7 A8 : Option Addr} {c7 c8 : Nat} (h : k33.K w t (txc t A7 c7 A8 c8)) : t.f7.length ≤ c7 ∧ Kd.string.C w A7 t.f7.length t.f7 ∧ t.f8.length ≤ c8 ∧ Kd.string.C w A8 t.f8.length t.f8 := by
  obtain ⟨B7, d7, B8, d8, e, l7, g7, l8, g8⟩ := PB.k33_open h
  simp only [List.cons.injEq, Value.slice.injEq, true_and, and_true] at e
  obtain ⟨⟨rfl, rfl⟩, rfl, rfl⟩ := e
  exact ⟨l7, g7, l8, g8⟩
theorem add_add (q : Addr) (x y : Nat) : (q.add x).add y = q.add (x + y) := by
  rcases q with ⟨_, _, _ | _⟩ <;> by_cases hx : x = 0 <;> by_cases hy : y = 0 <;> simp [Addr.add, hx, hy, Nat.add_assoc]
theorem x_cat {P : Program} {a : Act} {W : World} {x y : Operand} {t yt ty : TypeId} {p q : ByteArray} (hx : a.eval x = .string p) (hy : a.eval y = .string q) (h : (p.size : Int) + q.size ≤ 9223372036854775807) : (ex a (.binOp .add t x y yt) ty).run P W = .ok (.value (.string (p ++ q))) W := by
  simp [ex, execOp, hx, hy, eqGuard, binOp, Op.stringOp, h]
def encT (t : S33) : ByteArray := (enc t.f0 t.f1 t.f2 t.f3 t.f4 t.f5 t.f6 t.f7 t.f8).1
def wI (a : Int) : ByteArray := (wire_Int.f a).getD ⟨#[]⟩
def bencB (a n : Int) (l : List S33) : ByteArray := wI a ++ wI n ++ lb (l.map encT)
def benc (a n : Int) (l : List S33) : ByteArray × Int := if bchk a n l = 0 then (bencB a n l, 0) else (⟨#[]⟩, bchk a n l)
set_option maxHeartbeats 1000000 in
theorem benc_calls (au n : Int) (A : Option Addr) (c : Nat) (l : List S33) (w : World) (hr : k33.C w A l.length l) (hc : l.length ≤ c) (hl : l.length < 4611686018427387904) (hp : ∀ t ∈ l, 0 ≤ t.f3 ∧ 0 ≤ t.f4) (hsz : bchk au n l = 0 → (lbL (l.map encT)).length ≤ 140737488355328) (h16 : bchk au n l = 0 → l.length ≤ 16) (hw : (wI au).size ≤ 100 ∧ (wI n).size ≤ 100) :
    Calls Tryd.prog 31 #[.agg #[.int .i64 au, .int .i64 n, .slice A l.length c]] w fun e w' => e = .returned (.tuple #[.string (benc au n l).1, .int .i64 (benc au n l).2]) ∧ Below w.heap.size w w' := by
  have H0 : St w (fun _ => False) (fun _ => True) [Asn.ft (fun W => k33.C W A l.length l) (fun k => k < w.heap.size)] w := (St.first w _ _).old _ (k33_old hr) (fun B hB => by cases hB)
  refine c_enter2 (args := [.agg #[.int .i64 au, .int .i64 n, .slice A l.length c]]) (S := (fun _ => False)) (R := (fun _ => True)) (M := [Asn.ft (fun W => k33.C W A l.length l) (fun k => k < w.heap.size)]) Tryd.func31 (by kernel_rfl) 42 Tryd.ntmps31 (Nat.le_of_ble_eq_true rfl) (H0) (fun a W F H => ?_)
  have F := F.less [(0, .agg #[.int .i64 au, .int .i64 n, .slice A l.length c])] (subc rfl sub0)
  refine c_seq (by kernel_rfl) ?_
  refine c_text (id := 0) (by kernel_rfl) [(0, 2), (1, 2), (2, 2)] (by kernel_rfl) ?_
  refine sq_new (o_s 1 (.box 40 (.tmp 0)) 0 (by kernel_rfl)) trivial F (by decide) H [.int .i64 au, .int .i64 n, .slice A l.length c] 40 (x_box (F.slot rfl) rfl) ?_
  intro g1 W a hg1 H F
  refine ⟨(fun _ => trivial), ?_⟩
  refine q2 (o_s 2 (.assign (.const (.string { data := #[] }))) 9 (by kernel_rfl)) F (by decide) (v := .string ⟨#[]⟩) (x_assign rfl) (fun a F => ?_)
  refine q2 (o_s 3 (.assign (.const (.int .i64 0))) 24 (by kernel_rfl)) F (by decide) (v := .int .i64 0) (x_assign rfl) (fun a F => ?_)
  unfold wpSeq
  have H : St w (fun _ => False) (fun _ => True) [Asn.ft (fun W => k33.C W A l.length l) (fun k => k < w.heap.size), Asn.blk g1 [.int .i64 au, .int .i64 n, .slice A l.length c] 40] W := H
  refine t_normal ?_
  refine c_seq (by kernel_rfl) ?_
  refine c_seq (by kernel_rfl) ?_
  refine c_text (id := 1) (by kernel_rfl) [(0, 2), (1, 2), (2, 2)] (by kernel_rfl) ?_
  refine q2 (o_s 10 (.load 40 (.tmp 1)) 40 (by kernel_rfl)) F (by decide) (v := .agg #[.int .i64 au, .int .i64 n, .slice A l.length c]) (x_loadB (Tryd.isAgg40 W) [.int .i64 au, .int .i64 n, .slice A l.length c] (Tryd.sizeOf40 W) (F.slot rfl) (H.blk 1 rfl)) (fun a F => ?_)
  obtain ⟨z, hz⟩ : ∃ z, bchk au n l = z := ⟨_, rfl⟩
  have HK := bchk_calls au n A c l W hl (H.rd 0 rfl) hc
  rw [hz] at HK
  refine sqc (o_s 11 (.call { callee := (.value (.func 33)), args := #[(.tmp 10)], argTypes := #[40] }) 24 (by kernel_rfl)) trivial F (by decide) (x_call Tryd.func33 (by kernel_rfl) rfl (args_1 (F.slot rfl))) (HK) ?_
  rintro e W ⟨rfl, hB⟩
  refine ⟨_, rfl, fun a F => ?_⟩
  have H := H.below hB
  refine ⟨(fun _ => trivial), ?_⟩
  refine q2 (o_s 4 (.assign (.tmp 11)) 24 (by kernel_rfl)) F (by decide) (v := .int .i64 z) (x_assign (F.slot rfl)) (fun a F => ?_)
  unfold wpSeq
  refine t_normal ?_
  refine c_seq (by kernel_rfl) ?_
  refine c_text (id := 2) (by kernel_rfl) [(0, 2), (1, 2)] (by kernel_rfl) ?_
  refine q2 (o_s 12 (.move (.tmp 4)) 24 (by kernel_rfl)) F (by decide) (x_move (F.slot rfl)) (fun a F => ?_)
  refine q2 (o_s 13 (.binOp .neq 24 (.tmp 12) (.const (.int .i64 0)) 24) 4 (by kernel_rfl)) F (by decide) (v := .bool (z != (0 : Int))) (x_int (F.slot rfl) rfl rfl) (fun a F => ?_)
  unfold wpSeq
  refine t_normal ?_
  rcases bool_or (z != (0 : Int)) with hb2 | hb2
  · have F := F.at 13 rfl (v' := .bool true) (congrArg Value.bool hb2)
    refine c_yes (c := .tmp 13) (by kernel_rfl) (F.slot rfl) ?_
    refine c_seq (by kernel_rfl) ?_
    refine c_text (id := 3) (by kernel_rfl) [(0, 2), (1, 2), (2, 2)] (by kernel_rfl) ?_
    refine q2 (o_s 14 (.move (.tmp 4)) 24 (by kernel_rfl)) F (by decide) (x_move (F.slot rfl)) (fun a F => ?_)
    refine q2 (o_s 2 (.assign (.const (.string { data := #[] }))) 9 (by kernel_rfl)) F (by decide) (v := .string ⟨#[]⟩) (x_assign rfl) (fun a F => ?_)
    refine q2 (o_s 3 (.assign (.tmp 14)) 24 (by kernel_rfl)) F (by decide) (v := .int .i64 z) (x_assign (F.slot rfl)) (fun a F => ?_)
    unfold wpSeq
    refine t_normal ?_
    refine c_ret (by kernel_rfl) ?_
    refine t_ret ?_
    refine p_list (rs := [.tmp 2, .tmp 3]) (vs := [.string ⟨#[]⟩, .int .i64 z]) Tryd.results31 (by simp) F (Vals.tmp' F rfl (Vals.tmp' F rfl .nil)) ?_
    have hx : z ≠ 0 := by simpa using hb2
    rw [show benc au n l = (⟨#[]⟩, z) from (if_neg (by rw [hz]; exact hx)).trans (by rw [hz])]
    exact ⟨rfl, H.ends⟩
  · have F := F.at 13 rfl (v' := .bool false) (congrArg Value.bool hb2)
    refine c_no (c := .tmp 13) (by kernel_rfl) (F.slot rfl) ?_
    refine c_skip (by kernel_rfl) ?_
    refine t_normal ?_
    refine c_seq (by kernel_rfl) ?_
    refine c_text (id := 4) (by kernel_rfl) [(0, 2)] (by kernel_rfl) ?_
    refine q2 (o_s 5 (.assign (.const (.slice none 0 0))) 31 (by kernel_rfl)) F (by decide) (v := .slice none 0 0) (x_assign rfl) (fun a F => ?_)
    unfold wpSeq
    refine t_normal ?_
    refine c_seq (by kernel_rfl) ?_
    refine c_seq (by kernel_rfl) ?_
    obtain rfl : z = 0 := by simpa using hb2
    have hsz := hsz hz
    have h16 := h16 hz
    have H := H.quNil Kd.string 9
    have H : St w (fun _ => False) (fun _ => True) [Asn.ft (fun W => k33.C W A l.length l) (fun k => k < w.heap.size), Asn.blk g1 [.int .i64 au, .int .i64 n, .slice A l.length c] 40, Asn.qu Kd.string 9 (.slice none 0 0) ([] : List ByteArray) (fun _ => False)] W := H
    refine c_text (id := 5) (by kernel_rfl) [(0, 2), (1, 2), (2, 2), (3, 2)] (by kernel_rfl) ?_
    refine q2 (o_s 15 (.fieldAddr 40 (.tmp 1) 2) 0 (by kernel_rfl)) F (by decide) (v := .pointer (some ⟨g1, 2, none⟩)) (x_field0 Tryd.underlying40 rfl rfl (Tryd.sizeOf38 W) (F.slot rfl)) (fun a F => ?_)
    refine q2 (o_s 16 (.load 38 (.tmp 15)) 38 (by kernel_rfl)) F (by decide) (v := .slice A l.length c) (x_load1 (Tryd.isAgg38 W) (F.slot rfl) (H.cell 1 rfl rfl)) (fun a F => ?_)
    refine q2 (o_s 17 (.call { callee := (.builtin .len), args := #[(.tmp 16)], argTypes := #[38] }) 3 (by kernel_rfl)) F (by decide) (v := .int .i64 (l.length : Int)) (x_lenL Tryd.underlying38 (F.slot rfl)) (fun a F => ?_)
    refine q2 (o_s 18 (.move (.const (.int .i64 0))) 3 (by kernel_rfl)) F (by decide) (v := .int .i64 0) (x_move rfl) (fun a F => ?_)
    unfold wpSeq
    refine t_normal ?_
    refine c_block (id := 0) (by kernel_rfl) ?_
    refine c_loop (by kernel_rfl) (fun k a W => ∃ (j : Nat) (B1 : Option Addr) (d1 : Nat) (ok2 : Nat → Prop), Fr 42 [(0, .agg #[.int .i64 au, .int .i64 n, .slice A l.length c]), (1, .pointer (some ⟨g1, 0, none⟩)), (2, .string ⟨#[]⟩), (3, .int .i64 0), (10, .agg #[.int .i64 au, .int .i64 n, .slice A l.length c]), (11, .int .i64 0), (4, .int .i64 0), (12, .int .i64 0), (13, .bool false), (15, .pointer (some ⟨g1, 2, none⟩)), (16, .slice A l.length c), (17, .int .i64 (l.length : Int)), (18, .int .i64 (j : Int)), (5, .slice B1 (((l.take j).map encT).length) d1)] a ∧ St w (fun _ => False) (fun _ => True) [Asn.ft (fun W => k33.C W A l.length l) (fun k => k < w.heap.size), Asn.blk g1 [.int .i64 au, .int .i64 n, .slice A l.length c] 40, Asn.qu Kd.string 9 (.slice B1 ((l.take j).map encT).length d1) ((l.take j).map encT) ok2] W ∧ (j ≤ l.length) ∧ (k + j = l.length)) l.length ⟨0, none, 0, (fun _ => False), F.less _ (subc rfl (subc rfl (subc rfl (subc rfl (subc rfl (subc rfl (subc rfl (subc rfl (subc rfl (subc rfl (subc rfl (subc rfl (subc rfl (subc rfl sub0)))))))))))))), H, (Nat.zero_le _), rfl⟩ ?_
    rintro k a W ⟨j, B1, d1, ok2, F, H, hj, hkj⟩
    refine c_seq (by kernel_rfl) ?_
    refine c_text (id := 6) (by kernel_rfl) [(0, 2)] (by kernel_rfl) ?_
    refine q2 (o_s 19 (.binOp .lss 3 (.tmp 18) (.tmp 17) 3) 0 (by kernel_rfl)) F (by decide) (v := .bool (decide ((j : Int) < (l.length : Int)))) (x_int (F.slot rfl) (F.slot rfl) rfl) (fun a F => ?_)
    unfold wpSeq
    have H : St w (fun _ => False) (fun _ => True) [Asn.ft (fun W => k33.C W A l.length l) (fun k => k < w.heap.size), Asn.blk g1 [.int .i64 au, .int .i64 n, .slice A l.length c] 40, Asn.qu Kd.string 9 (.slice B1 ((l.take j).map encT).length d1) ((l.take j).map encT) ok2] W := H
    refine t_normal ?_
    refine c_seq (by kernel_rfl) ?_
    rcases bool_or (decide ((j : Int) < (l.length : Int))) with hb3 | hb3
    · have hb3d := of_decide_eq_true hb3
      have F := F.at 19 rfl (v' := .bool true) (congrArg Value.bool hb3)
      refine c_yes (c := .tmp 19) (by kernel_rfl) (F.slot rfl) ?_
      refine c_skip (by kernel_rfl) ?_
      refine t_normal ?_
      refine c_seq (by kernel_rfl) ?_
      refine c_block (id := 1) (by kernel_rfl) ?_
      refine c_seq (by kernel_rfl) ?_
      refine c_text (id := 7) (by kernel_rfl) [(0, 2), (1, 2), (2, 2), (3, 2)] (by kernel_rfl) ?_
      obtain ⟨ad, cs, hA, hcl, hFK, hcc, -⟩ := Kd.F_get (H.get 0 rfl) PB.z33 (j : Int) (by omega) (by omega)
      have hd := drop_rd l j (by omega)
      have htm : PB.rd_T33 l (j : Int) ∈ l := List.mem_of_mem_drop (i := j) (by rw [hd]; exact List.mem_cons_self)
      have htk : l.take (j + 1) = l.take j ++ [PB.rd_T33 l (j : Int)] := by
        have := List.take_append_drop j l
        rw [List.take_add_one]
        congr 1
        have h2 : l[j]? = (l.drop j)[0]? := by rw [List.getElem?_drop]; simp
        rw [h2, hd]; rfl
      obtain ⟨t, ht⟩ : ∃ t, PB.rd_T33 l (j : Int) = t := ⟨_, rfl⟩
      rw [show l.getD (j : Int).toNat PB.z33 = t from ht] at hFK
      rw [ht] at htm htk
      obtain ⟨A7, c7, A8, c8, rfl, l7, g7, l8, g8⟩ := PB.k33_open (Foot.now hFK)
      have H := H.oldAt _ hFK
      have H : St w (fun _ => False) (fun _ => True) [Asn.ft (fun W => k33.C W A l.length l) (fun k => k < w.heap.size), Asn.blk g1 [.int .i64 au, .int .i64 n, .slice A l.length c] 40, Asn.qu Kd.string 9 (.slice B1 ((l.take j).map encT).length d1) ((l.take j).map encT) ok2, Asn.ft (fun W => k33.K W t (txc t A7 c7 A8 c8)) (fun k => k < w.heap.size)] W := H
      have hnx : (l.take (j + 1)).map encT = (l.take j).map encT ++ [encT t] := by rw [htk, List.map_append]; rfl
      have F := F.at 16 rfl (v' := .slice (some ad) l.length c) (by rw [hA])
      have hcs : ∀ i v, (txc t A7 c7 A8 c8)[i]? = some v → W.cell? ((ad.add (j * 9)).add i) = some v := by
        intro i v hi
        rw [add_add]
        exact hcc i v hi
      refine q2 (o_s 20 (.indexAddr 38 (.tmp 16) (.tmp 18)) 0 (by kernel_rfl)) F (by decide) (v := .pointer (some (ad.add (j * 9)))) (x_indexSl (n := l.length) (c := c) (ad := ad) (i := (j : Int)) Tryd.underlying38 (Tryd.sizeOf33 W) (F.slot rfl) (F.slot rfl) (by omega) (by omega)) (fun a F => ?_)
      refine q2 (o_s 21 (.load 33 (.tmp 20)) 33 (by kernel_rfl)) F (by decide) (v := .agg (txc t A7 c7 A8 c8).toArray) (x_loadN (Tryd.isAgg33 W) (txc t A7 c7 A8 c8) (Tryd.sizeOf33 W) (F.slot rfl) hcs) (fun a F => ?_)
      refine sq_new (o_s 7 (.alloc 33) 0 (by kernel_rfl)) trivial F (by decide) H [.int .i64 0, .string ⟨#[]⟩, .string ⟨#[]⟩, .int .u64 0, .int .u64 0, .string ⟨#[]⟩, .string ⟨#[]⟩, .slice none 0 0, .slice none 0 0] 33 (x_alloc Tryd.zeroValue33 rfl) ?_
      intro g4 W a hg4 H F
      refine ⟨(fun _ => trivial), ?_⟩
      refine sq_put (M := [Asn.ft (fun W => k33.C W A l.length l) (fun k => k < w.heap.size), Asn.blk g1 [.int .i64 au, .int .i64 n, .slice A l.length c] 40, Asn.qu Kd.string 9 (.slice B1 ((l.take j).map encT).length d1) ((l.take j).map encT) ok2, Asn.ft (fun W => k33.K W t (txc t A7 c7 A8 c8)) (fun k => k < w.heap.size), Asn.blk g4 (txc t A7 c7 A8 c8) 33]) (o_n (.store 33 (.tmp 7) (.tmp 21)) 0 (by kernel_rfl)) trivial F (x_store H (k := 4) (cs' := (txc t A7 c7 A8 c8)) rfl (Tryd.sizeOf33 W) (F.slot rfl) (F.slot rfl) rfl (Nat.le_of_ble_eq_true rfl) rfl rfl) ?_
      intro W H
      refine ⟨(fun _ => trivial), ?_⟩
      unfold wpSeq
      refine t_normal ?_
      refine c_seq (by kernel_rfl) ?_
      refine c_text (id := 8) (by kernel_rfl) [(0, 2), (1, 2), (2, 2), (3, 2), (4, 2), (5, 2), (6, 2)] (by kernel_rfl) ?_
      refine q2 (o_s 23 (.load 33 (.tmp 7)) 33 (by kernel_rfl)) F (by decide) (v := .agg (txc t A7 c7 A8 c8).toArray) (x_loadB (Tryd.isAgg33 W) (txc t A7 c7 A8 c8) (Tryd.sizeOf33 W) (F.slot rfl) (H.blk 4 rfl)) (fun a F => ?_)
      obtain ⟨l7, g7, l8, g8⟩ := k33_parts2 (H.rd 3 rfl)
      obtain ⟨b, x, he⟩ : ∃ b x, enc t.f0 t.f1 t.f2 t.f3 t.f4 t.f5 t.f6 t.f7 t.f8 = (b, x) := ⟨_, _, rfl⟩
      have hb : encT t = b := by unfold encT; rw [he]
      have HK := enc_calls t.f0 t.f1 t.f2 t.f3 t.f4 t.f5 t.f6 A7 A8 c7 c8 t.f7 t.f8 W g7 l7 g8 l8 (hp t htm).1 (hp t htm).2
      rw [he] at HK
      rw [hb] at hnx
      refine sqc (o_s 24 (.call { callee := (.value (.func 39)), args := #[(.tmp 23)], argTypes := #[33] }) 55 (by kernel_rfl)) trivial F (by decide) (x_call Tryd.func39 (by kernel_rfl) rfl (args_1 (F.slot rfl))) (HK) ?_
      rintro e W ⟨rfl, hB⟩
      refine ⟨_, rfl, fun a F => ?_⟩
      have H := H.below hB
      refine ⟨(fun _ => trivial), ?_⟩
      refine q2 (o_s 22 (.move (.tmp 24)) 55 (by kernel_rfl)) F (by decide) (x_move (F.slot rfl)) (fun a F => ?_)
      refine q2 (o_s 25 (.extract (.tmp 22) 0) 9 (by kernel_rfl)) F (by decide) (v := .string b) (x_extract (F.slot rfl) rfl) (fun a F => ?_)
      refine q2 (o_s 26 (.extract (.tmp 22) 1) 24 (by kernel_rfl)) F (by decide) (v := .int .i64 x) (x_extract (F.slot rfl) rfl) (fun a F => ?_)
      refine q2 (o_s 8 (.assign (.tmp 25)) 9 (by kernel_rfl)) F (by decide) (v := .string b) (x_assign (F.slot rfl)) (fun a F => ?_)
      refine q2 (o_s 9 (.assign (.tmp 26)) 24 (by kernel_rfl)) F (by decide) (v := .int .i64 x) (x_assign (F.slot rfl)) (fun a F => ?_)
      unfold wpSeq
      refine t_normal ?_
      have H := H.addStr b
      have H : St w (fun _ => False) (fun _ => True) [Asn.ft (fun W => k33.C W A l.length l) (fun k => k < w.heap.size), Asn.blk g1 [.int .i64 au, .int .i64 n, .slice A l.length c] 40, Asn.qu Kd.string 9 (.slice B1 ((l.take j).map encT).length d1) ((l.take j).map encT) ok2, Asn.ft (fun W => k33.K W t (txc t A7 c7 A8 c8)) (fun k => k < w.heap.size), Asn.blk g4 (txc t A7 c7 A8 c8) 33, Asn.fk Kd.string (fun _ => False) b [.string b]] W := H
      refine c_text (id := 9) (by kernel_rfl) [(0, 2), (1, 2), (2, 2), (3, 2), (4, 2)] (by kernel_rfl) ?_
      refine q2 (o_s 27 (.move (.tmp 5)) 31 (by kernel_rfl)) F (by decide) (x_move (F.slot rfl)) (fun a F => ?_)
      refine q2 (o_s 28 (.move (.tmp 8)) 9 (by kernel_rfl)) F (by decide) (x_move (F.slot rfl)) (fun a F => ?_)
      refine sq_bapp Kd.string 2 5 (by decide) (o_s 29 (.buildSlice 31 1 #[(0, (.tmp 28))]) 31 (by kernel_rfl)) trivial (o_s 30 (.call { callee := (.builtin .append), args := #[(.tmp 27), (.tmp 29)], argTypes := #[31, 31] }) 31 (by kernel_rfl)) (fun _ => trivial) F (by decide) (by decide) rfl (fun a F => F.slot rfl) (F.slot rfl) rfl Tryd.underlying31 PB.info9 rfl (by decide) (by decide) (by decide) H rfl rfl (by rw [List.length_map, List.length_take]; omega) (fun W H => (fun _ => trivial)) ?_
      intro v_ W a H F
      obtain ⟨A2, c2, rfl, hc2⟩ := (H.qu 2 rfl).form
      have H : St w (fun _ => False) (fun _ => True) [Asn.ft (fun W => k33.C W A l.length l) (fun k => k < w.heap.size), Asn.blk g1 [.int .i64 au, .int .i64 n, .slice A l.length c] 40, Asn.qu Kd.string 9 (.slice A2 (((l.take j).map encT ++ [b]).length) c2) ((l.take j).map encT ++ [b]) _, Asn.ft (fun W => k33.K W t (txc t A7 c7 A8 c8)) (fun k => k < w.heap.size), Asn.blk g4 (txc t A7 c7 A8 c8) 33, Asn.fk Kd.string (fun _ => False) b [.string b]] W := H
      refine ⟨(fun _ => trivial), ?_⟩
      refine q2 (o_s 5 (.assign (.tmp 30)) 31 (by kernel_rfl)) F (by decide) (v := .slice A2 (((l.take j).map encT ++ [b]).length) c2) (x_assign (F.slot rfl)) (fun a F => ?_)
      unfold wpSeq
      refine b_normal ?_
      refine t_normal ?_
      refine c_text (id := 10) (by kernel_rfl) [(0, 2), (1, 2)] (by kernel_rfl) ?_
      refine q2 (o_s 31 (.binOp .add 3 (.tmp 18) (.const (.int .i64 1)) 3) 3 (by kernel_rfl)) F (by decide) (v := .int .i64 (IntKind.i64.wrap ((j : Int) + 1))) (x_int (F.slot rfl) rfl rfl) (fun a F => ?_)
      refine q2 (o_s 18 (.move (.tmp 31)) 3 (by kernel_rfl)) F (by decide) (x_move (F.slot rfl)) (fun a F => ?_)
      unfold wpSeq
      refine t_normal ?_
      have F_ := F
      have H := H.front 3
      have F := F.at 18 rfl (v' := .int .i64 ((j + 1 : Nat) : Int)) (congrArg (Value.int .i64) ((wrap_i64 _ (by omega) (by omega)).trans (by omega)))
      have F := F.at 16 rfl (v' := .slice A l.length c) (by rw [hA])
      rw [← hnx] at H
      have F := F.at 5 rfl (v' := .slice A2 ((l.take (j + 1)).map encT).length c2) (by rw [hnx])
      exact ⟨k - 1, by omega, j + 1, _, _, _, F.less _ (subc rfl (subc rfl (subc rfl (subc rfl (subc rfl (subc rfl (subc rfl (subc rfl (subc rfl (subc rfl (subc rfl (subc rfl (subc rfl (subc rfl sub0)))))))))))))), H, (by omega), (by omega)⟩
    · have hb3d := of_decide_eq_false hb3
      have F := F.at 19 rfl (v' := .bool false) (congrArg Value.bool hb3)
      refine c_no (c := .tmp 19) (by kernel_rfl) (F.slot rfl) ?_
      refine c_exit (id := 0) (by kernel_rfl) ?_
      refine t_exit ?_
      refine t_exit ?_
      refine b_here ?_
      refine t_normal ?_
      refine c_seq (by kernel_rfl) ?_
      obtain rfl : j = l.length := by omega
      rw [List.take_length] at H F
      have H : St w (fun _ => False) (fun _ => True) [Asn.ft (fun W => k33.C W A l.length l) (fun k => k < w.heap.size), Asn.blk g1 [.int .i64 au, .int .i64 n, .slice A l.length c] 40, Asn.qu Kd.string 9 (.slice B1 (l.map encT).length d1) (l.map encT) ok2] W := H
      refine c_drawn (id := 11) (by kernel_rfl) (by kernel_rfl) (Vs [Asn.blk g1 [.int .i64 au, .int .i64 n, .slice A l.length c] 40]) [0, 1, 3, 0, 8, 31, 63, 0, 191, 511, 1023, 2047] [] [(0, 0), (3, 0), (7, 0), (1, 1), (4, 1), (2, 2), (5, 2), (6, 0), (8, 2), (9, 0), (10, 0), (11, 0)] (by kernel_rfl) (fun _ _ d _ _ h => by cases d <;> exact h) (Vs.drew ⟨H.get 1 rfl, trivial⟩) ?_
      have H := H.drew
      generalize World.drew W = W at H ⊢
      refine q0 (o_s 32 (.fieldAddr 40 (.tmp 1) 0) 0 (by kernel_rfl)) F (by decide) (v := .pointer (some ⟨g1, 0, none⟩)) (fun W_ => x_field0 Tryd.underlying40 rfl rfl (Tryd.sizeOf3 W_) (F.slot rfl)) (fun a F => ?_)
      refine q0 (o_s 35 (.fieldAddr 40 (.tmp 1) 1) 0 (by kernel_rfl)) F (by decide) (v := .pointer (some ⟨g1, 1, none⟩)) (fun W_ => x_field0 Tryd.underlying40 rfl rfl (Tryd.sizeOf3 W_) (F.slot rfl)) (fun a F => ?_)
      refine q0 (o_s 39 (.move (.tmp 5)) 31 (by kernel_rfl)) F (by decide) (fun W_ => x_move (F.slot rfl)) (fun a F => ?_)
      refine q1 (o_s 33 (.load 3 (.tmp 32)) 3 (by kernel_rfl)) F (by decide) (⟨H.get 1 rfl, trivial⟩) (v := .int .i64 au) (fun W_ hV => x_load1 (Tryd.isAgg3 W_) (F.slot rfl) (bcell hV.1 rfl)) (fun a F => ?_)
      refine q1 (o_s 36 (.load 3 (.tmp 35)) 3 (by kernel_rfl)) F (by decide) (⟨H.get 1 rfl, trivial⟩) (v := .int .i64 n) (fun W_ hV => x_load1 (Tryd.isAgg3 W_) (F.slot rfl) (bcell hV.1 rfl)) (fun a F => ?_)
      refine sqc (o_s 34 (.call { callee := (.value (.func 62)), args := #[(.tmp 33)], argTypes := #[2] }) 9 (by kernel_rfl)) trivial F (by decide) (x_call Tryd.func62 (by kernel_rfl) rfl (args_1 (F.slot rfl))) (wire_Int.calls au (wI au) W rfl) ?_
      rintro e W ⟨rfl, hB⟩
      refine ⟨_, rfl, fun a F => ?_⟩
      have H := H.below hB
      refine ⟨(fun _ => ⟨H.get 1 rfl, trivial⟩), ?_⟩
      refine sqc (o_s 37 (.call { callee := (.value (.func 62)), args := #[(.tmp 36)], argTypes := #[2] }) 9 (by kernel_rfl)) trivial F (by decide) (x_call Tryd.func62 (by kernel_rfl) rfl (args_1 (F.slot rfl))) (wire_Int.calls n (wI n) W rfl) ?_
      rintro e W ⟨rfl, hB⟩
      refine ⟨_, rfl, fun a F => ?_⟩
      have H := H.below hB
      refine ⟨(fun _ => ⟨H.get 1 rfl, trivial⟩), ?_⟩
      refine q0 (o_s 38 (.binOp .add 9 (.tmp 34) (.tmp 37) 9) 9 (by kernel_rfl)) F (by decide) (v := .string ((wI au) ++ (wI n))) (fun W_ => x_cat (F.slot rfl) (F.slot rfl) (by have := hw; have : (lb (l.map encT)).size = (lbL (l.map encT)).length := rfl; (try simp only [ByteArray.size_append]); omega)) (fun a F => ?_)
      refine sqc (o_s 40 (.call { callee := (.value (.func 63)), args := #[(.tmp 39)], argTypes := #[31] }) 9 (by kernel_rfl)) trivial F (by decide) (x_call Tryd.func63 (by kernel_rfl) rfl (args_1 (F.slot rfl))) (wire_List.calls B1 d1 (l.map encT) (lb (l.map encT)) W (H.qu 2 rfl).read.2.2 (H.qu 2 rfl).read.2.1 (if_pos hsz)) ?_
      rintro e W ⟨rfl, hB⟩
      refine ⟨_, rfl, fun a F => ?_⟩
      have H := H.below hB
      refine ⟨(fun _ => ⟨H.get 1 rfl, trivial⟩), ?_⟩
      refine q0 (o_s 41 (.binOp .add 9 (.tmp 38) (.tmp 40) 9) 9 (by kernel_rfl)) F (by decide) (v := .string (((wI au) ++ (wI n)) ++ (lb (l.map encT)))) (fun W_ => x_cat (F.slot rfl) (F.slot rfl) (by have := hw; have : (lb (l.map encT)).size = (lbL (l.map encT)).length := rfl; (try simp only [ByteArray.size_append]); omega)) (fun a F => ?_)
      refine q0 (o_s 2 (.assign (.tmp 41)) 9 (by kernel_rfl)) F (by decide) (v := .string (((wI au) ++ (wI n)) ++ (lb (l.map encT)))) (fun W_ => x_assign (F.slot rfl)) (fun a F => ?_)
      refine q0 (o_s 3 (.assign (.const (.int .i64 0))) 24 (by kernel_rfl)) F (by decide) (v := .int .i64 0) (fun W_ => x_assign rfl) (fun a F => ?_)
      unfold wpSeq
      refine t_normal ?_
      refine c_ret (by kernel_rfl) ?_
      refine p_list (rs := [.tmp 2, .tmp 3]) (vs := [.string (((wI au) ++ (wI n)) ++ (lb (l.map encT))), .int .i64 0]) Tryd.results31 (by simp) F (Vals.tmp' F rfl (Vals.tmp' F rfl .nil)) ?_
      rw [show benc au n l = (bencB au n l, 0) from if_pos hz]
      exact ⟨rfl, H.ends⟩
end Go.Proofs.YtndicjikjcifaaaDoor

/- A batch that the check lets pass: what follows for its parts. Plain lemmas. -/
namespace Go.Proofs.YtndicjikjcifaaaDoor
open Go.RowKit Go.Shelf Go.Lib Go.Proofs.YtndicjikjcifaaaDoorW.PrintWords Go.Proofs.YtndicjikjcifaaaDoorW.PrintLast
open PB (S33 k33)
set_option linter.unusedVariables false
set_option linter.unusedSimpArgs false
theorem bchL_ok : ∀ l : List S33, bchL l = 0 → ∀ t ∈ l, chT t = 0
  | [], _, t, ht => by cases ht
  | x :: r, h, t, ht => by
    rw [bchL] at h
    by_cases hx : chT x = 0
    · rw [if_pos hx] at h
      rcases List.mem_cons.1 ht with rfl | ht
      · exact hx
      · exact bchL_ok r h t ht
    · rw [if_neg hx] at h
      exact absurd h hx
theorem bchk_ok {a n : Int} {l : List S33} (h : bchk a n l = 0) : 0 ≤ a ∧ a ≤ 6 ∧ 1 ≤ n ∧ n ≤ 4611686018427387903 ∧ l.length ≠ 0 ∧ l.length ≤ 16 ∧ ∀ t ∈ l, chT t = 0 := by
  unfold bchk at h
  by_cases h1 : a < 0 ∨ 6 < a ∨ n < 1 ∨ 4611686018427387903 < n
  · rw [if_pos h1] at h; exact absurd h (by decide)
  rw [if_neg h1] at h
  by_cases h2 : l.length = 0
  · rw [if_pos h2] at h; exact absurd h (by decide)
  rw [if_neg h2] at h
  by_cases h3 : 16 < l.length
  · rw [if_pos h3] at h; exact absurd h (by decide)
  rw [if_neg h3] at h
  exact ⟨by omega, by omega, by omega, by omega, h2, by omega, bchL_ok l h⟩
theorem wI_size (a : Int) : (wI a).size ≤ 100 := by
  unfold wI wire_Int.f
  rw [Option.getD_some]
  split
  · exact Nat.zero_le _
  · rename_i h
    have e9 : (128 : Nat) ^ (8 + 1) = 9223372036854775808 := by decide
    have h1 := vints_len 8 a.toNat (by rw [e9]; omega)
    have e : (strOfNums (vints a.toNat)).size = (vints a.toNat).length := by simp [strOfNums, ByteArray.size]
    omega
theorem encB_size {k : Int} {f t : ByteArray} {am nc : Int} {ky' vl : ByteArray} {rs ws : List ByteArray} (h : Fine k f t am nc ky' vl rs ws) : (encB k f t am nc ky' vl rs ws).size ≤ 1000 := by
  have h1 := ib_size k
  have h2 := tb_size f
  have h3 := tb_size t
  have h4 := ib_size am
  have h5 := ib_size nc
  have h6 := tb_size ky'
  have h7 := tb_size vl
  obtain ⟨r1, r2⟩ := ke_zero h.rs
  obtain ⟨w1, w2⟩ := ke_zero h.ws
  have h8 := lb_size 34 rs r2
  have h9 := lb_size 34 ws w2
  have a2 := h.f
  have a3 := h.t
  have a6 := h.ky
  have a7 := h.vl
  have e8 : (lb rs).data.toList.length = (lbL rs).length := by simp [lb]
  have e9 : (lb ws).data.toList.length = (lbL ws).length := by simp [lb]
  have e0 : ∀ x : ByteArray, x.data.toList.length = x.size := fun x => by rw [Array.length_toList]; rfl
  unfold encB
  show (Lib.join _ _).toArray.size ≤ 1000
  rw [e0] at e8 e9
  simp only [encL, List.map_cons, List.map_nil, Lib.join, List.size_toArray, List.intercalate, List.intersperse, List.flatten_cons, List.flatten_nil, List.length_append, List.append_assoc, List.nil_append, List.length_nil, List.append_nil, e0]
  omega
theorem batch_size {a n : Int} {l : List S33} (h : bchk a n l = 0) : (lbL (l.map encT)).length ≤ 20000 := by
  obtain ⟨_, _, _, _, _, h16, hc⟩ := bchk_ok h
  have hx : ∀ x ∈ l.map encT, x.size ≤ 1000 := by
    intro x hx
    obtain ⟨t, ht, rfl⟩ := List.mem_map.1 hx
    have h0 : ch t.f0 t.f1 t.f2 t.f3 t.f4 t.f5 t.f6 t.f7 t.f8 = 0 := hc t ht
    unfold encT enc
    rw [if_pos h0]
    exact encB_size (ch_fine h0)
  have := lb_size 1000 _ hx
  rw [List.length_map] at this
  have h2 : l.length * (9 + 1000) ≤ 16 * (9 + 1000) := Nat.mul_le_mul_right _ h16
  omega
theorem benc_calls' (au n : Int) (A : Option Addr) (c : Nat) (l : List S33) (w : World) (hr : k33.C w A l.length l) (hc : l.length ≤ c) (hl : l.length < 4611686018427387904) (hp : ∀ t ∈ l, 0 ≤ t.f3 ∧ 0 ≤ t.f4) :
    Calls Tryd.prog 31 #[.agg #[.int .i64 au, .int .i64 n, .slice A l.length c]] w fun e w' => e = .returned (.tuple #[.string (benc au n l).1, .int .i64 (benc au n l).2]) ∧ Below w.heap.size w w' :=
  benc_calls au n A c l w hr hc hl hp (fun h => Nat.le_trans (batch_size h) (by decide)) (fun h => (bchk_ok h).2.2.2.2.2.1) ⟨wI_size au, wI_size n⟩
theorem benc_size (a n : Int) (l : List S33) : (benc a n l).1.size ≤ 30000 := by
  unfold benc
  by_cases h : bchk a n l = 0
  · rw [if_pos h]
    have h1 := wI_size a
    have h2 := wI_size n
    have h3 := batch_size h
    have h4 : (lb (l.map encT)).size = (lbL (l.map encT)).length := rfl
    show (wI a ++ wI n ++ lb (l.map encT)).size ≤ 30000
    simp only [ByteArray.size_append]
    omega
  · rw [if_neg h]; exact Nat.zero_le _
end Go.Proofs.YtndicjikjcifaaaDoor

/- tuskref05.Encode. -/
namespace Go.Proofs.YtndicjikjcifaaaDoor
open Go.RowKit Go.Proofs.YtndicjikjcifaaaDoorW.PrintWords Go.Proofs.YtndicjikjcifaaaDoorW.PrintLast
set_option linter.unusedVariables false
set_option linter.unusedSimpArgs false
set_option maxRecDepth 100000
open PB (S33 k33)
theorem encT_small {a n : Int} {l : List S33} (h : bchk a n l = 0) : ∀ x ∈ l.map encT, x.size ≤ 65536 := by
  intro x hx
  obtain ⟨t, ht, rfl⟩ := List.mem_map.1 hx
  have h0 : ch t.f0 t.f1 t.f2 t.f3 t.f4 t.f5 t.f6 t.f7 t.f8 = 0 := (bchk_ok h).2.2.2.2.2.2 t ht
  unfold encT enc
  rw [if_pos h0]
  exact Nat.le_trans (encB_size (ch_fine h0)) (by decide)
set_option maxHeartbeats 1000000 in
theorem rbenc_calls (au n : Int) (A : Option Addr) (c : Nat) (l : List S33) (w : World) (hr : k33.C w A l.length l) (hc : l.length ≤ c) (hl : l.length < 4611686018427387904) (hL : ∀ t ∈ l, LimT t) (hp : ∀ t ∈ l, 0 ≤ t.f3 ∧ 0 ≤ t.f4) :
    Calls Tryd.prog 32 #[.agg #[.int .i64 au, .int .i64 n, .slice A l.length c]] w fun e w' => e = .returned (.tuple #[.string (benc au n l).1, .int .i64 (benc au n l).2]) ∧ Below w.heap.size w w' := by
  have H0 : St w (fun _ => False) (fun _ => True) [Asn.rd k33 (fun k => k < w.heap.size) A l.length l] w := (St.first w _ _).old _ (k33_oldC hr) (fun B hB => by cases hB)
  refine c_enter2 (args := [.agg #[.int .i64 au, .int .i64 n, .slice A l.length c]]) (S := (fun _ => False)) (R := (fun _ => True)) (M := [Asn.rd k33 (fun k => k < w.heap.size) A l.length l]) Tryd.func32 (by kernel_rfl) 44 Tryd.ntmps32 (Nat.le_of_ble_eq_true rfl) (H0) (fun a W F H => ?_)
  have F := F.less [(0, .agg #[.int .i64 au, .int .i64 n, .slice A l.length c])] (subc rfl sub0)
  refine c_seq (by kernel_rfl) ?_
  refine c_text (id := 0) (by kernel_rfl) [(0, 2), (1, 2), (2, 2)] (by kernel_rfl) ?_
  refine sq_new (o_s 1 (.box 40 (.tmp 0)) 0 (by kernel_rfl)) trivial F (by decide) H [.int .i64 au, .int .i64 n, .slice A l.length c] 40 (x_box (F.slot rfl) rfl) ?_
  intro g1 W a hg1 H F
  refine ⟨(fun _ => trivial), ?_⟩
  refine q2 (o_s 2 (.assign (.const (.string { data := #[] }))) 9 (by kernel_rfl)) F (by decide) (v := .string ⟨#[]⟩) (x_assign rfl) (fun a F => ?_)
  refine q2 (o_s 3 (.assign (.const (.int .i64 0))) 24 (by kernel_rfl)) F (by decide) (v := .int .i64 0) (x_assign rfl) (fun a F => ?_)
  unfold wpSeq
  have H : St w (fun _ => False) (fun _ => True) [Asn.rd k33 (fun k => k < w.heap.size) A l.length l, Asn.blk g1 [.int .i64 au, .int .i64 n, .slice A l.length c] 40] W := H
  refine t_normal ?_
  refine c_seq (by kernel_rfl) ?_
  refine c_text (id := 1) (by kernel_rfl) [(0, 2), (1, 2), (2, 2)] (by kernel_rfl) ?_
  refine q2 (o_s 9 (.load 40 (.tmp 1)) 40 (by kernel_rfl)) F (by decide) (v := .agg #[.int .i64 au, .int .i64 n, .slice A l.length c]) (x_loadB (Tryd.isAgg40 W) [.int .i64 au, .int .i64 n, .slice A l.length c] (Tryd.sizeOf40 W) (F.slot rfl) (H.blk 1 rfl)) (fun a F => ?_)
  obtain ⟨z, hz⟩ : ∃ z, bchk au n l = z := ⟨_, rfl⟩
  have HK := rbchk_calls au n A c l W hl hL (H.rd 0 rfl) hc
  rw [hz] at HK
  refine sqc (o_s 10 (.call { callee := (.value (.func 34)), args := #[(.tmp 9)], argTypes := #[40] }) 24 (by kernel_rfl)) trivial F (by decide) (x_call Tryd.func34 (by kernel_rfl) rfl (args_1 (F.slot rfl))) (HK) ?_
  rintro e W ⟨rfl, hB⟩
  refine ⟨_, rfl, fun a F => ?_⟩
  have H := H.below hB
  refine ⟨(fun _ => trivial), ?_⟩
  refine q2 (o_s 4 (.assign (.tmp 10)) 24 (by kernel_rfl)) F (by decide) (v := .int .i64 z) (x_assign (F.slot rfl)) (fun a F => ?_)
  unfold wpSeq
  refine t_normal ?_
  refine c_seq (by kernel_rfl) ?_
  refine c_seq (by kernel_rfl) ?_
  refine c_text (id := 2) (by kernel_rfl) [(0, 2), (1, 2)] (by kernel_rfl) ?_
  refine q2 (o_s 11 (.move (.tmp 4)) 24 (by kernel_rfl)) F (by decide) (x_move (F.slot rfl)) (fun a F => ?_)
  refine q2 (o_s 12 (.binOp .neq 24 (.tmp 11) (.const (.int .i64 0)) 24) 4 (by kernel_rfl)) F (by decide) (v := .bool (z != (0 : Int))) (x_int (F.slot rfl) rfl rfl) (fun a F => ?_)
  unfold wpSeq
  refine t_normal ?_
  rcases bool_or (z != (0 : Int)) with hb2 | hb2
  · have F := F.at 12 rfl (v' := .bool true) (congrArg Value.bool hb2)
    refine c_yes (c := .tmp 12) (by kernel_rfl) (F.slot rfl) ?_
    refine c_seq (by kernel_rfl) ?_
    refine c_text (id := 3) (by kernel_rfl) [(0, 2), (1, 2), (2, 2)] (by kernel_rfl) ?_
    refine q2 (o_s 13 (.move (.tmp 4)) 24 (by kernel_rfl)) F (by decide) (x_move (F.slot rfl)) (fun a F => ?_)
    refine q2 (o_s 2 (.assign (.const (.string { data := #[] }))) 9 (by kernel_rfl)) F (by decide) (v := .string ⟨#[]⟩) (x_assign rfl) (fun a F => ?_)
    refine q2 (o_s 3 (.assign (.tmp 13)) 24 (by kernel_rfl)) F (by decide) (v := .int .i64 z) (x_assign (F.slot rfl)) (fun a F => ?_)
    unfold wpSeq
    refine t_normal ?_
    refine c_ret (by kernel_rfl) ?_
    refine t_ret ?_
    refine p_list (rs := [.tmp 2, .tmp 3]) (vs := [.string ⟨#[]⟩, .int .i64 z]) Tryd.results32 (by simp) F (Vals.tmp' F rfl (Vals.tmp' F rfl .nil)) ?_
    have hx : z ≠ 0 := by simpa using hb2
    rw [show benc au n l = (⟨#[]⟩, z) from (if_neg (by rw [hz]; exact hx)).trans (by rw [hz])]
    exact ⟨rfl, H.ends⟩
  · have F := F.at 12 rfl (v' := .bool false) (congrArg Value.bool hb2)
    refine c_no (c := .tmp 12) (by kernel_rfl) (F.slot rfl) ?_
    refine c_skip (by kernel_rfl) ?_
    refine t_normal ?_
    refine c_seq (by kernel_rfl) ?_
    refine c_text (id := 4) (by kernel_rfl) [(0, 2)] (by kernel_rfl) ?_
    refine q2 (o_s 5 (.assign (.const (.slice none 0 0))) 31 (by kernel_rfl)) F (by decide) (v := .slice none 0 0) (x_assign rfl) (fun a F => ?_)
    unfold wpSeq
    refine t_normal ?_
    refine c_seq (by kernel_rfl) ?_
    refine c_seq (by kernel_rfl) ?_
    obtain rfl : z = 0 := by simpa using hb2
    obtain ⟨b1, b2, b3, b4, b5, h16, b7⟩ := bchk_ok hz
    have hsz := batch_size hz
    have H := H.quNil Kd.string 9
    have H : St w (fun _ => False) (fun _ => True) [Asn.rd k33 (fun k => k < w.heap.size) A l.length l, Asn.blk g1 [.int .i64 au, .int .i64 n, .slice A l.length c] 40, Asn.qu Kd.string 9 (.slice none 0 0) ([] : List ByteArray) (fun _ => False)] W := H
    refine c_text (id := 5) (by kernel_rfl) [(0, 2)] (by kernel_rfl) ?_
    refine q2 (o_s 6 (.assign (.const (.int .i64 0))) 3 (by kernel_rfl)) F (by decide) (v := .int .i64 0) (x_assign rfl) (fun a F => ?_)
    unfold wpSeq
    refine t_normal ?_
    refine c_block (id := 0) (by kernel_rfl) ?_
    refine c_loop (by kernel_rfl) (fun k a W => ∃ (j : Nat) (B1 : Option Addr) (d1 : Nat) (ok2 : Nat → Prop), Fr 44 [(0, .agg #[.int .i64 au, .int .i64 n, .slice A l.length c]), (1, .pointer (some ⟨g1, 0, none⟩)), (2, .string ⟨#[]⟩), (3, .int .i64 0), (9, .agg #[.int .i64 au, .int .i64 n, .slice A l.length c]), (10, .int .i64 0), (4, .int .i64 0), (11, .int .i64 0), (12, .bool false), (6, .int .i64 (j : Int)), (5, .slice B1 (((l.take j).map encT).length) d1)] a ∧ St w (fun _ => False) (fun _ => True) [Asn.rd k33 (fun k => k < w.heap.size) A l.length l, Asn.blk g1 [.int .i64 au, .int .i64 n, .slice A l.length c] 40, Asn.qu Kd.string 9 (.slice B1 ((l.take j).map encT).length d1) ((l.take j).map encT) ok2] W ∧ (j ≤ l.length) ∧ (k + j = l.length)) l.length ⟨0, none, 0, (fun _ => False), F.less _ (subc rfl (subc rfl (subc rfl (subc rfl (subc rfl (subc rfl (subc rfl (subc rfl (subc rfl (subc rfl (subc rfl sub0))))))))))), H, (Nat.zero_le _), rfl⟩ ?_
    rintro k a W ⟨j, B1, d1, ok2, F, H, hj, hkj⟩
    refine c_seq (by kernel_rfl) ?_
    refine c_seq (by kernel_rfl) ?_
    refine c_text (id := 6) (by kernel_rfl) [(0, 2), (1, 2), (2, 2), (3, 2), (4, 2)] (by kernel_rfl) ?_
    refine q2 (o_s 14 (.move (.tmp 6)) 3 (by kernel_rfl)) F (by decide) (x_move (F.slot rfl)) (fun a F => ?_)
    refine q2 (o_s 15 (.fieldAddr 40 (.tmp 1) 2) 0 (by kernel_rfl)) F (by decide) (v := .pointer (some ⟨g1, 2, none⟩)) (x_field0 Tryd.underlying40 rfl rfl (Tryd.sizeOf38 W) (F.slot rfl)) (fun a F => ?_)
    refine q2 (o_s 16 (.load 38 (.tmp 15)) 38 (by kernel_rfl)) F (by decide) (v := .slice A l.length c) (x_load1 (Tryd.isAgg38 W) (F.slot rfl) (H.cell 1 rfl rfl)) (fun a F => ?_)
    refine q2 (o_s 17 (.call { callee := (.builtin .len), args := #[(.tmp 16)], argTypes := #[38] }) 3 (by kernel_rfl)) F (by decide) (v := .int .i64 (l.length : Int)) (x_lenL Tryd.underlying38 (F.slot rfl)) (fun a F => ?_)
    refine q2 (o_s 18 (.binOp .lss 3 (.tmp 14) (.tmp 17) 3) 4 (by kernel_rfl)) F (by decide) (v := .bool (decide ((j : Int) < (l.length : Int)))) (x_int (F.slot rfl) (F.slot rfl) rfl) (fun a F => ?_)
    unfold wpSeq
    have H : St w (fun _ => False) (fun _ => True) [Asn.rd k33 (fun k => k < w.heap.size) A l.length l, Asn.blk g1 [.int .i64 au, .int .i64 n, .slice A l.length c] 40, Asn.qu Kd.string 9 (.slice B1 ((l.take j).map encT).length d1) ((l.take j).map encT) ok2] W := H
    refine t_normal ?_
    rcases bool_or (decide ((j : Int) < (l.length : Int))) with hb3 | hb3
    · have hb3d := of_decide_eq_true hb3
      have F := F.at 18 rfl (v' := .bool true) (congrArg Value.bool hb3)
      refine c_yes (c := .tmp 18) (by kernel_rfl) (F.slot rfl) ?_
      refine c_skip (by kernel_rfl) ?_
      refine t_normal ?_
      refine c_seq (by kernel_rfl) ?_
      refine c_block (id := 1) (by kernel_rfl) ?_
      refine c_seq (by kernel_rfl) ?_
      have hil : j < l.length := by omega
      obtain ⟨t, htt⟩ : ∃ t_, (l)[j]? = some t_ := ⟨_, List.getElem?_eq_getElem (by omega)⟩
      obtain ⟨adt, cst, hAt, hKt, H⟩ := H.elem 0 rfl (by decide) j t htt
      obtain ⟨A7, c7, A8, c8, rfl, l7, g7, l8, g8⟩ := PB.k33_open hKt
      have H : St w (fun _ => False) (fun _ => True) [Asn.rd k33 (fun k => k < w.heap.size) A l.length l, Asn.blk g1 [.int .i64 au, .int .i64 n, .slice A l.length c] 40, Asn.qu Kd.string 9 (.slice B1 ((l.take j).map encT).length d1) ((l.take j).map encT) ok2, Asn.fk k33 (fun k => k < w.heap.size) t (txc t A7 c7 A8 c8), Asn.cl (adt.add (j * 9)) (txc t A7 c7 A8 c8) (fun k => k < w.heap.size)] W := H
      have htm : t ∈ l := List.mem_of_getElem? htt
      have hnx : (l.take (j + 1)).map encT = (l.take j).map encT ++ [encT t] := by rw [List.take_add_one, htt, List.map_append]; rfl
      refine c_text (id := 8) (by kernel_rfl) [(0, 2), (1, 2), (2, 2), (3, 2), (4, 2), (5, 2), (6, 2), (7, 2), (8, 2), (9, 2), (10, 2)] (by kernel_rfl) ?_
      refine q2 (o_s 22 (.fieldAddr 40 (.tmp 1) 2) 0 (by kernel_rfl)) F (by decide) (v := .pointer (some ⟨g1, 2, none⟩)) (x_field0 Tryd.underlying40 rfl rfl (Tryd.sizeOf38 W) (F.slot rfl)) (fun a F => ?_)
      refine q2 (o_s 23 (.load 38 (.tmp 22)) 38 (by kernel_rfl)) F (by decide) (v := .slice A l.length c) (x_load1 (Tryd.isAgg38 W) (F.slot rfl) (H.cell 1 rfl rfl)) (fun a F => ?_)
      refine q2 (o_s 24 (.move (.tmp 6)) 3 (by kernel_rfl)) F (by decide) (x_move (F.slot rfl)) (fun a F => ?_)
      refine q2 (o_s 25 (.indexAddr 38 (.tmp 23) (.tmp 24)) 0 (by kernel_rfl)) F (by decide) (v := .pointer (some (adt.add (j * 9)))) (x_indexE Tryd.underlying38 (Tryd.sizeOf33 W) (F.slot rfl) hAt (F.slot rfl) (by omega)) (fun a F => ?_)
      refine q2 (o_s 26 (.load 33 (.tmp 25)) 33 (by kernel_rfl)) F (by decide) (v := .agg (txc t A7 c7 A8 c8).toArray) (x_loadN (Tryd.isAgg33 W) (txc t A7 c7 A8 c8) (Tryd.sizeOf33 W) (F.slot rfl) (clnz (H.get 4 rfl) _ rfl)) (fun a F => ?_)
      obtain ⟨l7, g7, l8, g8⟩ := k33_parts (H.rd 3 rfl)
      obtain ⟨b, x, he⟩ : ∃ b x, enc t.f0 t.f1 t.f2 t.f3 t.f4 t.f5 t.f6 t.f7 t.f8 = (b, x) := ⟨_, _, rfl⟩
      have hb : encT t = b := by unfold encT; rw [he]
      rw [hb] at hnx
      refine sqc (o_s 27 (.call { callee := (.value (.func 40)), args := #[(.tmp 26)], argTypes := #[33] }) 55 (by kernel_rfl)) trivial F (by decide) (x_call Tryd.func40 (by kernel_rfl) rfl (args_1 (F.slot rfl))) (enc2_calls t.f0 t.f1 t.f2 t.f3 t.f4 t.f5 t.f6 A7 A8 c7 c8 t.f7 t.f8 W (hL t htm) b x he g7 l7 g8 l8 (hp t htm).1 (hp t htm).2) ?_
      rintro e W ⟨rfl, hB⟩
      refine ⟨_, rfl, fun a F => ?_⟩
      have H := H.below hB
      refine ⟨(fun _ => trivial), ?_⟩
      refine q2 (o_s 21 (.move (.tmp 27)) 55 (by kernel_rfl)) F (by decide) (x_move (F.slot rfl)) (fun a F => ?_)
      refine q2 (o_s 28 (.extract (.tmp 21) 0) 9 (by kernel_rfl)) F (by decide) (v := .string b) (x_extract (F.slot rfl) rfl) (fun a F => ?_)
      refine q2 (o_s 29 (.extract (.tmp 21) 1) 24 (by kernel_rfl)) F (by decide) (v := .int .i64 x) (x_extract (F.slot rfl) rfl) (fun a F => ?_)
      refine q2 (o_s 7 (.assign (.tmp 28)) 9 (by kernel_rfl)) F (by decide) (v := .string b) (x_assign (F.slot rfl)) (fun a F => ?_)
      refine q2 (o_s 8 (.assign (.tmp 29)) 24 (by kernel_rfl)) F (by decide) (v := .int .i64 x) (x_assign (F.slot rfl)) (fun a F => ?_)
      unfold wpSeq
      refine t_normal ?_
      have H := H.addStr b
      have H : St w (fun _ => False) (fun _ => True) [Asn.rd k33 (fun k => k < w.heap.size) A l.length l, Asn.blk g1 [.int .i64 au, .int .i64 n, .slice A l.length c] 40, Asn.qu Kd.string 9 (.slice B1 ((l.take j).map encT).length d1) ((l.take j).map encT) ok2, Asn.fk k33 (fun k => k < w.heap.size) t (txc t A7 c7 A8 c8), Asn.cl (adt.add (j * 9)) (txc t A7 c7 A8 c8) (fun k => k < w.heap.size), Asn.fk Kd.string (fun _ => False) b [.string b]] W := H
      refine c_text (id := 9) (by kernel_rfl) [(0, 2), (1, 2), (2, 2), (3, 2), (4, 2)] (by kernel_rfl) ?_
      refine q2 (o_s 30 (.move (.tmp 5)) 31 (by kernel_rfl)) F (by decide) (x_move (F.slot rfl)) (fun a F => ?_)
      refine q2 (o_s 31 (.move (.tmp 7)) 9 (by kernel_rfl)) F (by decide) (x_move (F.slot rfl)) (fun a F => ?_)
      refine sq_bapp Kd.string 2 5 (by decide) (o_s 32 (.buildSlice 31 1 #[(0, (.tmp 31))]) 31 (by kernel_rfl)) trivial (o_s 33 (.call { callee := (.builtin .append), args := #[(.tmp 30), (.tmp 32)], argTypes := #[31, 31] }) 31 (by kernel_rfl)) (fun _ => trivial) F (by decide) (by decide) rfl (fun a F => F.slot rfl) (F.slot rfl) rfl Tryd.underlying31 PB.info9 rfl (by decide) (by decide) (by decide) H rfl rfl (by rw [List.length_map, List.length_take]; omega) (fun W H => (fun _ => trivial)) ?_
      intro v_ W a H F
      obtain ⟨A2, c2, rfl, hc2⟩ := (H.qu 2 rfl).form
      have H : St w (fun _ => False) (fun _ => True) [Asn.rd k33 (fun k => k < w.heap.size) A l.length l, Asn.blk g1 [.int .i64 au, .int .i64 n, .slice A l.length c] 40, Asn.qu Kd.string 9 (.slice A2 (((l.take j).map encT ++ [b]).length) c2) ((l.take j).map encT ++ [b]) _, Asn.fk k33 (fun k => k < w.heap.size) t (txc t A7 c7 A8 c8), Asn.cl (adt.add (j * 9)) (txc t A7 c7 A8 c8) (fun k => k < w.heap.size), Asn.fk Kd.string (fun _ => False) b [.string b]] W := H
      refine ⟨(fun _ => trivial), ?_⟩
      refine q2 (o_s 5 (.assign (.tmp 33)) 31 (by kernel_rfl)) F (by decide) (v := .slice A2 (((l.take j).map encT ++ [b]).length) c2) (x_assign (F.slot rfl)) (fun a F => ?_)
      unfold wpSeq
      refine b_normal ?_
      refine t_normal ?_
      refine c_text (id := 7) (by kernel_rfl) [(0, 2), (1, 2), (2, 2)] (by kernel_rfl) ?_
      refine q2 (o_s 19 (.move (.tmp 6)) 3 (by kernel_rfl)) F (by decide) (x_move (F.slot rfl)) (fun a F => ?_)
      refine q2 (o_s 20 (.binOp .add 3 (.tmp 19) (.const (.int .i64 1)) 3) 3 (by kernel_rfl)) F (by decide) (v := .int .i64 (IntKind.i64.wrap ((j : Int) + 1))) (x_int (F.slot rfl) rfl rfl) (fun a F => ?_)
      refine q2 (o_s 6 (.assign (.tmp 20)) 3 (by kernel_rfl)) F (by decide) (v := .int .i64 (IntKind.i64.wrap ((j : Int) + 1))) (x_assign (F.slot rfl)) (fun a F => ?_)
      unfold wpSeq
      refine t_normal ?_
      have F_ := F
      have H := H.front 3
      have F := F.at 6 rfl (v' := .int .i64 ((j + 1 : Nat) : Int)) (congrArg (Value.int .i64) ((wrap_i64 _ (by omega) (by omega)).trans (by omega)))
      rw [← hnx] at H
      have F := F.at 5 rfl (v' := .slice A2 ((l.take (j + 1)).map encT).length c2) (by rw [hnx])
      exact ⟨k - 1, by omega, j + 1, _, _, _, F.less _ (subc rfl (subc rfl (subc rfl (subc rfl (subc rfl (subc rfl (subc rfl (subc rfl (subc rfl (subc rfl (subc rfl sub0))))))))))), H, (by omega), (by omega)⟩
    · have hb3d := of_decide_eq_false hb3
      have F := F.at 18 rfl (v' := .bool false) (congrArg Value.bool hb3)
      refine c_no (c := .tmp 18) (by kernel_rfl) (F.slot rfl) ?_
      refine c_exit (id := 0) (by kernel_rfl) ?_
      refine t_exit ?_
      refine t_exit ?_
      refine b_here ?_
      refine t_normal ?_
      refine c_seq (by kernel_rfl) ?_
      obtain rfl : j = l.length := by omega
      rw [List.take_length] at H F
      have H : St w (fun _ => False) (fun _ => True) [Asn.rd k33 (fun k => k < w.heap.size) A l.length l, Asn.blk g1 [.int .i64 au, .int .i64 n, .slice A l.length c] 40, Asn.qu Kd.string 9 (.slice B1 (l.map encT).length d1) (l.map encT) ok2] W := H
      refine c_drawn (id := 10) (by kernel_rfl) (by kernel_rfl) (Vs [Asn.blk g1 [.int .i64 au, .int .i64 n, .slice A l.length c] 40]) [0, 1, 3, 0, 8, 31, 63, 0, 191, 511, 1023, 2047] [] [(0, 0), (3, 0), (7, 0), (1, 1), (4, 1), (2, 2), (5, 2), (6, 0), (8, 2), (9, 0), (10, 0), (11, 0)] (by kernel_rfl) (fun _ _ d _ _ h => by cases d <;> exact h) (Vs.drew ⟨H.get 1 rfl, trivial⟩) ?_
      have H := H.drew
      generalize World.drew W = W at H ⊢
      refine q0 (o_s 34 (.fieldAddr 40 (.tmp 1) 0) 0 (by kernel_rfl)) F (by decide) (v := .pointer (some ⟨g1, 0, none⟩)) (fun W_ => x_field0 Tryd.underlying40 rfl rfl (Tryd.sizeOf3 W_) (F.slot rfl)) (fun a F => ?_)
      refine q0 (o_s 37 (.fieldAddr 40 (.tmp 1) 1) 0 (by kernel_rfl)) F (by decide) (v := .pointer (some ⟨g1, 1, none⟩)) (fun W_ => x_field0 Tryd.underlying40 rfl rfl (Tryd.sizeOf3 W_) (F.slot rfl)) (fun a F => ?_)
      refine q0 (o_s 41 (.move (.tmp 5)) 31 (by kernel_rfl)) F (by decide) (fun W_ => x_move (F.slot rfl)) (fun a F => ?_)
      refine q1 (o_s 35 (.load 3 (.tmp 34)) 3 (by kernel_rfl)) F (by decide) (⟨H.get 1 rfl, trivial⟩) (v := .int .i64 au) (fun W_ hV => x_load1 (Tryd.isAgg3 W_) (F.slot rfl) (bcell hV.1 rfl)) (fun a F => ?_)
      refine q1 (o_s 38 (.load 3 (.tmp 37)) 3 (by kernel_rfl)) F (by decide) (⟨H.get 1 rfl, trivial⟩) (v := .int .i64 n) (fun W_ hV => x_load1 (Tryd.isAgg3 W_) (F.slot rfl) (bcell hV.1 rfl)) (fun a F => ?_)
      refine sqc (o_s 36 (.call { callee := (.value (.func 64)), args := #[(.tmp 35)], argTypes := #[2] }) 9 (by kernel_rfl)) trivial F (by decide) (x_call Tryd.func64 (by kernel_rfl) rfl (args_1 (F.slot rfl))) (int2_calls au W (by omega) (by omega)) ?_
      rintro e W ⟨rfl, hB⟩
      refine ⟨_, rfl, fun a F => ?_⟩
      have H := H.below hB
      refine ⟨(fun _ => ⟨H.get 1 rfl, trivial⟩), ?_⟩
      refine sqc (o_s 39 (.call { callee := (.value (.func 64)), args := #[(.tmp 38)], argTypes := #[2] }) 9 (by kernel_rfl)) trivial F (by decide) (x_call Tryd.func64 (by kernel_rfl) rfl (args_1 (F.slot rfl))) (int2_calls n W (by omega) (by omega)) ?_
      rintro e W ⟨rfl, hB⟩
      refine ⟨_, rfl, fun a F => ?_⟩
      have H := H.below hB
      refine ⟨(fun _ => ⟨H.get 1 rfl, trivial⟩), ?_⟩
      refine q0 (o_s 40 (.binOp .add 9 (.tmp 36) (.tmp 39) 9) 9 (by kernel_rfl)) F (by decide) (v := .string ((wI au) ++ (wI n))) (fun W_ => x_cat (F.slot rfl) (F.slot rfl) (by have := wI_size au; have := wI_size n; have : (lb (l.map encT)).size = (lbL (l.map encT)).length := rfl; (try simp only [ByteArray.size_append]); omega)) (fun a F => ?_)
      refine sqc (o_s 42 (.call { callee := (.value (.func 65)), args := #[(.tmp 41)], argTypes := #[31] }) 9 (by kernel_rfl)) trivial F (by decide) (x_call Tryd.func65 (by kernel_rfl) rfl (args_1 (F.slot rfl))) (list2_calls B1 d1 (l.map encT) W (H.qu 2 rfl).read.2.2 (H.qu 2 rfl).read.2.1 (by rw [List.length_map]; omega) (encT_small hz)) ?_
      rintro e W ⟨rfl, hB⟩
      refine ⟨_, rfl, fun a F => ?_⟩
      have H := H.below hB
      refine ⟨(fun _ => ⟨H.get 1 rfl, trivial⟩), ?_⟩
      refine q0 (o_s 43 (.binOp .add 9 (.tmp 40) (.tmp 42) 9) 9 (by kernel_rfl)) F (by decide) (v := .string (((wI au) ++ (wI n)) ++ (lb (l.map encT)))) (fun W_ => x_cat (F.slot rfl) (F.slot rfl) (by have := wI_size au; have := wI_size n; have : (lb (l.map encT)).size = (lbL (l.map encT)).length := rfl; (try simp only [ByteArray.size_append]); omega)) (fun a F => ?_)
      refine q0 (o_s 2 (.assign (.tmp 43)) 9 (by kernel_rfl)) F (by decide) (v := .string (((wI au) ++ (wI n)) ++ (lb (l.map encT)))) (fun W_ => x_assign (F.slot rfl)) (fun a F => ?_)
      refine q0 (o_s 3 (.assign (.const (.int .i64 0))) 24 (by kernel_rfl)) F (by decide) (v := .int .i64 0) (fun W_ => x_assign rfl) (fun a F => ?_)
      unfold wpSeq
      refine t_normal ?_
      refine c_ret (by kernel_rfl) ?_
      refine p_list (rs := [.tmp 2, .tmp 3]) (vs := [.string (((wI au) ++ (wI n)) ++ (lb (l.map encT))), .int .i64 0]) Tryd.results32 (by simp) F (Vals.tmp' F rfl (Vals.tmp' F rfl .nil)) ?_
      rw [show benc au n l = (bencB au n l, 0) from if_pos hz]
      exact ⟨rfl, H.ends⟩
end Go.Proofs.YtndicjikjcifaaaDoor

/- BLAKE2s as plain mathematics over words of 32 bits. No program in sight. -/
namespace Go.Proofs.YtndicjikjcifaaaDoor.Bl
open Go
set_option linter.unusedSimpArgs false
set_option linter.unusedVariables false
abbrev B32 := BitVec 32
abbrev u (x : B32) : Value := .int .u32 (x.toNat : Int)
theorem wrap_u (n : Int) : IntKind.u32.wrap n = n % 4294967296 := by simp [IntKind.wrap, IntKind.bits, IntKind.signed]
theorem ofInt_u (x : B32) : BitVec.ofInt 32 (x.toNat : Int) = x := by
  rw [BitVec.ofInt_natCast]; simp
theorem wrap_toNat (x : B32) : IntKind.u32.wrap (x.toNat : Int) = (x.toNat : Int) := by
  rw [wrap_u]; have := x.isLt; omega
theorem add_u (x y : B32) : IntKind.u32.wrap ((x.toNat : Int) + (y.toNat : Int)) = ((x + y).toNat : Int) := by
  rw [wrap_u, BitVec.toNat_add]; omega
theorem mod_add (x y : B32) : ((x.toNat : Int) + (y.toNat : Int)) % 4294967296 = ((x + y).toNat : Int) := by
  rw [BitVec.toNat_add]; omega
theorem shl_u (x : B32) (n : Nat) (_ : n ≤ 32) : IntKind.u32.wrap ((x.toNat : Int) * 2 ^ n) = ((x <<< n).toNat : Int) := by
  rw [wrap_u, BitVec.toNat_shiftLeft, Nat.shiftLeft_eq]
  have e : ((x.toNat : Int) * 2 ^ n) = ((x.toNat * 2 ^ n : Nat) : Int) := by push_cast; rfl
  rw [e]; omega
theorem shr_u (x : B32) (n : Nat) : Int.fdiv (x.toNat : Int) (2 ^ n) = ((x >>> n).toNat : Int) := by
  rw [BitVec.toNat_ushiftRight, Nat.shiftRight_eq_div_pow]
  have e : ((2 : Int) ^ n) = ((2 ^ n : Nat) : Int) := by push_cast; rfl
  rw [e, Int.fdiv_eq_ediv_of_nonneg _ (Int.natCast_nonneg _)]
  rfl
def rotr (x : B32) (n : Nat) : B32 := (x >>> n) ||| (x <<< (32 - n))
def mixF (a b c d x y : B32) : B32 × B32 × B32 × B32 :=
  (a + b + x + rotr (b ^^^ (c + rotr (d ^^^ (a + b + x)) 16)) 12 + y,
   rotr (rotr (b ^^^ (c + rotr (d ^^^ (a + b + x)) 16)) 12 ^^^ (c + rotr (d ^^^ (a + b + x)) 16 + rotr (rotr (d ^^^ (a + b + x)) 16 ^^^ (a + b + x + rotr (b ^^^ (c + rotr (d ^^^ (a + b + x)) 16)) 12 + y)) 8)) 7,
   c + rotr (d ^^^ (a + b + x)) 16 + rotr (rotr (d ^^^ (a + b + x)) 16 ^^^ (a + b + x + rotr (b ^^^ (c + rotr (d ^^^ (a + b + x)) 16)) 12 + y)) 8,
   rotr (rotr (d ^^^ (a + b + x)) 16 ^^^ (a + b + x + rotr (b ^^^ (c + rotr (d ^^^ (a + b + x)) 16)) 12 + y)) 8)
abbrev Words := Nat → B32
def upd (W : Words) (i : Nat) (v : B32) : Words := fun j => if j = i then v else W j
theorem upd_same (W : Words) (i : Nat) (v : B32) : upd W i v i = v := if_pos rfl
theorem upd_other (W : Words) {i j : Nat} (v : B32) (h : j ≠ i) : upd W i v j = W j := if_neg h
def quad (p q k l : Nat) (x y : B32) (W : Words) : Words := fun j =>
  if j = p then (mixF (W p) (W q) (W k) (W l) x y).1 else if j = q then (mixF (W p) (W q) (W k) (W l) x y).2.1 else if j = k then (mixF (W p) (W q) (W k) (W l) x y).2.2.1 else if j = l then (mixF (W p) (W q) (W k) (W l) x y).2.2.2 else W j
theorem quad_steps (p q k l : Nat) (x y : B32) (W W1 W2 W3 W4 W5 W6 W7 W8 : Words) (h1 : p ≠ q) (h2 : p ≠ k) (h3 : p ≠ l) (h4 : q ≠ k) (h5 : q ≠ l) (h6 : k ≠ l)
    (e1 : W1 = upd W p (W p + (W q + x))) (e2 : W2 = upd W1 l (rotr (W1 l ^^^ W1 p) 16)) (e3 : W3 = upd W2 k (W2 k + W2 l)) (e4 : W4 = upd W3 q (rotr (W3 q ^^^ W3 k) 12))
    (e5 : W5 = upd W4 p (W4 p + (W4 q + y))) (e6 : W6 = upd W5 l (rotr (W5 l ^^^ W5 p) 8)) (e7 : W7 = upd W6 k (W6 k + W6 l)) (e8 : W8 = upd W7 q (rotr (W7 q ^^^ W7 k) 7)) : W8 = quad p q k l x y W := by
  subst e1 e2 e3 e4 e5 e6 e7 e8
  have a1 := h1.symm
  have a2 := h2.symm
  have a3 := h3.symm
  have a4 := h4.symm
  have a5 := h5.symm
  have a6 := h6.symm
  funext j
  simp only [upd, quad, mixF, if_neg h1, if_neg h2, if_neg h3, if_neg h4, if_neg h5, if_neg h6, if_neg a1, if_neg a2, if_neg a3, if_neg a4, if_neg a5, if_neg a6, if_true, ← BitVec.add_assoc]
  by_cases j1 : j = p
  · subst j1; simp [h1, h2, h3]
  · by_cases j2 : j = q
    · subst j2; simp [h4, h5, j1]
    · by_cases j3 : j = k
      · subst j3; simp [h6, j1, j2]
      · by_cases j4 : j = l
        · subst j4; simp [j1, j2, j3]
        · simp [j1, j2, j3, j4]
def colsF (m : Words) (r : Nat → Nat) (W : Words) : Words :=
  quad 3 7 11 15 (m (r 6)) (m (r 7)) (quad 2 6 10 14 (m (r 4)) (m (r 5)) (quad 1 5 9 13 (m (r 2)) (m (r 3)) (quad 0 4 8 12 (m (r 0)) (m (r 1)) W)))
def diagsF (m : Words) (r : Nat → Nat) (W : Words) : Words :=
  quad 3 4 9 14 (m (r 14)) (m (r 15)) (quad 2 7 8 13 (m (r 12)) (m (r 13)) (quad 1 6 11 12 (m (r 10)) (m (r 11)) (quad 0 5 10 15 (m (r 8)) (m (r 9)) W)))
def rowsL : List (List Nat) := [
  [0, 1, 2, 3, 4, 5, 6, 7, 8, 9, 10, 11, 12, 13, 14, 15],
  [14, 10, 4, 8, 9, 15, 13, 6, 1, 12, 0, 2, 11, 7, 5, 3],
  [11, 8, 12, 0, 5, 2, 15, 13, 10, 14, 3, 6, 7, 1, 9, 4],
  [7, 9, 3, 1, 13, 12, 11, 14, 2, 6, 5, 10, 4, 0, 15, 8],
  [9, 0, 5, 7, 2, 4, 10, 15, 14, 1, 11, 12, 6, 8, 3, 13],
  [2, 12, 6, 10, 0, 11, 8, 3, 4, 13, 7, 5, 15, 14, 1, 9],
  [12, 5, 1, 15, 14, 13, 4, 10, 0, 7, 6, 3, 9, 2, 8, 11],
  [13, 11, 7, 14, 12, 1, 3, 9, 5, 0, 15, 4, 8, 6, 2, 10],
  [6, 15, 14, 9, 11, 3, 0, 8, 12, 2, 13, 7, 1, 4, 10, 5],
  [10, 2, 8, 4, 7, 6, 1, 5, 15, 11, 9, 14, 3, 12, 13, 0]]
def rowF (i : Nat) : Nat → Nat := fun j => (rowsL.getD i []).getD j 0
theorem rowF_lt (i j : Nat) : rowF i j < 16 := by
  have h : ∀ l ∈ rowsL, ∀ x ∈ l, x < 16 := by decide
  unfold rowF
  rw [List.getD_eq_getElem?_getD, List.getD_eq_getElem?_getD]
  cases h1 : rowsL[i]? with
  | none => simp
  | some l =>
    cases h2 : l[j]? with
    | none => simp [h2]
    | some x => simpa [h2] using h l (List.mem_of_getElem? h1) x (List.mem_of_getElem? h2)
def firstsL : List B32 := [0x6A09E667, 0xBB67AE85, 0x3C6EF372, 0xA54FF53A, 0x510E527F, 0x9B05688C, 0x1F83D9AB, 0x5BE0CD19]
def firstsF : Words := fun i => firstsL.getD i 0
def rounds (m : Words) : Nat → Words → Words
  | 0, W => W
  | n + 1, W => let V := rounds m n W; diagsF m (rowF n) (colsF m (rowF n) V)
def by8 (s : List UInt8) (i : Nat) : B32 := BitVec.ofNat 32 (s.getD i 0).toNat
def loadF (s : List UInt8) : Words := fun j => ((by8 s (4 * j) ||| by8 s (4 * j + 1) <<< 8) ||| by8 s (4 * j + 2) <<< 16) ||| by8 s (4 * j + 3) <<< 24
def startF (h : Words) (t : B32) (last : Bool) : Words := fun j =>
  if j < 8 then h j else if j = 12 then firstsF 4 ^^^ t else if j = 14 then (if last = true then ~~~(firstsF 6) else firstsF 6) else firstsF (j - 8)
def blockF (h : Words) (s : List UInt8) (upto : Int) (last : Bool) : Words := fun j =>
  h j ^^^ (rounds (loadF s) 10 (startF h (BitVec.ofInt 32 upto) last) j ^^^ rounds (loadF s) 10 (startF h (BitVec.ofInt 32 upto) last) (j + 8))
def finF (s : List UInt8) (done : Int) : Nat → Nat → Words → Words
  | 0, at_, h => blockF h (s.drop at_) (done + s.length) true
  | n + 1, at_, h => if 64 < s.length - at_ then finF s done n (at_ + 64) (blockF h ((s.drop at_).take 64) (done + at_ + 64) false) else blockF h (s.drop at_) (done + s.length) true
def byteL (x : B32) : List UInt8 := [UInt8.ofNat x.toNat, UInt8.ofNat (x >>> 8).toNat, UInt8.ofNat (x >>> 16).toNat, UInt8.ofNat (x >>> 24).toNat]
def outF (h : Words) : List UInt8 := (List.range 8).flatMap fun i => byteL (h i)
def beginF (k : Nat) : Words := fun j => if j = 0 then firstsF 0 ^^^ (0x01010020 ^^^ BitVec.ofNat 32 (256 * k)) else firstsF j
def sumF (s : List UInt8) : List UInt8 := outF (finF s 0 s.length 0 (beginF 0))
end Go.Proofs.YtndicjikjcifaaaDoor.Bl

/- Words of 32 bits in the small logic; arrays of sixteen. -/
namespace Go.Proofs.YtndicjikjcifaaaDoor
open Go.RowKit Go.Proofs.YtndicjikjcifaaaDoorW.PrintWords Go.Proofs.YtndicjikjcifaaaDoorW.PrintLast Bl
set_option linter.unusedVariables false
set_option linter.unusedSimpArgs false
set_option linter.unusedSectionVars false
theorem ubits_xor (x y : B32) : bits .xor .u32 (x.toNat : Int) (y.toNat : Int) = ((x ^^^ y).toNat : Int) := by
  show IntKind.u32.wrap ((BitVec.ofInt 32 (x.toNat : Int) ^^^ BitVec.ofInt 32 (y.toNat : Int)).toNat : Int) = _
  rw [ofInt_u, ofInt_u]; exact wrap_toNat _
theorem ubits_or (x y : B32) : bits .or .u32 (x.toNat : Int) (y.toNat : Int) = ((x ||| y).toNat : Int) := by
  show IntKind.u32.wrap ((BitVec.ofInt 32 (x.toNat : Int) ||| BitVec.ofInt 32 (y.toNat : Int)).toNat : Int) = _
  rw [ofInt_u, ofInt_u]; exact wrap_toNat _
def wsN (n : Nat) (W : Words) : List Value := (List.range n).map (fun i => u (W i))
abbrev ws (W : Words) : List Value := wsN 16 W
theorem wsN_len (n : Nat) (W : Words) : (wsN n W).length = n := by simp [wsN]
theorem ws_at {n : Nat} (W : Words) {i : Nat} (h : i < n) : (wsN n W)[i]? = some (u (W i)) := by simp [wsN, h]
theorem ws_upd {n : Nat} (W : Words) {i : Nat} (h : i < n) (v : B32) : (wsN n W).set i (u v) = wsN n (upd W i v) := by
  apply List.ext_getElem?
  intro j
  rw [List.getElem?_set]
  by_cases hj : j < n
  · rw [ws_at _ hj]
    by_cases e : i = j
    · subst e; rw [if_pos rfl, if_pos (by rw [wsN_len]; exact hj), ws_at _ hj, upd_same]
    · rw [if_neg e, ws_at _ hj, upd_other _ _ (fun h => e h.symm)]
  · have h1 : (wsN n W)[j]? = none := List.getElem?_eq_none (by rw [wsN_len]; omega)
    have h2 : (wsN n (upd W i v))[j]? = none := List.getElem?_eq_none (by rw [wsN_len]; omega)
    have e : i ≠ j := by omega
    rw [if_neg e, h1, h2]
def rs (r : Nat → Nat) : List Value := (List.range 16).map (fun i => .int .i64 (r i : Int))
theorem rs_at (r : Nat → Nat) {i : Nat} (h : i < 16) : (rs r)[i]? = some (.int .i64 (r i : Int)) := by simp [rs, h]
section
variable {P : Program} {a : Act} {W : World} {x y : Operand} {t yt ty : TypeId}
theorem x_add32 {p q : B32} (hx : a.eval x = u p) (hy : a.eval y = u q) : (ex a (.binOp .add t x y yt) ty).run P W = .ok (.value (u (p + q))) W := by
  have := x_int (P := P) (W := W) (t := t) (yt := yt) (ty := ty) (o := .add) (v := .int .u32 (IntKind.u32.wrap ((p.toNat : Int) + (q.toNat : Int)))) hx hy rfl
  rw [add_u] at this; exact this
theorem x_xor32 {p q : B32} (hx : a.eval x = u p) (hy : a.eval y = u q) : (ex a (.binOp .xor t x y yt) ty).run P W = .ok (.value (u (p ^^^ q))) W := by
  have := x_int (P := P) (W := W) (t := t) (yt := yt) (ty := ty) (o := .xor) (v := .int .u32 (bits .xor .u32 (p.toNat : Int) (q.toNat : Int))) hx hy rfl
  rw [ubits_xor] at this; exact this
theorem x_or32 {p q : B32} (hx : a.eval x = u p) (hy : a.eval y = u q) : (ex a (.binOp .or t x y yt) ty).run P W = .ok (.value (u (p ||| q))) W := by
  have := x_int (P := P) (W := W) (t := t) (yt := yt) (ty := ty) (o := .or) (v := .int .u32 (bits .or .u32 (p.toNat : Int) (q.toNat : Int))) hx hy rfl
  rw [ubits_or] at this; exact this
theorem x_shl32 {p : B32} {j : IntKind} {n : Nat} (hn : n ≤ 32) (hx : a.eval x = u p) (hy : a.eval y = .int j (n : Int)) : (ex a (.binOp .shl t x y yt) ty).run P W = .ok (.value (u (p <<< n))) W := by
  have := x_shift (P := P) (W := W) (t := t) (yt := yt) (ty := ty) (o := .shl) (v := .int .u32 (IntKind.u32.wrap ((p.toNat : Int) * 2 ^ n))) hx hy (by
    have e : min n 32 = n := Nat.min_eq_left hn
    have h0 : ¬ ((n : Int) < 0) := by omega
    simp [binOp, eqGuard, Op.shift, h0, IntKind.bits, e])
  rw [shl_u p n hn] at this; exact this
theorem x_shr32 {p : B32} {j : IntKind} {n : Nat} (hn : n ≤ 32) (hx : a.eval x = u p) (hy : a.eval y = .int j (n : Int)) : (ex a (.binOp .shr t x y yt) ty).run P W = .ok (.value (u (p >>> n))) W := by
  have := x_shift (P := P) (W := W) (t := t) (yt := yt) (ty := ty) (o := .shr) (v := .int .u32 (Int.fdiv (p.toNat : Int) (2 ^ n))) hx hy (by
    have e : min n 32 = n := Nat.min_eq_left hn
    have h0 : ¬ ((n : Int) < 0) := by omega
    have e2 : (2 : Int) ^ n = ((2 ^ n : Nat) : Int) := by push_cast; rfl
    simp [binOp, eqGuard, Op.shift, h0, IntKind.bits, e]
    rw [e2, Int.fdiv_eq_ediv_of_nonneg _ (Int.natCast_nonneg _)])
  rw [shr_u p n] at this; exact this
theorem splice_one {α : Type} (cs : List α) (o : Nat) (v : α) (h : o < cs.length) : splice cs o [v] = cs.set o v := by
  unfold splice
  rw [List.set_eq_take_append_cons_drop, if_pos h]
  rfl
theorem x_store1 {S R : Nat → Prop} {w : World} {M : List Asn} {g o k : Nat} {cs : List Value} {T : TypeId} {v : Value} (H : St w S R M W) (hk : M[k]? = some (Asn.blk g cs T)) (hs : (sizeOf t).run P W = .ok 1 W) (hx : a.eval x = .pointer (some ⟨g, o, none⟩)) (hy : a.eval y = v)
    (h1 : v.cells = #[v]) (h2 : v.oneCell' = true) (hf : o < cs.length) : ∃ W', (ex a (.store t x y) ty).run P W = .ok .skip W' ∧ St w S R (M.set k (Asn.blk g (cs.set o v) T)) W' :=
  x_store H hk hs hx hy (by rw [h1]; rfl) (by omega) (by rw [h1]; simp [h2]) (by rw [h1]; exact splice_one cs o v hf)
theorem x_sliceAr {s e : TypeId} {n m : Nat} {ad : Addr} (hu : P.underlying s = some (.array n e)) (hz : (sizeOf e).run P W = .ok m W) (hx : a.eval x = .pointer (some ad)) (hn : 0 < n) : (ex a (.slice s x none none none) ty).run P W = .ok (.value (.slice (some ad) n n)) W := by
  have h : ¬ n = 0 := by omega
  have e0 : ∀ q : Addr, q.add 0 = q := fun q => by rcases q with ⟨_, _, _ | _⟩ <;> simp [Addr.add]
  simp [ex, execOp, Instr.sliceAt, Instr.sureAddr, Instr.sliceBounds, run_underlying hu, hx, hz, h, e0]
theorem x_sliceArLo {s e : TypeId} {n m i : Nat} {k : IntKind} {ad : Addr} {lo : Operand} (hu : P.underlying s = some (.array n e)) (hz : (sizeOf e).run P W = .ok m W) (hx : a.eval x = .pointer (some ad)) (hy : a.eval lo = .int k (i : Int)) (hi : i < n) : (ex a (.slice s x (some lo) none none) ty).run P W = .ok (.value (.slice (some (ad.add (i * m))) (n - i) (n - i))) W := by
  have h : ¬ n = i := by omega
  have h2 : i ≤ n := by omega
  simp [ex, execOp, Instr.sliceAt, Instr.sureAddr, Instr.sliceBounds, Instr.sliceBound, asIntOf, run_underlying hu, hx, hy, hz, h, h2]
theorem x_copy {S R : Nat → Prop} {w : World} {M : List Asn} {g off k dn dc sn sc : Nat} {cs src : List Value} {T dT sT elem : TypeId} {ad : Addr} {d s : Operand} (H : St w S R M W) (hk : M[k]? = some (Asn.blk g cs T))
    (hd : a.eval d = .slice (some ⟨g, off, none⟩) dn dc) (hs : a.eval s = .slice (some ad) sn sc) (hu : P.underlying dT = some (.slice elem)) (hz : (sizeOf elem).run P W = .ok 1 W) (hl : src.length = Nat.min sn dn)
    (hsrc : ∀ j v, src[j]? = some v → W.cell? (ad.add j) = some v) (hf : off + src.length ≤ cs.length) (h1 : ∀ v ∈ src, v.oneCell' = true) :
    ∃ W', (ex a (.call { callee := .builtin .copy, args := #[d, s], argTypes := #[dT, sT] }) ty).run P W = .ok (.value (goInt (Nat.min sn dn))) W' ∧ St w S R (M.set k (Asn.blk g (splice cs off src) T)) W' := by
  have hb := H.blk k hk
  have hl2 := run_loadCells_list (P := P) W ad src hsrc
  have hst := run_storeCells_at P g off T src 0 cs.toArray W hb (by simpa using hf) h1
  refine ⟨W.setRow g (splice cs off src).toArray, ?_, H.write k hk _ ⟨rfl, rfl, rfl, ?_, ?_⟩ (setRow_heap W g cs.toArray _ T (0, 0) hb)⟩
  · simp [ex, execOp, resolve, invoke, builtin, hd, hs, Builtin.copy_, run_underlying hu, Builtin.lenOf, Builtin.firstCells, hz, ← hl, hl2, hst, splice]
  · simp [World.setRow]
  · intro j hj hjg
    simp only [World.setRow, Array.getElem?_modify]
    rw [if_neg (fun e => hjg e.symm)]
end
def over (o n : Nat) (F G : Words) : Words := fun j => if o ≤ j ∧ j < o + n then G (j - o) else F j
theorem ws_over {m n o : Nat} (F G : Words) (h : o + n ≤ m) : splice (wsN m F) o (wsN n G) = wsN m (over o n F G) := by
  apply List.ext_getElem?
  intro j
  unfold splice
  by_cases hj : j < m
  · rw [ws_at _ hj]
    by_cases h1 : j < o
    · rw [List.getElem?_append_left (by rw [List.length_take, wsN_len]; omega), List.getElem?_take, if_pos h1, ws_at _ hj]
      unfold over; rw [if_neg (by omega)]
    · rw [List.getElem?_append_right (by rw [List.length_take, wsN_len]; omega), List.length_take, wsN_len m F, wsN_len n G, Nat.min_eq_left (by omega)]
      by_cases h2 : j < o + n
      · rw [List.getElem?_append_left (by rw [wsN_len]; omega), ws_at _ (by omega)]
        unfold over; rw [if_pos ⟨by omega, h2⟩]
      · rw [List.getElem?_append_right (by rw [wsN_len]; omega), wsN_len n G, List.getElem?_drop, show o + n + (j - o - n) = j by omega, ws_at _ hj]
        unfold over; rw [if_neg (by omega)]
  · have h1 : (wsN m (over o n F G))[j]? = none := List.getElem?_eq_none (by rw [wsN_len]; omega)
    rw [h1]
    exact List.getElem?_eq_none (by simp [wsN_len]; omega)
theorem ws_one {n : Nat} (F : Words) : ∀ v ∈ wsN n F, v.oneCell' = true := by
  intro v hv
  obtain ⟨i, _, rfl⟩ := List.mem_map.1 hv
  rfl
def loadP (s : List UInt8) : Nat → Words
  | 0 => fun _ => 0
  | j + 1 => upd (loadP s j) (j / 4) (loadP s j (j / 4) ||| by8 s j <<< (8 * (j % 4)))
theorem loadP_eq (s : List UInt8) : ∀ n k, loadP s n k = (((if 4 * k < n then by8 s (4 * k) else 0) ||| (if 4 * k + 1 < n then by8 s (4 * k + 1) else 0) <<< 8) ||| (if 4 * k + 2 < n then by8 s (4 * k + 2) else 0) <<< 16) ||| (if 4 * k + 3 < n then by8 s (4 * k + 3) else 0) <<< 24
  | 0, k => by simp [loadP]
  | j + 1, k => by
    have ih := loadP_eq s j
    rw [loadP]
    by_cases e : k = j / 4
    · subst e
      rw [upd_same, ih]
      have hm : j % 4 < 4 := Nat.mod_lt _ (by decide)
      generalize hq : j / 4 = q
      have hj : j = 4 * q + j % 4 := by omega
      generalize j % 4 = r at hm hj
      subst hj
      have hr : r = 0 ∨ r = 1 ∨ r = 2 ∨ r = 3 := by omega
      rcases hr with rfl | rfl | rfl | rfl
      · rw [if_neg (show ¬ (4 * q < 4 * q + 0) by omega), if_neg (show ¬ (4 * q + 1 < 4 * q + 0) by omega), if_neg (show ¬ (4 * q + 2 < 4 * q + 0) by omega), if_neg (show ¬ (4 * q + 3 < 4 * q + 0) by omega), if_pos (show (4 * q < 4 * q + 0 + 1) by omega), if_neg (show ¬ (4 * q + 1 < 4 * q + 0 + 1) by omega), if_neg (show ¬ (4 * q + 2 < 4 * q + 0 + 1) by omega), if_neg (show ¬ (4 * q + 3 < 4 * q + 0 + 1) by omega)]
        simp [BitVec.or_assoc]
      · rw [if_pos (show (4 * q < 4 * q + 1) by omega), if_neg (show ¬ (4 * q + 1 < 4 * q + 1) by omega), if_neg (show ¬ (4 * q + 2 < 4 * q + 1) by omega), if_neg (show ¬ (4 * q + 3 < 4 * q + 1) by omega), if_pos (show (4 * q < 4 * q + 1 + 1) by omega), if_pos (show (4 * q + 1 < 4 * q + 1 + 1) by omega), if_neg (show ¬ (4 * q + 2 < 4 * q + 1 + 1) by omega), if_neg (show ¬ (4 * q + 3 < 4 * q + 1 + 1) by omega)]
        simp [BitVec.or_assoc]
      · rw [if_pos (show (4 * q < 4 * q + 2) by omega), if_pos (show (4 * q + 1 < 4 * q + 2) by omega), if_neg (show ¬ (4 * q + 2 < 4 * q + 2) by omega), if_neg (show ¬ (4 * q + 3 < 4 * q + 2) by omega), if_pos (show (4 * q < 4 * q + 2 + 1) by omega), if_pos (show (4 * q + 1 < 4 * q + 2 + 1) by omega), if_pos (show (4 * q + 2 < 4 * q + 2 + 1) by omega), if_neg (show ¬ (4 * q + 3 < 4 * q + 2 + 1) by omega)]
        simp [BitVec.or_assoc]
      · rw [if_pos (show (4 * q < 4 * q + 3) by omega), if_pos (show (4 * q + 1 < 4 * q + 3) by omega), if_pos (show (4 * q + 2 < 4 * q + 3) by omega), if_neg (show ¬ (4 * q + 3 < 4 * q + 3) by omega), if_pos (show (4 * q < 4 * q + 3 + 1) by omega), if_pos (show (4 * q + 1 < 4 * q + 3 + 1) by omega), if_pos (show (4 * q + 2 < 4 * q + 3 + 1) by omega), if_pos (show (4 * q + 3 < 4 * q + 3 + 1) by omega)]
        simp [BitVec.or_assoc]
    · rw [upd_other _ _ e, ih]
      have c0 : (4 * k < j + 1) ↔ (4 * k < j) := by omega
      have c1 : (4 * k + 1 < j + 1) ↔ (4 * k + 1 < j) := by omega
      have c2 : (4 * k + 2 < j + 1) ↔ (4 * k + 2 < j) := by omega
      have c3 : (4 * k + 3 < j + 1) ↔ (4 * k + 3 < j) := by omega
      simp only [c0, c1, c2, c3]
theorem loadP_all (s : List UInt8) : loadP s s.length = loadF s := by
  funext k
  rw [loadP_eq]
  have h : ∀ i, (if i < s.length then by8 s i else 0) = by8 s i := by
    intro i
    by_cases hi : i < s.length
    · exact if_pos hi
    · rw [if_neg hi]
      unfold by8
      rw [List.getD_eq_getElem?_getD, List.getElem?_eq_none (by omega)]
      rfl
  rw [h, h, h, h]
  rfl
abbrev Asn.rb (g : Nat) (cs : List Value) (T : TypeId) : Asn := Asn.ft (fun W => W.heap[g]? = some (.cells cs.toArray T (0, 0))) (fun k => k = g)
theorem tdiv4 (j : Nat) (h : j < 1000) : IntKind.i64.wrap (Int.tdiv (j : Int) 4) = ((j / 4 : Nat) : Int) := by
  rw [show Int.tdiv (j : Int) 4 = ((j / 4 : Nat) : Int) from rfl]
  exact wrap_i64 _ (by omega) (by omega)
theorem mul8 (j : Nat) (h : j < 1000) : IntKind.i64.wrap (8 * (Int.tmod (j : Int) 4)) = ((8 * (j % 4) : Nat) : Int) := by
  rw [show Int.tmod (j : Int) 4 = ((j % 4 : Nat) : Int) from rfl]
  exact (wrap_i64 _ (by omega) (by omega)).trans (by omega)
section
variable {P : Program} {a : Act} {W : World} {x y : Operand} {t yt ty : TypeId}
theorem x_byte32 {s d : TypeId} {c : UInt8} {ds : TypeDesc} (hu : P.underlying s = some ds) (hd : P.underlying d = some (.int .u32)) (hx : a.eval x = .int .u8 (c.toNat : Int)) : (ex a (.convert s d x) ty).run P W = .ok (.value (u (BitVec.ofNat 32 c.toNat))) W := by
  rw [x_conv hu hd hx, wrap_u]
  have h := c.toNat_lt
  have e : (BitVec.ofNat 32 c.toNat).toNat = c.toNat := by rw [BitVec.toNat_ofNat]; omega
  have e2 : ((c.toNat : Int) % 4294967296) = ((BitVec.ofNat 32 c.toNat).toNat : Int) := by rw [e]; omega
  rw [e2]
theorem x_toU32 {s d : TypeId} {j : IntKind} {m : Int} {ds : TypeDesc} (hu : P.underlying s = some ds) (hd : P.underlying d = some (.int .u32)) (hx : a.eval x = .int j m) : (ex a (.convert s d x) ty).run P W = .ok (.value (u (BitVec.ofInt 32 m))) W := by
  rw [x_conv hu hd hx, wrap_u]
  have e : ((BitVec.ofInt 32 m).toNat : Int) = m % 4294967296 := by rw [BitVec.toNat_ofInt]; omega
  rw [← e]
theorem x_not32 {p : B32} (hx : a.eval x = u p) : (ex a (.unOp .xor t x) ty).run P W = .ok (.value (u (~~~p))) W := by
  have e : bits .xor .u32 (IntKind.u32.max) (p.toNat : Int) = ((~~~p).toNat : Int) := by
    have h : (IntKind.u32.max : Int) = ((4294967295#32 : B32).toNat : Int) := by decide
    rw [h, ubits_xor]
    congr 2
  have : (Op.unary .xor (u p)).run P W = .ok (.int .u32 (bits .xor .u32 (IntKind.u32.max) (p.toNat : Int))) W := rfl
  simp [ex, execOp, hx, this, e]
theorem x_row {s e : TypeId} {i n : Nat} {k : IntKind} {cs r : List Value} (hu : P.underlying s = some (.array n e)) (hz : (sizeOf e).run P W = .ok 16 W) (hA : (isAgg e).run P W = .ok true W) (hx : a.eval x = .agg cs.toArray) (hy : a.eval y = .int k (i : Int)) (hi : i < n) (hr : (cs.drop (i * 16)).take 16 = r) (hl : i * 16 + 16 ≤ cs.length) : (ex a (.index s x y) ty).run P W = .ok (.value (.agg r.toArray)) W := by
  simp [ex, execOp, Instr.index, run_underlying hu, hx, hy, asIntOf, hi, hz]
  simp [part, hA, hz]
  exact hr
theorem x_storeAll {S R : Nat → Prop} {w : World} {M : List Asn} {g k m : Nat} {cs r : List Value} {T : TypeId} (H : St w S R M W) (hk : M[k]? = some (Asn.blk g cs T)) (hs : (sizeOf t).run P W = .ok m W) (hx : a.eval x = .pointer (some ⟨g, 0, none⟩)) (hy : a.eval y = .agg r.toArray)
    (hl : r.length = m) (hl2 : cs.length = m) (h1 : ∀ v ∈ r, v.oneCell' = true) : ∃ W', (ex a (.store t x y) ty).run P W = .ok .skip W' ∧ St w S R (M.set k (Asn.blk g r T)) W' :=
  x_store H hk hs hx hy (by simpa [Value.cells] using hl) (by omega) (by simpa [Value.cells, List.all_eq_true] using h1) (by simp [Value.cells, splice, hl, hl2])
end
theorem rs_one (r : Nat → Nat) : ∀ v ∈ rs r, v.oneCell' = true := by
  intro v hv
  obtain ⟨i, _, rfl⟩ := List.mem_map.1 hv
  rfl
theorem rs_len (r : Nat → Nat) : (rs r).length = 16 := by simp [rs]
def rowsV : List Value := (List.range 10).flatMap fun i => rs (rowF i)
theorem rowsV_at (i : Nat) (h : i < 10) : (rowsV.drop (i * 16)).take 16 = rs (rowF i) := by
  have : i = 0 ∨ i = 1 ∨ i = 2 ∨ i = 3 ∨ i = 4 ∨ i = 5 ∨ i = 6 ∨ i = 7 ∨ i = 8 ∨ i = 9 := by omega
  rcases this with rfl | rfl | rfl | rfl | rfl | rfl | rfl | rfl | rfl | rfl <;> rfl
theorem rowsV_len : rowsV.length = 160 := by rfl
theorem start_eq (h : Words) (t : B32) (last : Bool) : ∀ j, j < 16 → (if last = true then upd (upd (over 8 8 (over 0 8 (fun _ => 0) h) firstsF) 12 (over 8 8 (over 0 8 (fun _ => 0) h) firstsF 12 ^^^ t)) 14 (~~~(upd (over 8 8 (over 0 8 (fun _ => 0) h) firstsF) 12 (over 8 8 (over 0 8 (fun _ => 0) h) firstsF 12 ^^^ t) 14)) else upd (over 8 8 (over 0 8 (fun _ => 0) h) firstsF) 12 (over 8 8 (over 0 8 (fun _ => 0) h) firstsF 12 ^^^ t)) j = startF h t last j := by
  intro j hj
  cases last
  · simp only [Bool.false_eq_true, if_false, upd, over, startF]
    by_cases a : j < 8
    · rw [if_neg (by omega), if_neg (by omega), if_pos (by omega), if_pos a]; rfl
    · rw [if_neg a]
      by_cases b : j = 12
      · subst b; rfl
      · rw [if_neg b, if_neg b, if_pos (by omega)]
        by_cases c : j = 14
        · subst c; rfl
        · rw [if_neg c]
  · simp only [if_true, upd, over, startF]
    by_cases a : j < 8
    · rw [if_neg (by omega), if_neg (by omega), if_neg (by omega), if_pos (by omega), if_pos a]; rfl
    · rw [if_neg a]
      by_cases b : j = 12
      · subst b; rfl
      · rw [if_neg b]
        by_cases c : j = 14
        · subst c; rfl
        · rw [if_neg c, if_neg b, if_pos (by omega), if_neg c]
theorem wsN_congr {n : Nat} {F G : Words} (h : ∀ j, j < n → F j = G j) : wsN n F = wsN n G := by
  unfold wsN
  apply List.map_congr_left
  intro i hi
  rw [h i (List.mem_range.1 hi)]
def xorP (h V : Words) (n : Nat) : Words := fun j => if j < n then h j ^^^ (V j ^^^ V (j + 8)) else h j
theorem xorP_succ (h V : Words) (n : Nat) : upd (xorP h V n) n (xorP h V n n ^^^ (V n ^^^ V (n + 8))) = xorP h V (n + 1) := by
  funext j
  unfold upd xorP
  by_cases e : j = n
  · subst e; simp
  · rw [if_neg e]
    by_cases c : j < n
    · rw [if_pos c, if_pos (by omega)]
    · rw [if_neg c, if_neg (by omega)]
theorem toList_size (s : ByteArray) : s.toList.length = s.size := by rw [Lib.toList_data]; rfl
theorem str_at (s : ByteArray) (j : Nat) (h : j < s.size) : s[j]? = some (s.toList.getD j 0) := by
  rw [getElem?_pos s j h, Lib.toList_data, List.getD_eq_getElem?_getD]
  have h2 : j < s.data.toList.length := h
  rw [List.getElem?_eq_getElem h2]
  rfl
def bsN (n : Nat) (B : Nat → UInt8) : List Value := (List.range n).map (fun i => .int .u8 ((B i).toNat : Int))
theorem bsN_len (n : Nat) (B : Nat → UInt8) : (bsN n B).length = n := by simp [bsN]
theorem bs_at {n : Nat} (B : Nat → UInt8) {i : Nat} (h : i < n) : (bsN n B)[i]? = some (.int .u8 ((B i).toNat : Int)) := by simp [bsN, h]
def updB (B : Nat → UInt8) (i : Nat) (v : UInt8) : Nat → UInt8 := fun j => if j = i then v else B j
theorem bs_upd {n : Nat} (B : Nat → UInt8) {i : Nat} (h : i < n) (v : UInt8) : (bsN n B).set i (.int .u8 (v.toNat : Int)) = bsN n (updB B i v) := by
  apply List.ext_getElem?
  intro j
  rw [List.getElem?_set]
  by_cases hj : j < n
  · rw [show (bsN n (updB B i v))[j]? = some (.int .u8 ((updB B i v j).toNat : Int)) from bs_at _ hj]
    unfold updB
    by_cases e : i = j
    · subst e; rw [if_pos rfl, if_pos (by rw [bsN_len]; exact hj), if_pos rfl]
    · rw [if_neg e, bs_at _ hj, if_neg (fun h => e h.symm)]
  · have h1 : (bsN n B)[j]? = none := List.getElem?_eq_none (by rw [bsN_len]; omega)
    have h2 : (bsN n (updB B i v))[j]? = none := List.getElem?_eq_none (by rw [bsN_len]; omega)
    have e : i ≠ j := by omega
    rw [if_neg e, h1, h2]
section
variable {P : Program} {a : Act} {W : World} {x y : Operand} {t yt ty : TypeId}
theorem x_word {s e : TypeId} {i n : Nat} {k : IntKind} {F : Words} (hu : P.underlying s = some (.array n e)) (hz : (sizeOf e).run P W = .ok 1 W) (hA : (isAgg e).run P W = .ok false W) (hx : a.eval x = .agg (wsN n F).toArray) (hy : a.eval y = .int k (i : Int)) (hi : i < n) : (ex a (.index s x y) ty).run P W = .ok (.value (u (F i))) W := by
  have h := ws_at F hi
  simp [ex, execOp, Instr.index, run_underlying hu, hx, hy, asIntOf, hi, hz, part, hA, h]
theorem x_toU8 {s d : TypeId} {p : B32} {ds : TypeDesc} (hu : P.underlying s = some ds) (hd : P.underlying d = some (.int .u8)) (hx : a.eval x = u p) : (ex a (.convert s d x) ty).run P W = .ok (.value (.int .u8 ((UInt8.ofNat p.toNat).toNat : Int))) W := by
  rw [x_conv hu hd hx]
  have e : IntKind.u8.wrap (p.toNat : Int) = ((UInt8.ofNat p.toNat).toNat : Int) := by
    simp [IntKind.wrap, IntKind.bits, IntKind.signed]
  rw [e]
end
def outP (h : Words) (n : Nat) : Nat → UInt8 := fun i => if i < 4 * n then (byteL (h (i / 4))).getD (i % 4) 0 else 0
theorem outP_succ (h : Words) (n : Nat) : updB (updB (updB (updB (outP h n) (4 * n) (UInt8.ofNat (h n).toNat)) (4 * n + 1) (UInt8.ofNat (h n >>> 8).toNat)) (4 * n + 2) (UInt8.ofNat (h n >>> 16).toNat)) (4 * n + 3) (UInt8.ofNat (h n >>> 24).toNat) = outP h (n + 1) := by
  funext i
  unfold updB outP
  by_cases a3 : i = 4 * n + 3
  · subst a3; rw [if_pos rfl, if_pos (by omega), show (4 * n + 3) / 4 = n by omega, show (4 * n + 3) % 4 = 3 by omega]; rfl
  rw [if_neg a3]
  by_cases a2 : i = 4 * n + 2
  · subst a2; rw [if_pos rfl, if_pos (by omega), show (4 * n + 2) / 4 = n by omega, show (4 * n + 2) % 4 = 2 by omega]; rfl
  rw [if_neg a2]
  by_cases a1 : i = 4 * n + 1
  · subst a1; rw [if_pos rfl, if_pos (by omega), show (4 * n + 1) / 4 = n by omega, show (4 * n + 1) % 4 = 1 by omega]; rfl
  rw [if_neg a1]
  by_cases a0 : i = 4 * n
  · subst a0; rw [if_pos rfl, if_pos (by omega), show (4 * n) / 4 = n by omega, show (4 * n) % 4 = 0 by omega]; rfl
  rw [if_neg a0]
  by_cases c : i < 4 * n
  · rw [if_pos c, if_pos (by omega)]
  · rw [if_neg c, if_neg (by omega)]
theorem fin_step (l : List UInt8) (n q : Nat) (h : Words) (hq : 64 < l.length - q) (hl : l.length ≤ q + 64 * n + 64) : ∃ m, n = m + 1 ∧ finF l 0 n q h = finF l 0 m (q + 64) (blockF h ((l.drop q).take 64) (0 + q + 64) false) := by
  cases n with
  | zero => omega
  | succ m => exact ⟨m, rfl, if_pos hq⟩
theorem fin_end (l : List UInt8) (n q : Nat) (h : Words) (hq : ¬ 64 < l.length - q) : finF l 0 n q h = blockF h (l.drop q) (0 + l.length) true := by
  cases n with
  | zero => rfl
  | succ m => exact if_neg hq
theorem out_all (h : Words) : (List.range 32).map (outP h 8) = outF h := by
  simp [outF, byteL, List.range_succ, outP]
theorem x_bytes {P : Program} {a : Act} {W : World} {x : Operand} {ty s d e T : TypeId} {g n : Nat} {B : Nat → UInt8} {l : List UInt8} (hu : P.underlying s = some (.slice e)) (he : P.underlying e = some (.int .u8)) (hd : P.underlying d = some .string)
    (hx : a.eval x = .slice (some ⟨g, 0, none⟩) n n) (hb : W.heap[g]? = some (.cells (bsN n B).toArray T (0, 0))) (hl : (List.range n).map B = l) : (ex a (.convert s d x) ty).run P W = .ok (.value (.string ⟨l.toArray⟩)) W := by
  subst hl
  have := run_convert_bytes_back (P := P) W s d e ⟨g, 0, none⟩ n ((List.range n).map B) hu he hd (fun j hj => by
    have hj' : j < n := by simpa using hj
    rw [addo, blk_cell hb]
    have := bs_at B hj'
    simpa using this)
  rw [List.length_map, List.length_range] at this
  simp [ex, execOp, hx, this]
theorem rb_holds {g : Nat} {cs : List Value} {T : TypeId} {w : World} (h : w.heap[g]? = some (.cells cs.toArray T (0, 0))) : (Asn.rb g cs T).holds w := fun W' hW => (hW g rfl (blk_lt h)).trans h
theorem St.rbs {w : World} {S : Nat → Prop} {g g' : Nat} {cs cs' : List Value} {T T' : TypeId} (h : w.heap[g]? = some (.cells cs.toArray T (0, 0))) (h' : w.heap[g']? = some (.cells cs'.toArray T' (0, 0))) : St w S (fun _ => True) [Asn.rb g cs T, Asn.rb g' cs' T'] w := by
  have H1 := (St.first w S (fun _ => True)).add (Asn.rb g cs T) (rb_holds h) (fun k hk => by rcases hk with hk | hk; exact hk.elim; exact (show k = g from hk) ▸ blk_lt h) (fun k hk => hk.elim) (fun k hk => ⟨.inr (.inl trivial), fun B hB => by cases hB⟩)
  exact H1.add (Asn.rb g' cs' T') (rb_holds h') (fun k hk => by rcases hk with hk | hk; exact hk.elim; exact (show k = g' from hk) ▸ blk_lt h') (fun k hk => hk.elim) (fun k hk => ⟨.inr (.inl trivial), fun B hB hc => by
    rcases List.mem_append.1 hB with hB | hB
    · cases hB
    · rw [List.mem_singleton.1 hB] at hc; exact hc.elim⟩)
end Go.Proofs.YtndicjikjcifaaaDoor

/- Four bytes as a word: by adding, as by shifting. Plain lemmas. -/
namespace Go.Proofs.YtndicjikjcifaaaDoor
open Go.RowKit Go.Proofs.YtndicjikjcifaaaDoorW.PrintWords Go.Proofs.YtndicjikjcifaaaDoorW.PrintLast Bl
set_option linter.unusedVariables false
set_option linter.unusedSimpArgs false
theorem mul_u (x y : B32) : IntKind.u32.wrap ((x.toNat : Int) * (y.toNat : Int)) = ((x * y).toNat : Int) := by
  rw [wrap_u, BitVec.toNat_mul]
  have e : ((x.toNat : Int) * (y.toNat : Int)) = ((x.toNat * y.toNat : Nat) : Int) := (Int.natCast_mul _ _).symm
  rw [e]
  generalize x.toNat * y.toNat = m
  omega
theorem x_mul32 {P : Program} {a : Act} {W : World} {x y : Operand} {t yt ty : TypeId} {p q : B32} (hx : a.eval x = u p) (hy : a.eval y = u q) : (ex a (.binOp .mul t x y yt) ty).run P W = .ok (.value (u (p * q))) W := by
  have := x_int (P := P) (W := W) (t := t) (yt := yt) (ty := ty) (o := .mul) (v := .int .u32 (IntKind.u32.wrap ((p.toNat : Int) * (q.toNat : Int)))) hx hy rfl
  rw [mul_u] at this; exact this
theorem or_add (x y : B32) (n : Nat) (hx : x.toNat < 2 ^ n) (hy : y.toNat < 256) (hn : n ≤ 24) : x ||| y <<< n = x + y <<< n := by
  apply BitVec.eq_of_toNat_eq
  have h1 : y.toNat * 2 ^ n < 4294967296 := by
    have : (2 : Nat) ^ n ≤ 2 ^ 24 := Nat.pow_le_pow_right (by decide) hn
    have h2 : y.toNat * 2 ^ n ≤ 255 * 2 ^ 24 := Nat.mul_le_mul (by omega) this
    have : (255 : Nat) * 2 ^ 24 < 4294967296 := by decide
    omega
  have hs : (y <<< n).toNat = y.toNat <<< n := by
    rw [BitVec.toNat_shiftLeft, Nat.shiftLeft_eq, Nat.mod_eq_of_lt (by simpa using h1)]
  have hk : y.toNat <<< n + x.toNat < 4294967296 := by
    rw [Nat.shiftLeft_eq]
    have h3 : (y.toNat + 1) * 2 ^ n ≤ 256 * 2 ^ 24 := Nat.mul_le_mul (by omega) (Nat.pow_le_pow_right (by decide) hn)
    rw [Nat.succ_mul] at h3
    have : (256 : Nat) * 2 ^ 24 = 4294967296 := by decide
    omega
  rw [BitVec.toNat_or, BitVec.toNat_add, hs, Nat.or_comm, ← Nat.shiftLeft_add_eq_or_of_lt hx, Nat.mod_eq_of_lt (by rw [Nat.add_comm]; simpa using hk), Nat.add_comm]
theorem by8_lt (s : List UInt8) (i : Nat) : (by8 s i).toNat < 256 := by
  unfold by8
  have := (s.getD i 0).toNat_lt
  rw [BitVec.toNat_ofNat]
  omega
def num4 (s : List UInt8) (k : Nat) : B32 := by8 s k + 256#32 * by8 s (k + 1) + 65536#32 * by8 s (k + 2) + 16777216#32 * by8 s (k + 3)
theorem mul_shl8 (x : B32) (n : Nat) (c : B32) (hc : c.toNat = 2 ^ n) : c * x = x <<< n := by
  apply BitVec.eq_of_toNat_eq
  rw [BitVec.toNat_mul, BitVec.toNat_shiftLeft, Nat.shiftLeft_eq, hc, Nat.mul_comm]
theorem num4_eq (s : List UInt8) (j : Nat) : num4 s (4 * j) = loadF s j := by
  have h0 := by8_lt s (4 * j)
  have h1 := by8_lt s (4 * j + 1)
  have h2 := by8_lt s (4 * j + 2)
  have h3 := by8_lt s (4 * j + 3)
  unfold num4 loadF
  rw [mul_shl8 _ 8 _ (by decide), mul_shl8 _ 16 _ (by decide), mul_shl8 _ 24 _ (by decide)]
  generalize by8 s (4 * j) = b0 at *
  generalize by8 s (4 * j + 1) = b1 at *
  generalize by8 s (4 * j + 2) = b2 at *
  generalize by8 s (4 * j + 3) = b3 at *
  have s1 : (b1 <<< 8).toNat = b1.toNat * 256 := by rw [BitVec.toNat_shiftLeft, Nat.shiftLeft_eq]; omega
  have s2 : (b2 <<< 16).toNat = b2.toNat * 65536 := by rw [BitVec.toNat_shiftLeft, Nat.shiftLeft_eq]; omega
  rw [or_add b0 b1 8 (by omega) h1 (by decide)]
  have t1 : (b0 + b1 <<< 8).toNat = b0.toNat + b1.toNat * 256 := by rw [BitVec.toNat_add, s1]; omega
  rw [or_add _ b2 16 (by rw [t1]; omega) h2 (by decide)]
  have t2 : (b0 + b1 <<< 8 + b2 <<< 16).toNat = b0.toNat + b1.toNat * 256 + b2.toNat * 65536 := by rw [BitVec.toNat_add, t1, s2]; omega
  rw [or_add _ b3 24 (by rw [t2]; omega) h3 (by decide)]
end Go.Proofs.YtndicjikjcifaaaDoor

/- A queue whose front is taken off and read a while: both lie in one block. Plain lemmas, no program in sight. -/
namespace Go.Proofs.YtndicjikjcifaaaDoor
open Go.RowKit Go.Proofs.YtndicjikjcifaaaDoorW.PrintWords Go.Proofs.YtndicjikjcifaaaDoorW.PrintLast
set_option linter.unusedVariables false
set_option linter.unusedSimpArgs false
set_option linter.unusedSectionVars false
theorem Rows.move {α : Type} {d : Kd α} {W W' : World} {A : Option Addr} {m : Nat} {ys : List α} {ok ok' : Nat → Prop} (hsz : 0 < d.sz) (hC : Foot (fun W => d.C W A m ys) W ok') (h : Rows d W A ys ok) (hm : ∀ k, ok' k ∨ ok k → W'.heap[k]? = W.heap[k]?) : Rows d W' A ys ok := by
  obtain rfl : ys.length = m := hC.now.1
  rcases h with h | ⟨ad, es, rfl, h1, h2, h3, h4, h5⟩
  · exact .inl h
  · by_cases h0 : ys.length = 0
    · exact .inl h0
    · have ha := (rd_rows hsz hC (by omega)).1
      refine .inr ⟨ad, es, rfl, h1, h2, h3, fun j c hj i u hu => ?_, fun j t c ht hc => Foot.step (h5 j t c ht hc) (fun k hk _ => hm k (.inr hk))⟩
      have hc := h4 j c hj i u hu
      rw [World.cell?_of_block (w := W) (w' := W') (by rw [addr_block]; exact hm _ (.inl ha))]
      exact hc
def Asn.qf {α : Type} (d : Kd α) (T : TypeId) (v : Value) (xs : List α) (ok : Nat → Prop) (A : Option Addr) (m : Nat) (ys : List α) : Asn :=
  ⟨fun k => v.ownBlock = some k, ok, fun W => 0 < d.sz ∧ Queue d T v xs ok W ∧ Foot (fun W => d.C W A m ys) W (fun k => v.ownBlock = some k ∨ ok k) ∧ Rows d W A ys ok,
    fun W W' h e => ⟨h.1, h.2.1.move e, Foot.step h.2.2.1 (fun k hk _ => e k hk), Rows.move h.1 h.2.2.1 h.2.2.2 (fun k hk => e k (hk.elim id .inr))⟩⟩
section
variable {α : Type} {d : Kd α} {T : TypeId} {xs ys : List α} {ok : Nat → Prop} {W w : World} {S R : Nat → Prop} {M : List Asn}
end
section
variable {P : Program} {ops : Array Oper} {Q : Exit → Act → World → Prop} {V : World → Prop} {ds : List Nat} {π : List (Nat × Nat)} {a : Act} {W W' w : World} {n i d1 : Nat} {L : List (Nat × Value)} {ty t T : TypeId} {S R : Nat → Prop} {M : List Asn}
end
section
variable {P : Program} {a : Act} {W : World} {x : Operand} {ty : TypeId}
end
end Go.Proofs.YtndicjikjcifaaaDoor

/- Both sealers are made. -/
namespace Go.Proofs.YtndicjikjcifaaaDoor
open Go.RowKit Go.Proofs.YtndicjikjcifaaaDoorW.PrintWords Go.Proofs.YtndicjikjcifaaaDoorW.PrintLast
set_option linter.unusedVariables false
set_option linter.unusedSimpArgs false
set_option maxRecDepth 100000
def SealOk (a s t : Int) : Prop := 0 ≤ a ∧ a ≤ 6 ∧ 1 ≤ s ∧ s ≤ 16 ∧ 1 ≤ t ∧ t ≤ 1000
def SealNew (T : TypeId) (a s t : Int) (w : World) (e : Ending) (W : World) : Prop :=
  (SealOk a s t → ∃ g, e = .returned (.tuple #[.pointer (some ⟨g, 0, none⟩), .int .i64 0]) ∧ w.heap.size ≤ g ∧ W.heap[g]? = some (.cells #[.int .i64 a, .int .i64 s, .int .i64 t, .slice none 0 0, .int .i64 0, .int .i64 0] T (0, 0)) ∧ Below w.heap.size w W)
  ∧ (¬ SealOk a s t → e = .returned (.tuple #[.pointer none, .int .i64 2]) ∧ Below w.heap.size w W)
end Go.Proofs.YtndicjikjcifaaaDoor

/- The document's sealer: Add. -/
namespace Go.Proofs.YtndicjikjcifaaaDoor
open Go.RowKit Go.Proofs.YtndicjikjcifaaaDoorW.PrintWords Go.Proofs.YtndicjikjcifaaaDoorW.PrintLast
set_option linter.unusedVariables false
set_option linter.unusedSimpArgs false
set_option maxRecDepth 100000
open PB (S33 k33)
end Go.Proofs.YtndicjikjcifaaaDoor

/- The program's sealer: Add. -/
namespace Go.Proofs.YtndicjikjcifaaaDoor
open Go.RowKit Go.Proofs.YtndicjikjcifaaaDoorW.PrintWords Go.Proofs.YtndicjikjcifaaaDoorW.PrintLast
set_option linter.unusedVariables false
set_option linter.unusedSimpArgs false
set_option maxRecDepth 100000
open PB (S33 k33)
def AddP (T : TypeId) (z : Int) (g : Nat) (a0 s0 t0 k0 n0 : Int) (A : Option Addr) (c : Nat) (xs : List S33) (ok : Nat → Prop) (t : S33) (w : World) (Sf Rf : Nat → Prop) (M : List Asn) (e : Ending) (W : World) : Prop :=
  (z ≠ 0 ∧ e = .returned (.int .i64 z) ∧ St w Sf Rf (Asn.blk g [.int .i64 a0, .int .i64 s0, .int .i64 t0, .slice A xs.length c, .int .i64 k0, .int .i64 n0] T :: Asn.qu k33 33 (.slice A xs.length c) xs ok :: M) W) ∨
  (z = 0 ∧ (xs.length : Int) ≥ 4 * s0 ∧ e = .returned (.int .i64 4) ∧ St w Sf Rf (Asn.blk g [.int .i64 a0, .int .i64 s0, .int .i64 t0, .slice A xs.length c, .int .i64 k0, .int .i64 n0] T :: Asn.qu k33 33 (.slice A xs.length c) xs ok :: M) W) ∨
  (z = 0 ∧ ¬ (xs.length : Int) ≥ 4 * s0 ∧ e = .returned (.int .i64 0) ∧ ∃ A' c' ok', St w Sf Rf (Asn.blk g [.int .i64 a0, .int .i64 s0, .int .i64 t0, .slice A' (xs ++ [t]).length c', .int .i64 k0, .int .i64 n0] T :: Asn.qu k33 33 (.slice A' (xs ++ [t]).length c') (xs ++ [t]) ok' :: M) W)
end Go.Proofs.YtndicjikjcifaaaDoor

/- The program's sealer: Tick. -/
namespace Go.Proofs.YtndicjikjcifaaaDoor
open Go.RowKit Go.Proofs.YtndicjikjcifaaaDoorW.PrintWords Go.Proofs.YtndicjikjcifaaaDoorW.PrintLast
set_option linter.unusedVariables false
set_option linter.unusedSimpArgs false
set_option maxRecDepth 100000
open PB (S33 k33)
def Ticked (g : Nat) (a0 s0 t0 k0 n0 : Int) (A : Option Addr) (c : Nat) (xs : List S33) (ok : Nat → Prop) (w : World) (Sf Rf : Nat → Prop) (e : Ending) (W : World) : Prop :=
  (xs.length = 0 ∧ e = .returned (.tuple #[.agg #[.int .i64 0, .int .i64 0, .slice none 0 0], .bool false]) ∧ St w Sf Rf [Asn.blk g [.int .i64 a0, .int .i64 s0, .int .i64 t0, .slice A xs.length c, .int .i64 k0, .int .i64 n0] 72, Asn.qu k33 33 (.slice A xs.length c) xs ok] W) ∨
  (xs.length ≠ 0 ∧ (xs.length : Int) < s0 ∧ k0 + 1 < t0 ∧ e = .returned (.tuple #[.agg #[.int .i64 0, .int .i64 0, .slice none 0 0], .bool false]) ∧ St w Sf Rf [Asn.blk g [.int .i64 a0, .int .i64 s0, .int .i64 t0, .slice A xs.length c, .int .i64 (k0 + 1), .int .i64 n0] 72, Asn.qu k33 33 (.slice A xs.length c) xs ok] W) ∨
  (xs.length ≠ 0 ∧ ¬ ((xs.length : Int) < s0 ∧ k0 + 1 < t0) ∧ ∃ m : Nat, (m : Int) = min s0 (xs.length : Int) ∧ e = .returned (.tuple #[.agg #[.int .i64 a0, .int .i64 (n0 + 1), .slice A m m], .bool true]) ∧ St w Sf Rf [Asn.blk g [.int .i64 a0, .int .i64 s0, .int .i64 t0, .slice (if c = m then A else A.map (·.add (m * 9))) (xs.length - m) (c - m), .int .i64 0, .int .i64 (n0 + 1)] 72, Asn.qf k33 33 (.slice (if c = m then A else A.map (·.add (m * 9))) (xs.length - m) (c - m)) (xs.drop m) ok A m (xs.take m)] W)
theorem x_min {P : Program} {a : Act} {W : World} {x y : Operand} {ty s : TypeId} {p q : Int} (hx : a.eval x = .int .i64 p) (hy : a.eval y = .int .i64 q) : (ex a (.call { callee := .builtin .min, args := #[x, y], argTypes := #[s, s] }) ty).run P W = .ok (.value (.int .i64 (min p q))) W := by
  have : (Builtin.min2 (.int .i64 p) (.int .i64 q)).run P W = .ok (.int .i64 (min p q)) W := by
    simp only [Builtin.min2]
    have e : (if q < p then q else p) = min p q := by split <;> omega
    rw [e]; rfl
  simp [ex, execOp, resolve, invoke, builtin, hx, hy, Builtin.min_, this]
end Go.Proofs.YtndicjikjcifaaaDoor

/- The document's sealer: Tick. -/
namespace Go.Proofs.YtndicjikjcifaaaDoor
open Go.RowKit Go.Proofs.YtndicjikjcifaaaDoorW.PrintWords Go.Proofs.YtndicjikjcifaaaDoorW.PrintLast
set_option linter.unusedVariables false
set_option linter.unusedSimpArgs false
set_option maxRecDepth 100000
open PB (S33 k33)
def RTicked (g : Nat) (a0 s0 t0 k0 n0 : Int) (A : Option Addr) (c : Nat) (xs : List S33) (ok : Nat → Prop) (w : World) (Sf Rf : Nat → Prop) (e : Ending) (W : World) : Prop :=
  (xs.length = 0 ∧ e = .returned (.tuple #[.agg #[.int .i64 0, .int .i64 0, .slice none 0 0], .bool false]) ∧ St w Sf Rf [Asn.blk g [.int .i64 a0, .int .i64 s0, .int .i64 t0, .slice A xs.length c, .int .i64 k0, .int .i64 n0] 46, Asn.qu k33 33 (.slice A xs.length c) xs ok] W) ∨
  (xs.length ≠ 0 ∧ (xs.length : Int) < s0 ∧ k0 + 1 < t0 ∧ e = .returned (.tuple #[.agg #[.int .i64 0, .int .i64 0, .slice none 0 0], .bool false]) ∧ St w Sf Rf [Asn.blk g [.int .i64 a0, .int .i64 s0, .int .i64 t0, .slice A xs.length c, .int .i64 (k0 + 1), .int .i64 n0] 46, Asn.qu k33 33 (.slice A xs.length c) xs ok] W) ∨
  (xs.length ≠ 0 ∧ ¬ ((xs.length : Int) < s0 ∧ k0 + 1 < t0) ∧ ∃ (m : Nat) (A' : Option Addr) (c' : Nat) (ok' : Nat → Prop), (m : Int) = min s0 (xs.length : Int) ∧ (xs.take m).length ≤ c' ∧ e = .returned (.tuple #[.agg #[.int .i64 a0, .int .i64 (n0 + 1), .slice A' (xs.take m).length c'], .bool true]) ∧
    St w Sf Rf [Asn.blk g [.int .i64 a0, .int .i64 s0, .int .i64 t0, .slice (if c = m then A else A.map (·.add (m * 9))) (xs.length - m) (c - m), .int .i64 0, .int .i64 (n0 + 1)] 46, Asn.qu k33 33 (.slice (if c = m then A else A.map (·.add (m * 9))) (xs.length - m) (c - m)) (xs.drop m) ok, Asn.rd k33 ok' A' (xs.take m).length (xs.take m)] W)
end Go.Proofs.YtndicjikjcifaaaDoor

/- The program's sealer: Waits. -/
namespace Go.Proofs.YtndicjikjcifaaaDoor
open Go.RowKit Go.Proofs.YtndicjikjcifaaaDoorW.PrintWords Go.Proofs.YtndicjikjcifaaaDoorW.PrintLast
set_option linter.unusedVariables false
set_option linter.unusedSimpArgs false
set_option maxRecDepth 100000
end Go.Proofs.YtndicjikjcifaaaDoor

/- tx.Decode. -/
namespace Go.Proofs.YtndicjikjcifaaaDoor
open Go.RowKit Go.Shelf Go.Lib Go.Proofs.YtndicjikjcifaaaDoorW.PrintWords Go.Proofs.YtndicjikjcifaaaDoorW.PrintLast
set_option linter.unusedVariables false
set_option linter.unusedSimpArgs false
structure Dx (w : World) (b0 b1 b2 b3 b4 b5 b6 b7 b8 : Value) (s : ByteArray) (W : World) : Prop where
  low : Below w.heap.size w W
  tx : W.heap[w.heap.size]? = some (.cells #[b0, b1, b2, b3, b4, b5, b6, b7, b8] 33 (0, 0))
  er : W.heap[w.heap.size + 1]? = some (.cells #[.int .i64 0] 24 (0, 0))
  rd : W.heap[w.heap.size + 1 + 1]? = some (.cells #[.string s] 77 (0, 0))
theorem Dx.size {w W : World} {b0 b1 b2 b3 b4 b5 b6 b7 b8 : Value} {s : ByteArray} (h : Dx w b0 b1 b2 b3 b4 b5 b6 b7 b8 s W) : w.heap.size + 1 + 1 < W.heap.size := by
  have := h.rd
  rcases Nat.lt_or_ge (w.heap.size + 1 + 1) W.heap.size with h | h
  · exact h
  · rw [Array.getElem?_eq_none h] at this; cases this
theorem Dx.read {w W W' : World} {b0 b1 b2 b3 b4 b5 b6 b7 b8 : Value} {s s' : ByteArray} (h : Dx w b0 b1 b2 b3 b4 b5 b6 b7 b8 s W) (hr : Rd (w.heap.size + 1 + 1) s' W W') : Dx w b0 b1 b2 b3 b4 b5 b6 b7 b8 s' W' :=
  ⟨hr.below h.low (by omega), (hr.blk (by omega) (by have := h.size; omega)).trans h.tx, (hr.blk (by omega) (by have := h.size; omega)).trans h.er, hr.box⟩
theorem Dx.step {w W W' : World} {b0 b1 b2 b3 b4 b5 b6 b7 b8 : Value} {s : ByteArray} (h : Dx w b0 b1 b2 b3 b4 b5 b6 b7 b8 s W) (hb : Below W.heap.size W W') : Dx w b0 b1 b2 b3 b4 b5 b6 b7 b8 s W' :=
  ⟨below_then h.low h.low.size hb, (hb.block _ (by have := h.size; omega)).trans h.tx, (hb.block _ (by have := h.size; omega)).trans h.er, (hb.block _ h.size).trans h.rd⟩
theorem Dx.set0 {w W : World} {b0 b1 b2 b3 b4 b5 b6 b7 b8 : Value} {s : ByteArray} (h : Dx w b0 b1 b2 b3 b4 b5 b6 b7 b8 s W) (v : Value) : Dx w v b1 b2 b3 b4 b5 b6 b7 b8 s (W.setCell ⟨w.heap.size, 0, none⟩ v) :=
  ⟨h.low.setCell (by simp) v, by simpa using blk_set h.tx 0 v, (Below.heap_setCell _ _ _ _ (by simp)).trans h.er, (Below.heap_setCell _ _ _ _ (by simp; omega)).trans h.rd⟩
theorem Dx.set1 {w W : World} {b0 b1 b2 b3 b4 b5 b6 b7 b8 : Value} {s : ByteArray} (h : Dx w b0 b1 b2 b3 b4 b5 b6 b7 b8 s W) (v : Value) : Dx w b0 v b2 b3 b4 b5 b6 b7 b8 s (W.setCell ⟨w.heap.size, 1, none⟩ v) :=
  ⟨h.low.setCell (by simp) v, by simpa using blk_set h.tx 1 v, (Below.heap_setCell _ _ _ _ (by simp)).trans h.er, (Below.heap_setCell _ _ _ _ (by simp; omega)).trans h.rd⟩
theorem Dx.set2 {w W : World} {b0 b1 b2 b3 b4 b5 b6 b7 b8 : Value} {s : ByteArray} (h : Dx w b0 b1 b2 b3 b4 b5 b6 b7 b8 s W) (v : Value) : Dx w b0 b1 v b3 b4 b5 b6 b7 b8 s (W.setCell ⟨w.heap.size, 2, none⟩ v) :=
  ⟨h.low.setCell (by simp) v, by simpa using blk_set h.tx 2 v, (Below.heap_setCell _ _ _ _ (by simp)).trans h.er, (Below.heap_setCell _ _ _ _ (by simp; omega)).trans h.rd⟩
theorem Dx.set3 {w W : World} {b0 b1 b2 b3 b4 b5 b6 b7 b8 : Value} {s : ByteArray} (h : Dx w b0 b1 b2 b3 b4 b5 b6 b7 b8 s W) (v : Value) : Dx w b0 b1 b2 v b4 b5 b6 b7 b8 s (W.setCell ⟨w.heap.size, 3, none⟩ v) :=
  ⟨h.low.setCell (by simp) v, by simpa using blk_set h.tx 3 v, (Below.heap_setCell _ _ _ _ (by simp)).trans h.er, (Below.heap_setCell _ _ _ _ (by simp; omega)).trans h.rd⟩
theorem Dx.set4 {w W : World} {b0 b1 b2 b3 b4 b5 b6 b7 b8 : Value} {s : ByteArray} (h : Dx w b0 b1 b2 b3 b4 b5 b6 b7 b8 s W) (v : Value) : Dx w b0 b1 b2 b3 v b5 b6 b7 b8 s (W.setCell ⟨w.heap.size, 4, none⟩ v) :=
  ⟨h.low.setCell (by simp) v, by simpa using blk_set h.tx 4 v, (Below.heap_setCell _ _ _ _ (by simp)).trans h.er, (Below.heap_setCell _ _ _ _ (by simp; omega)).trans h.rd⟩
theorem Dx.set5 {w W : World} {b0 b1 b2 b3 b4 b5 b6 b7 b8 : Value} {s : ByteArray} (h : Dx w b0 b1 b2 b3 b4 b5 b6 b7 b8 s W) (v : Value) : Dx w b0 b1 b2 b3 b4 v b6 b7 b8 s (W.setCell ⟨w.heap.size, 5, none⟩ v) :=
  ⟨h.low.setCell (by simp) v, by simpa using blk_set h.tx 5 v, (Below.heap_setCell _ _ _ _ (by simp)).trans h.er, (Below.heap_setCell _ _ _ _ (by simp; omega)).trans h.rd⟩
theorem Dx.set6 {w W : World} {b0 b1 b2 b3 b4 b5 b6 b7 b8 : Value} {s : ByteArray} (h : Dx w b0 b1 b2 b3 b4 b5 b6 b7 b8 s W) (v : Value) : Dx w b0 b1 b2 b3 b4 b5 v b7 b8 s (W.setCell ⟨w.heap.size, 6, none⟩ v) :=
  ⟨h.low.setCell (by simp) v, by simpa using blk_set h.tx 6 v, (Below.heap_setCell _ _ _ _ (by simp)).trans h.er, (Below.heap_setCell _ _ _ _ (by simp; omega)).trans h.rd⟩
theorem Dx.set7 {w W : World} {b0 b1 b2 b3 b4 b5 b6 b7 b8 : Value} {s : ByteArray} (h : Dx w b0 b1 b2 b3 b4 b5 b6 b7 b8 s W) (v : Value) : Dx w b0 b1 b2 b3 b4 b5 b6 v b8 s (W.setCell ⟨w.heap.size, 7, none⟩ v) :=
  ⟨h.low.setCell (by simp) v, by simpa using blk_set h.tx 7 v, (Below.heap_setCell _ _ _ _ (by simp)).trans h.er, (Below.heap_setCell _ _ _ _ (by simp; omega)).trans h.rd⟩
theorem Dx.set8 {w W : World} {b0 b1 b2 b3 b4 b5 b6 b7 b8 : Value} {s : ByteArray} (h : Dx w b0 b1 b2 b3 b4 b5 b6 b7 b8 s W) (v : Value) : Dx w b0 b1 b2 b3 b4 b5 b6 b7 v s (W.setCell ⟨w.heap.size, 8, none⟩ v) :=
  ⟨h.low.setCell (by simp) v, by simpa using blk_set h.tx 8 v, (Below.heap_setCell _ _ _ _ (by simp)).trans h.er, (Below.heap_setCell _ _ _ _ (by simp; omega)).trans h.rd⟩
theorem Dx.first (w : World) (s : ByteArray) : Dx w (.int .i64 0) (.string ⟨#[]⟩) (.string ⟨#[]⟩) (.int .u64 0) (.int .u64 0) (.string ⟨#[]⟩) (.string ⟨#[]⟩) (.slice none 0 0) (.slice none 0 0) s
    (((w.alloc (.cells #[.int .i64 0, .string ⟨#[]⟩, .string ⟨#[]⟩, .int .u64 0, .int .u64 0, .string ⟨#[]⟩, .string ⟨#[]⟩, .slice none 0 0, .slice none 0 0] 33)).alloc (.cells #[.int .i64 0] 24)).alloc (.cells #[.string s] 77)) :=
  ⟨(((Below.refl _ w).alloc (Nat.le_refl _) _).alloc (by simp) _).alloc (by simp; omega) _, blk_alloc (blk_alloc (blk_new _ _) _) _, blk_alloc (blk_newAt _ _ (by simp)) _, blk_newAt _ _ (by simp)⟩
end Go.Proofs.YtndicjikjcifaaaDoor
/- tx.Decode: its last way out, and all ways joined. -/
namespace Go.Proofs.YtndicjikjcifaaaDoor
open Go.RowKit Go.Shelf Go.Lib Go.Proofs.YtndicjikjcifaaaDoorW.PrintWords Go.Proofs.YtndicjikjcifaaaDoorW.PrintLast
set_option linter.unusedVariables false
set_option linter.unusedSimpArgs false
abbrev Dec := Int × ByteArray × ByteArray × Int × Int × ByteArray × ByteArray × List ByteArray × List ByteArray × Int
def derr (e : Int) : Dec := (0, ⟨#[]⟩, ⟨#[]⟩, 0, 0, ⟨#[]⟩, ⟨#[]⟩, [], [], e)
def fin9 (kd : Int) (f t : ByteArray) (am nc : Int) (ky' vl : ByteArray) (rs ws : List ByteArray) : Dec :=
  if ch kd f t am nc ky' vl rs ws = 0 then (kd, f, t, am, nc, ky', vl, rs, ws, 0) else derr (ch kd f t am nc ky' vl rs ws)
structure Fx (w : World) (c : Array Value) (x : Int) (v7 v8 : Value) (rs ws : List ByteArray) (Z : World) : Prop where
  low : Below w.heap.size w Z
  tx : Z.heap[w.heap.size]? = some (.cells c 33 (0, 0))
  er : Z.heap[w.heap.size + 1]? = some (.cells #[.int .i64 x] 24 (0, 0))
  r7 : Kd.R Kd.string 9 Z w.heap.size (fun k => some k = v7.ownBlock) v7 rs
  r8 : Kd.R Kd.string 9 Z w.heap.size (fun k => some k = v8.ownBlock) v8 ws
theorem Fx.made {w W : World} {b0 b1 b2 b3 b4 b5 b6 b7 b8 : Value} {s : ByteArray} (h : Dx w b0 b1 b2 b3 b4 b5 b6 b7 b8 s W) {v7 v8 : Value} {rs ws : List ByteArray}
    (r7 : Kd.R Kd.string 9 W w.heap.size (fun k => some k = v7.ownBlock) v7 rs) (r8 : Kd.R Kd.string 9 W w.heap.size (fun k => some k = v8.ownBlock) v8 ws) (c0 c1 c2 c3 c4 c5 c6 c7 c8 : Value) (x : Int) :
    Fx w #[c0, c1, c2, c3, c4, c5, c6, c7, c8] x v7 v8 rs ws
      ((((((((((W.setCell ⟨w.heap.size, 0, none⟩ c0).setCell ⟨w.heap.size, 1, none⟩ c1).setCell ⟨w.heap.size, 2, none⟩ c2).setCell ⟨w.heap.size, 3, none⟩ c3).setCell ⟨w.heap.size, 4, none⟩ c4).setCell ⟨w.heap.size, 5, none⟩ c5).setCell ⟨w.heap.size, 6, none⟩ c6).setCell ⟨w.heap.size, 7, none⟩ c7).setCell ⟨w.heap.size, 8, none⟩ c8).setCell ⟨w.heap.size + 1, 0, none⟩ (.int .i64 x)) := by
  have hd := ((((((((h.set0 c0).set1 c1).set2 c2).set3 c3).set4 c4).set5 c5).set6 c6).set7 c7).set8 c8
  have ht33 : ∀ q, q ∈ 9 :: Kd.string.E → q ≠ 24 := by intro q hq; simp [Kd.string, Kd.scalar] at hq; subst hq; decide
  have D7 := Kd.R_ne r7 h.tx (by decide)
  have D8 := Kd.R_ne r8 h.tx (by decide)
  have E7 := Kd.R_ne r7 h.er (by decide)
  have E8 := Kd.R_ne r8 h.er (by decide)
  refine ⟨hd.low.setCell (by simp) _, (Below.heap_setCell _ _ _ _ (by simp)).trans hd.tx, by simpa using blk_set hd.er 0 (.int .i64 x), ?_, ?_⟩
  · refine Kd.R_step r7 (fun k hk hlt => ?_)
    have n1 : k ≠ w.heap.size := fun e => D7 (by rw [← e]; exact hk)
    have n2 : k ≠ w.heap.size + 1 := fun e => E7 (by rw [← e]; exact hk)
    rw [Below.heap_setCell _ _ _ _ n2]
    iterate 9 rw [Below.heap_setCell _ _ _ _ n1]
  · refine Kd.R_step r8 (fun k hk hlt => ?_)
    have n1 : k ≠ w.heap.size := fun e => D8 (by rw [← e]; exact hk)
    have n2 : k ≠ w.heap.size + 1 := fun e => E8 (by rw [← e]; exact hk)
    rw [Below.heap_setCell _ _ _ _ n2]
    iterate 9 rw [Below.heap_setCell _ _ _ _ n1]
end Go.Proofs.YtndicjikjcifaaaDoor
/- tx.Decode: all ways joined. -/
namespace Go.Proofs.YtndicjikjcifaaaDoor
open Go.RowKit Go.Shelf Go.Lib Go.Proofs.YtndicjikjcifaaaDoorW.PrintWords Go.Proofs.YtndicjikjcifaaaDoorW.PrintLast
set_option linter.unusedVariables false
set_option linter.unusedSimpArgs false
end Go.Proofs.YtndicjikjcifaaaDoor

/- tuskref04.In: its four methods, in total form. -/
namespace Go.Proofs.YtndicjikjcifaaaDoor
open Go.RowKit Go.Shelf Go.Lib Go.Proofs.YtndicjikjcifaaaDoorW.PrintWords Go.Proofs.YtndicjikjcifaaaDoorW.PrintLast
set_option linter.unusedVariables false
set_option linter.unusedSimpArgs false
def inG {α : Type} (z : α) (g : ByteArray → α × Int × Int) (S : ByteArray) (E : Int) : α × ByteArray × Int := if E = 0 then ((g S).1, rest S (g S).2.1, (g S).2.2) else (z, S, E)
structure Ri (p : Nat) (S : ByteArray) (E : Int) (w w' : World) : Prop where
  box : w'.heap[p]? = some (.cells #[.string S, .int .i64 E] 84 (0, 0))
  only : Only (fun k => k = p) w w'
theorem Ri.of_below {p : Nat} {S S' : ByteArray} {E E' : Int} {w w1 : World} (h : w1.heap[p]? = some (.cells #[.string S, .int .i64 E] 84 (0, 0))) (hd : Below w.heap.size w w1) :
    Ri p S' E' w ((w1.setCell ⟨p, 1, none⟩ (.int .i64 E')).setCell ⟨p, 0, none⟩ (.string S')) :=
  ⟨by simpa using blk_set (blk_set h 1 (.int .i64 E')) 0 (.string S'), ((Only.of_below (S := fun k => k = p) hd).set (p := ⟨p, 1, none⟩) (.inl rfl) _).set (p := ⟨p, 0, none⟩) (.inl rfl) _⟩
theorem Ri.same {p : Nat} {S : ByteArray} {E : Int} {w : World} (h : w.heap[p]? = some (.cells #[.string S, .int .i64 E] 84 (0, 0))) : Ri p S E w w := ⟨h, Only.refl _ _⟩
end Go.Proofs.YtndicjikjcifaaaDoor

/- tuskref04.Decode: the walk. (Laid by wip/tools/refdecgen.py.) -/
namespace Go.Proofs.YtndicjikjcifaaaDoor
open Go.RowKit Go.Shelf Go.Lib Go.Proofs.YtndicjikjcifaaaDoorW.PrintWords Go.Proofs.YtndicjikjcifaaaDoorW.PrintLast
set_option linter.unusedVariables false
set_option linter.unusedSimpArgs false
structure Dy (w : World) (b0 b1 b2 b3 b4 b5 b6 b7 b8 : Value) (s : ByteArray) (E : Int) (W : World) : Prop where
  low : Below w.heap.size w W
  res : W.heap[w.heap.size]? = some (.cells #[.int .i64 0, .string ⟨#[]⟩, .string ⟨#[]⟩, .int .u64 0, .int .u64 0, .string ⟨#[]⟩, .string ⟨#[]⟩, .slice none 0 0, .slice none 0 0] 33 (0, 0))
  inn : W.heap[w.heap.size + 1]? = some (.cells #[.string s, .int .i64 E] 84 (0, 0))
  tx : W.heap[w.heap.size + 1 + 1]? = some (.cells #[b0, b1, b2, b3, b4, b5, b6, b7, b8] 33 (0, 0))
theorem below_low {w W W' : World} {B : Nat} (h : Below B w W) (hb : Below B W W') : Below B w W' :=
  h.trans hb
theorem Dy.size {w W : World} {b0 b1 b2 b3 b4 b5 b6 b7 b8 : Value} {s : ByteArray} {E : Int} (h : Dy w b0 b1 b2 b3 b4 b5 b6 b7 b8 s E W) : w.heap.size + 1 + 1 < W.heap.size := blk_lt h.tx
theorem Dy.read {w W W' : World} {b0 b1 b2 b3 b4 b5 b6 b7 b8 : Value} {s s' : ByteArray} {E E' : Int} (h : Dy w b0 b1 b2 b3 b4 b5 b6 b7 b8 s E W) (hr : Ri (w.heap.size + 1) s' E' W W') : Dy w b0 b1 b2 b3 b4 b5 b6 b7 b8 s' E' W' :=
  ⟨below_low h.low (hr.only.below (B := w.heap.size) h.low.size (fun i hi => by omega)), (hr.only.block _ (blk_lt h.res) (by omega)).trans h.res, hr.box, (hr.only.block _ (blk_lt h.tx) (by omega)).trans h.tx⟩
theorem Dy.step {w W W' : World} {b0 b1 b2 b3 b4 b5 b6 b7 b8 : Value} {s : ByteArray} {E : Int} (h : Dy w b0 b1 b2 b3 b4 b5 b6 b7 b8 s E W) (hb : Below W.heap.size W W') : Dy w b0 b1 b2 b3 b4 b5 b6 b7 b8 s E W' :=
  ⟨below_then h.low h.low.size hb, (hb.block _ (blk_lt h.res)).trans h.res, (hb.block _ (blk_lt h.inn)).trans h.inn, (hb.block _ (blk_lt h.tx)).trans h.tx⟩
theorem Dy.set0 {w W : World} {b0 b1 b2 b3 b4 b5 b6 b7 b8 : Value} {s : ByteArray} {E : Int} (h : Dy w b0 b1 b2 b3 b4 b5 b6 b7 b8 s E W) (v : Value) : Dy w v b1 b2 b3 b4 b5 b6 b7 b8 s E (W.setCell ⟨w.heap.size + 1 + 1, 0, none⟩ v) :=
  ⟨h.low.setCell (by simp; omega) v, (Below.heap_setCell _ _ _ _ (by simp; omega)).trans h.res, (Below.heap_setCell _ _ _ _ (by simp)).trans h.inn, by simpa using blk_set h.tx 0 v⟩
theorem Dy.set1 {w W : World} {b0 b1 b2 b3 b4 b5 b6 b7 b8 : Value} {s : ByteArray} {E : Int} (h : Dy w b0 b1 b2 b3 b4 b5 b6 b7 b8 s E W) (v : Value) : Dy w b0 v b2 b3 b4 b5 b6 b7 b8 s E (W.setCell ⟨w.heap.size + 1 + 1, 1, none⟩ v) :=
  ⟨h.low.setCell (by simp; omega) v, (Below.heap_setCell _ _ _ _ (by simp; omega)).trans h.res, (Below.heap_setCell _ _ _ _ (by simp)).trans h.inn, by simpa using blk_set h.tx 1 v⟩
theorem Dy.set2 {w W : World} {b0 b1 b2 b3 b4 b5 b6 b7 b8 : Value} {s : ByteArray} {E : Int} (h : Dy w b0 b1 b2 b3 b4 b5 b6 b7 b8 s E W) (v : Value) : Dy w b0 b1 v b3 b4 b5 b6 b7 b8 s E (W.setCell ⟨w.heap.size + 1 + 1, 2, none⟩ v) :=
  ⟨h.low.setCell (by simp; omega) v, (Below.heap_setCell _ _ _ _ (by simp; omega)).trans h.res, (Below.heap_setCell _ _ _ _ (by simp)).trans h.inn, by simpa using blk_set h.tx 2 v⟩
theorem Dy.set3 {w W : World} {b0 b1 b2 b3 b4 b5 b6 b7 b8 : Value} {s : ByteArray} {E : Int} (h : Dy w b0 b1 b2 b3 b4 b5 b6 b7 b8 s E W) (v : Value) : Dy w b0 b1 b2 v b4 b5 b6 b7 b8 s E (W.setCell ⟨w.heap.size + 1 + 1, 3, none⟩ v) :=
  ⟨h.low.setCell (by simp; omega) v, (Below.heap_setCell _ _ _ _ (by simp; omega)).trans h.res, (Below.heap_setCell _ _ _ _ (by simp)).trans h.inn, by simpa using blk_set h.tx 3 v⟩
theorem Dy.set4 {w W : World} {b0 b1 b2 b3 b4 b5 b6 b7 b8 : Value} {s : ByteArray} {E : Int} (h : Dy w b0 b1 b2 b3 b4 b5 b6 b7 b8 s E W) (v : Value) : Dy w b0 b1 b2 b3 v b5 b6 b7 b8 s E (W.setCell ⟨w.heap.size + 1 + 1, 4, none⟩ v) :=
  ⟨h.low.setCell (by simp; omega) v, (Below.heap_setCell _ _ _ _ (by simp; omega)).trans h.res, (Below.heap_setCell _ _ _ _ (by simp)).trans h.inn, by simpa using blk_set h.tx 4 v⟩
theorem Dy.set5 {w W : World} {b0 b1 b2 b3 b4 b5 b6 b7 b8 : Value} {s : ByteArray} {E : Int} (h : Dy w b0 b1 b2 b3 b4 b5 b6 b7 b8 s E W) (v : Value) : Dy w b0 b1 b2 b3 b4 v b6 b7 b8 s E (W.setCell ⟨w.heap.size + 1 + 1, 5, none⟩ v) :=
  ⟨h.low.setCell (by simp; omega) v, (Below.heap_setCell _ _ _ _ (by simp; omega)).trans h.res, (Below.heap_setCell _ _ _ _ (by simp)).trans h.inn, by simpa using blk_set h.tx 5 v⟩
theorem Dy.set6 {w W : World} {b0 b1 b2 b3 b4 b5 b6 b7 b8 : Value} {s : ByteArray} {E : Int} (h : Dy w b0 b1 b2 b3 b4 b5 b6 b7 b8 s E W) (v : Value) : Dy w b0 b1 b2 b3 b4 b5 v b7 b8 s E (W.setCell ⟨w.heap.size + 1 + 1, 6, none⟩ v) :=
  ⟨h.low.setCell (by simp; omega) v, (Below.heap_setCell _ _ _ _ (by simp; omega)).trans h.res, (Below.heap_setCell _ _ _ _ (by simp)).trans h.inn, by simpa using blk_set h.tx 6 v⟩
theorem Dy.set7 {w W : World} {b0 b1 b2 b3 b4 b5 b6 b7 b8 : Value} {s : ByteArray} {E : Int} (h : Dy w b0 b1 b2 b3 b4 b5 b6 b7 b8 s E W) (v : Value) : Dy w b0 b1 b2 b3 b4 b5 b6 v b8 s E (W.setCell ⟨w.heap.size + 1 + 1, 7, none⟩ v) :=
  ⟨h.low.setCell (by simp; omega) v, (Below.heap_setCell _ _ _ _ (by simp; omega)).trans h.res, (Below.heap_setCell _ _ _ _ (by simp)).trans h.inn, by simpa using blk_set h.tx 7 v⟩
theorem Dy.set8 {w W : World} {b0 b1 b2 b3 b4 b5 b6 b7 b8 : Value} {s : ByteArray} {E : Int} (h : Dy w b0 b1 b2 b3 b4 b5 b6 b7 b8 s E W) (v : Value) : Dy w b0 b1 b2 b3 b4 b5 b6 b7 v s E (W.setCell ⟨w.heap.size + 1 + 1, 8, none⟩ v) :=
  ⟨h.low.setCell (by simp; omega) v, (Below.heap_setCell _ _ _ _ (by simp; omega)).trans h.res, (Below.heap_setCell _ _ _ _ (by simp)).trans h.inn, by simpa using blk_set h.tx 8 v⟩
theorem Ri.row {p : Nat} {S S' : ByteArray} {E E' : Int} {w w' : World} (h : Ri p S' E' w w') (hb : w.heap[p]? = some (.cells #[.string S, .int .i64 E] 84 (0, 0))) {base : Nat} {v : Value} {xs : List ByteArray}
    (hR : Kd.R Kd.string 9 w base (fun k => some k = v.ownBlock) v xs) : Kd.R Kd.string 9 w' base (fun k => some k = v.ownBlock) v xs :=
  Kd.R_only hR h.only (fun k hk e => Kd.R_ne hR hb (by decide) (by rw [← hk, e]))
theorem Dy.first (w : World) (s : ByteArray) : Dy w (.int .i64 0) (.string ⟨#[]⟩) (.string ⟨#[]⟩) (.int .u64 0) (.int .u64 0) (.string ⟨#[]⟩) (.string ⟨#[]⟩) (.slice none 0 0) (.slice none 0 0) s 0
    (((w.alloc (.cells #[.int .i64 0, .string ⟨#[]⟩, .string ⟨#[]⟩, .int .u64 0, .int .u64 0, .string ⟨#[]⟩, .string ⟨#[]⟩, .slice none 0 0, .slice none 0 0] 33)).alloc (.cells #[.string s, .int .i64 0] 84)).alloc (.cells #[.int .i64 0, .string ⟨#[]⟩, .string ⟨#[]⟩, .int .u64 0, .int .u64 0, .string ⟨#[]⟩, .string ⟨#[]⟩, .slice none 0 0, .slice none 0 0] 33)) :=
  ⟨(((Below.refl _ w).alloc (Nat.le_refl _) _).alloc (by simp) _).alloc (by simp; omega) _, blk_alloc (blk_alloc (blk_new _ _) _) _, blk_alloc (blk_newAt _ _ (by simp)) _, blk_newAt _ _ (by simp)⟩
def fin2 (e9 kd : Int) (f t : ByteArray) (am nc : Int) (ky' vl : ByteArray) (rs ws : List ByteArray) (s9 : ByteArray) : Dec :=
  if e9 ≠ 0 then derr e9 else if kd ≤ 2 then (if s9.toList.isEmpty = true then fin9 kd f t am nc ky' vl rs ws else derr 6) else derr 2
structure Dz (w : World) (b0 b1 b2 b3 b4 b5 b6 b7 b8 : Value) (s : ByteArray) (E : Int) (rs ws : List ByteArray) (W : World) : Prop where
  y : Dy w b0 b1 b2 b3 b4 b5 b6 b7 b8 s E W
  r7 : Kd.R Kd.string 9 W w.heap.size (fun k => some k = b7.ownBlock) b7 rs
  r8 : Kd.R Kd.string 9 W w.heap.size (fun k => some k = b8.ownBlock) b8 ws
theorem Dz.read {w W W' : World} {b0 b1 b2 b3 b4 b5 b6 b7 b8 : Value} {s s' : ByteArray} {E E' : Int} {rs ws : List ByteArray} (h : Dz w b0 b1 b2 b3 b4 b5 b6 b7 b8 s E rs ws W) (hr : Ri (w.heap.size + 1) s' E' W W') : Dz w b0 b1 b2 b3 b4 b5 b6 b7 b8 s' E' rs ws W' :=
  ⟨h.y.read hr, hr.row h.y.inn h.r7, hr.row h.y.inn h.r8⟩
theorem Dz.step {w W W' : World} {b0 b1 b2 b3 b4 b5 b6 b7 b8 : Value} {s : ByteArray} {E : Int} {rs ws : List ByteArray} (h : Dz w b0 b1 b2 b3 b4 b5 b6 b7 b8 s E rs ws W) (hb : Below W.heap.size W W') : Dz w b0 b1 b2 b3 b4 b5 b6 b7 b8 s E rs ws W' :=
  ⟨h.y.step hb, Kd.R_below h.r7 hb, Kd.R_below h.r8 hb⟩
theorem Dz.set0 {w W : World} {b0 b1 b2 b3 b4 b5 b6 b7 b8 : Value} {s : ByteArray} {E : Int} {rs ws : List ByteArray} (h : Dz w b0 b1 b2 b3 b4 b5 b6 b7 b8 s E rs ws W) (v : Value) : Dz w v b1 b2 b3 b4 b5 b6 b7 b8 s E rs ws (W.setCell ⟨w.heap.size + 1 + 1, 0, none⟩ v) :=
  have ht : ∀ q, q ∈ 9 :: Kd.string.E → q ≠ 33 := by intro q hq; simp [Kd.string, Kd.scalar] at hq; subst hq; decide
  ⟨h.y.set0 v, Kd.R_set h.r7 h.y.tx ht _ _, Kd.R_set h.r8 h.y.tx ht _ _⟩
structure RdFr (w : World) (c : Array Value) (b7 b8 : Value) (rs ws : List ByteArray) (W : World) : Prop where
  low : Below w.heap.size w W
  res : W.heap[w.heap.size]? = some (.cells c 33 (0, 0))
  r7 : Kd.R Kd.string 9 W w.heap.size (fun k => some k = b7.ownBlock) b7 rs
  r8 : Kd.R Kd.string 9 W w.heap.size (fun k => some k = b8.ownBlock) b8 ws
theorem RdFr.set {w W : World} {c : Array Value} {b7 b8 : Value} {rs ws : List ByteArray} (h : RdFr w c b7 b8 rs ws W) (i : Nat) (v : Value) : RdFr w (c.setIfInBounds i v) b7 b8 rs ws (W.setCell ⟨w.heap.size, i, none⟩ v) :=
  have ht : ∀ q, q ∈ 9 :: Kd.string.E → q ≠ 33 := by intro q hq; simp [Kd.string, Kd.scalar] at hq; subst hq; decide
  ⟨h.low.setCell (by simp) v, blk_set h.res i v, Kd.R_set h.r7 h.res ht _ _, Kd.R_set h.r8 h.res ht _ _⟩
theorem RdFr.made {w W : World} {b0 b1 b2 b3 b4 b5 b6 b7 b8 : Value} {s : ByteArray} {E : Int} {rs ws : List ByteArray} (h : Dz w b0 b1 b2 b3 b4 b5 b6 b7 b8 s E rs ws W) (c0 c1 c2 c3 c4 c5 c6 c7 c8 : Value) :
    RdFr w #[c0, c1, c2, c3, c4, c5, c6, c7, c8] b7 b8 rs ws (((((((((W.setCell ⟨w.heap.size, 0, none⟩ c0).setCell ⟨w.heap.size, 1, none⟩ c1).setCell ⟨w.heap.size, 2, none⟩ c2).setCell ⟨w.heap.size, 3, none⟩ c3).setCell ⟨w.heap.size, 4, none⟩ c4).setCell ⟨w.heap.size, 5, none⟩ c5).setCell ⟨w.heap.size, 6, none⟩ c6).setCell ⟨w.heap.size, 7, none⟩ c7).setCell ⟨w.heap.size, 8, none⟩ c8) := by
  have h0 : RdFr w _ b7 b8 rs ws W := ⟨h.y.low, h.y.res, h.r7, h.r8⟩
  have := ((((((((h0.set 0 c0).set 1 c1).set 2 c2).set 3 c3).set 4 c4).set 5 c5).set 6 c6).set 7 c7).set 8 c8
  simpa using this
theorem RdFr.drew {w W : World} {c : Array Value} {b7 b8 : Value} {rs ws : List ByteArray} (h : RdFr w c b7 b8 rs ws W) : RdFr w c b7 b8 rs ws W.drew :=
  ⟨h.low.drew, h.res, Kd.R_drew h.r7, Kd.R_drew h.r8⟩
end Go.Proofs.YtndicjikjcifaaaDoor

/- tuskref04.Decode: it answers as tx.Decode. -/
namespace Go.Proofs.YtndicjikjcifaaaDoor
open Go.RowKit Go.Shelf Go.Lib Go.Proofs.YtndicjikjcifaaaDoorW.PrintWords Go.Proofs.YtndicjikjcifaaaDoorW.PrintLast
set_option linter.unusedVariables false
set_option linter.unusedSimpArgs false
def D9 (kd : Int) (f : ByteArray) (t : ByteArray) (am : Int) (nc : Int) (ky' : ByteArray) (vl : ByteArray) (rs : List ByteArray) (ws : List ByteArray) (S : ByteArray) (E : Int) : Dec := fin2 E kd f t am nc ky' vl rs ws S
def D8 (kd : Int) (f : ByteArray) (t : ByteArray) (am : Int) (nc : Int) (ky' : ByteArray) (vl : ByteArray) (rs : List ByteArray) (S : ByteArray) (E : Int) : Dec := D9 kd f t am nc ky' vl rs (inG ([] : List ByteArray) (fun s => gl s 8) S E).1 (inG ([] : List ByteArray) (fun s => gl s 8) S E).2.1 (inG ([] : List ByteArray) (fun s => gl s 8) S E).2.2
def D7 (kd : Int) (f : ByteArray) (t : ByteArray) (am : Int) (nc : Int) (ky' : ByteArray) (vl : ByteArray) (S : ByteArray) (E : Int) : Dec := D8 kd f t am nc ky' vl (inG ([] : List ByteArray) (fun s => gl s 8) S E).1 (inG ([] : List ByteArray) (fun s => gl s 8) S E).2.1 (inG ([] : List ByteArray) (fun s => gl s 8) S E).2.2
end Go.Proofs.YtndicjikjcifaaaDoor

/- batch.Decode: what it answers, in plain words. -/
namespace Go.Proofs.YtndicjikjcifaaaDoor
open Go.RowKit Go.Shelf Go.Lib Go.Proofs.YtndicjikjcifaaaDoorW.PrintWords Go.Proofs.YtndicjikjcifaaaDoorW.PrintLast
open PB (S33 k33)
set_option linter.unusedVariables false
set_option linter.unusedSimpArgs false
end Go.Proofs.YtndicjikjcifaaaDoor
/- tuskref04.In: its List, for lists of up to 16; what its methods do, in the small logic. -/
namespace Go.Proofs.YtndicjikjcifaaaDoor
open Go.RowKit Go.Shelf Go.Lib Go.Proofs.YtndicjikjcifaaaDoorW.PrintWords Go.Proofs.YtndicjikjcifaaaDoorW.PrintLast
set_option linter.unusedVariables false
set_option linter.unusedSimpArgs false
end Go.Proofs.YtndicjikjcifaaaDoor
/- The document's reader of batches: the plain law. -/
namespace Go.Proofs.YtndicjikjcifaaaDoor
open Go.RowKit Go.Shelf Go.Lib Go.Proofs.YtndicjikjcifaaaDoorW.PrintWords Go.Proofs.YtndicjikjcifaaaDoorW.PrintLast
open PB (S33 k33)
set_option linter.unusedVariables false
set_option linter.unusedSimpArgs false
end Go.Proofs.YtndicjikjcifaaaDoor

/- tuskref05.Same of the same batch; what batch.Decode's lists are like. -/
namespace Go.Proofs.YtndicjikjcifaaaDoor
open Go.RowKit Go.Proofs.YtndicjikjcifaaaDoorW.PrintWords Go.Proofs.YtndicjikjcifaaaDoorW.PrintLast
open PB (S33 k33)
set_option linter.unusedVariables false
set_option linter.unusedSimpArgs false
end Go.Proofs.YtndicjikjcifaaaDoor

/- tusklaw05.Own: a batch's copy, and what it leads to. -/
namespace Go.Proofs.YtndicjikjcifaaaDoor
open Go.RowKit Go.Proofs.YtndicjikjcifaaaDoorW.PrintWords Go.Proofs.YtndicjikjcifaaaDoorW.PrintLast
set_option linter.unusedVariables false
set_option linter.unusedSimpArgs false
set_option maxRecDepth 100000
open PB (S33 k33)
def LenB (t : S33) : Prop := t.f7.length < 8796093022208 ∧ t.f8.length < 8796093022208
theorem ownF_calls (t : S33) (A B : Option Addr) (c d : Nat) (w : World) (hK : k33.K w t (txc t A c B d)) (h1 : t.f7.length < 8796093022208) (h2 : t.f8.length < 8796093022208) :
    Calls Tryd.prog 19 #[.agg (txc t A c B d).toArray] w
      fun e w' => ∃ A' c' B' d', e = .returned (.agg #[.int .i64 t.f0, .string t.f1, .string t.f2, .int .u64 t.f3, .int .u64 t.f4, .string t.f5, .string t.f6, .slice A' t.f7.length c', .slice B' t.f8.length d'])
        ∧ Foot (fun W => k33.K W t [.int .i64 t.f0, .string t.f1, .string t.f2, .int .u64 t.f3, .int .u64 t.f4, .string t.f5, .string t.f6, .slice A' t.f7.length c', .slice B' t.f8.length d']) w' (fun k => w.heap.size ≤ k) ∧ Below w.heap.size w w' := by
  obtain ⟨l7, g7, l8, g8⟩ := k33_parts hK
  refine (POw.tusklaw04_Own.calls t.f0 t.f1 t.f2 t.f3 t.f4 t.f5 t.f6 A c t.f7 B d t.f8 t.f0 t.f1 t.f2 t.f3 t.f4 t.f5 t.f6 t.f7 t.f8 w g7 l7 g8 l8 ?_).mono ?_
  · simp [POw.tusklaw04_Own.f, h1, h2]
  · rintro e w' ⟨v7, v8, rfl, r7, r8, hb⟩
    obtain ⟨A', c', rfl, q1, q2⟩ := Kd.R_reads r7
    obtain ⟨B', d', rfl, q3, q4⟩ := Kd.R_reads r8
    exact ⟨A', c', B', d', rfl, fk_tx t q1 (Foot.mono (Kd.R_F (Kd.R_bound r7)) (fun k hk => hk.2.1)) q3 (Foot.mono (Kd.R_F (Kd.R_bound r8)) (fun k hk => hk.2.1)), hb⟩
theorem St.quOut {α : Type} {d : Kd α} {T : TypeId} {xs : List α} {ok R : Nat → Prop} {w W : World} {M : List Asn} {A : Option Addr} {n c : Nat} (H : St w (fun _ => False) R M W) (k : Nat) (h : M[k]? = some (Asn.qu d T (.slice A n c) xs ok)) (hok : ∀ j, ok j → w.heap.size ≤ j) : Foot (fun W => d.C W A n xs) W (fun k => w.heap.size ≤ k) := by
  obtain ⟨h1, h2, h3, h4⟩ := H.has _ (List.mem_of_getElem? h)
  refine Foot.mono (Queue.foot (H.qu k h) h2) (fun j hj => ?_)
  rcases hj with hj | hj
  · exact (h3 j hj).elim (fun q => q.elim) id
  · exact hok j hj
set_option maxHeartbeats 1000000 in
theorem bown_calls (au n : Int) (A : Option Addr) (c : Nat) (l : List S33) (w : World) (hl : l.length < 1034834473200) (hL : ∀ t ∈ l, LenB t) (hr : k33.C w A l.length l) (hc : l.length ≤ c) :
    Calls Tryd.prog 30 #[.agg #[.int .i64 au, .int .i64 n, .slice A l.length c]] w fun e w' => ∃ A' c', e = .returned (.agg #[.int .i64 au, .int .i64 n, .slice A' l.length c']) ∧ l.length ≤ c' ∧ Foot (fun W => k33.C W A' l.length l) w' (fun k => w.heap.size ≤ k) ∧ Below w.heap.size w w' := by
  have H0 : St w (fun _ => False) (fun _ => True) [Asn.rd k33 (fun k => k < w.heap.size) A l.length l] w := (St.first w _ _).old _ (k33_oldC hr) (fun B hB => by cases hB)
  refine c_enter2 (args := [.agg #[.int .i64 au, .int .i64 n, .slice A l.length c]]) (S := (fun _ => False)) (R := (fun _ => True)) (M := [Asn.rd k33 (fun k => k < w.heap.size) A l.length l]) Tryd.func30 (by kernel_rfl) 24 Tryd.ntmps30 (Nat.le_of_ble_eq_true rfl) (H0) (fun a W F H => ?_)
  have F := F.less [(0, .agg #[.int .i64 au, .int .i64 n, .slice A l.length c])] (subc rfl sub0)
  refine c_seq (by kernel_rfl) ?_
  refine c_text (id := 0) (by kernel_rfl) [(0, 2), (1, 2)] (by kernel_rfl) ?_
  refine sq_new (o_s 1 (.box 40 (.tmp 0)) 0 (by kernel_rfl)) trivial F (by decide) H [.int .i64 au, .int .i64 n, .slice A l.length c] 40 (x_box (F.slot rfl) rfl) ?_
  intro g1 W a hg1 H F
  refine ⟨(fun _ => trivial), ?_⟩
  refine sq_new (o_s 2 (.alloc 40) 0 (by kernel_rfl)) trivial F (by decide) H [.int .i64 0, .int .i64 0, .slice none 0 0] 40 (x_alloc Tryd.zeroValue40 rfl) ?_
  intro g2 W a hg2 H F
  refine ⟨(fun _ => trivial), ?_⟩
  unfold wpSeq
  have H : St w (fun _ => False) (fun _ => True) [Asn.rd k33 (fun k => k < w.heap.size) A l.length l, Asn.blk g1 [.int .i64 au, .int .i64 n, .slice A l.length c] 40, Asn.blk g2 [.int .i64 0, .int .i64 0, .slice none 0 0] 40] W := H
  refine t_normal ?_
  refine c_seq (by kernel_rfl) ?_
  refine c_text (id := 1) (by kernel_rfl) [(0, 2)] (by kernel_rfl) ?_
  refine q2 (o_s 3 (.assign (.const (.slice none 0 0))) 38 (by kernel_rfl)) F (by decide) (v := .slice none 0 0) (x_assign rfl) (fun a F => ?_)
  unfold wpSeq
  refine t_normal ?_
  refine c_seq (by kernel_rfl) ?_
  refine c_seq (by kernel_rfl) ?_
  have H := H.quNil k33 33
  refine c_text (id := 2) (by kernel_rfl) [(0, 2)] (by kernel_rfl) ?_
  refine q2 (o_s 4 (.assign (.const (.int .i64 0))) 3 (by kernel_rfl)) F (by decide) (v := .int .i64 0) (x_assign rfl) (fun a F => ?_)
  unfold wpSeq
  have H : St w (fun _ => False) (fun _ => True) [Asn.rd k33 (fun k => k < w.heap.size) A l.length l, Asn.blk g1 [.int .i64 au, .int .i64 n, .slice A l.length c] 40, Asn.blk g2 [.int .i64 0, .int .i64 0, .slice none 0 0] 40, Asn.qu k33 33 (.slice none 0 0) ([] : List S33) (fun _ => False)] W := H
  refine t_normal ?_
  refine c_block (id := 0) (by kernel_rfl) ?_
  refine c_loop (by kernel_rfl) (fun k a W => ∃ (i : Nat) (A1 : Option Addr) (c1 : Nat) (ok1 : Nat → Prop), Fr 24 [(0, .agg #[.int .i64 au, .int .i64 n, .slice A l.length c]), (1, .pointer (some ⟨g1, 0, none⟩)), (2, .pointer (some ⟨g2, 0, none⟩)), (4, .int .i64 (i : Int)), (3, .slice A1 ((l.take i).length) c1)] a ∧ St w (fun _ => False) (fun _ => True) [Asn.rd k33 (fun k => k < w.heap.size) A l.length l, Asn.blk g1 [.int .i64 au, .int .i64 n, .slice A l.length c] 40, Asn.blk g2 [.int .i64 0, .int .i64 0, .slice none 0 0] 40, Asn.qu k33 33 (.slice A1 ((l.take i).length) c1) (l.take i) ok1] W ∧ (k + i = l.length) ∧ (i ≤ l.length) ∧ (∀ k, ok1 k → w.heap.size ≤ k)) l.length ⟨0, none, 0, _, F.less _ (subc rfl (subc rfl (subc rfl (subc rfl (subc rfl sub0))))), H, (by omega), (Nat.zero_le _), (fun _ h => h.elim)⟩ ?_
  rintro k a W ⟨i, A1, c1, ok1, F, H, hki, hi, hok1⟩
  refine c_seq (by kernel_rfl) ?_
  refine c_seq (by kernel_rfl) ?_
  refine c_text (id := 3) (by kernel_rfl) [(0, 2), (1, 2), (2, 2), (3, 2), (4, 2)] (by kernel_rfl) ?_
  refine q2 (o_s 5 (.move (.tmp 4)) 3 (by kernel_rfl)) F (by decide) (x_move (F.slot rfl)) (fun a F => ?_)
  refine q2 (o_s 6 (.fieldAddr 40 (.tmp 1) 2) 0 (by kernel_rfl)) F (by decide) (v := .pointer (some ⟨g1, 2, none⟩)) (x_field0 Tryd.underlying40 rfl rfl (Tryd.sizeOf38 W) (F.slot rfl)) (fun a F => ?_)
  refine q2 (o_s 7 (.load 38 (.tmp 6)) 38 (by kernel_rfl)) F (by decide) (v := .slice A l.length c) (x_load1 (Tryd.isAgg38 W) (F.slot rfl) (H.cell 1 rfl rfl)) (fun a F => ?_)
  refine q2 (o_s 8 (.call { callee := (.builtin .len), args := #[(.tmp 7)], argTypes := #[38] }) 3 (by kernel_rfl)) F (by decide) (v := .int .i64 (l.length : Int)) (x_lenL Tryd.underlying38 (F.slot rfl)) (fun a F => ?_)
  refine q2 (o_s 9 (.binOp .lss 3 (.tmp 5) (.tmp 8) 3) 4 (by kernel_rfl)) F (by decide) (v := .bool (decide ((i : Int) < (l.length : Int)))) (x_int (F.slot rfl) (F.slot rfl) rfl) (fun a F => ?_)
  unfold wpSeq
  have H : St w (fun _ => False) (fun _ => True) [Asn.rd k33 (fun k => k < w.heap.size) A l.length l, Asn.blk g1 [.int .i64 au, .int .i64 n, .slice A l.length c] 40, Asn.blk g2 [.int .i64 0, .int .i64 0, .slice none 0 0] 40, Asn.qu k33 33 (.slice A1 ((l.take i).length) c1) (l.take i) ok1] W := H
  refine t_normal ?_
  rcases bool_or (decide ((i : Int) < (l.length : Int))) with hb3 | hb3
  · have hb3d := of_decide_eq_true hb3
    have F := F.at 9 rfl (v' := .bool true) (congrArg Value.bool hb3)
    refine c_yes (c := .tmp 9) (by kernel_rfl) (F.slot rfl) ?_
    refine c_skip (by kernel_rfl) ?_
    refine t_normal ?_
    refine c_seq (by kernel_rfl) ?_
    refine c_block (id := 1) (by kernel_rfl) ?_
    have hil : i < l.length := by omega
    have hsz := H.low.size
    obtain ⟨t, htt⟩ : ∃ t_, (l)[i]? = some t_ := ⟨_, List.getElem?_eq_getElem (by omega)⟩
    obtain ⟨adt, cst, hAt, hKt, H⟩ := H.elem 0 rfl (by decide) i t htt
    obtain ⟨A7, c7, A8, c8, rfl, l7, g7, l8, g8⟩ := PB.k33_open hKt
    have H : St w (fun _ => False) (fun _ => True) [Asn.rd k33 (fun k => k < w.heap.size) A l.length l, Asn.blk g1 [.int .i64 au, .int .i64 n, .slice A l.length c] 40, Asn.blk g2 [.int .i64 0, .int .i64 0, .slice none 0 0] 40, Asn.qu k33 33 (.slice A1 ((l.take i).length) c1) (l.take i) ok1, Asn.fk k33 (fun k => k < w.heap.size) t (txc t A7 c7 A8 c8), Asn.cl (adt.add (i * 9)) (txc t A7 c7 A8 c8) (fun k => k < w.heap.size)] W := H
    have hnx : l.take (i + 1) = l.take i ++ [t] := by rw [List.take_succ_eq_append_getElem hil]; congr 1; exact congrArg (fun x => [x]) (Option.some.inj ((List.getElem?_eq_getElem hil).symm.trans htt))
    have htl : (l.take i).length ≤ l.length := by rw [List.length_take]; omega
    refine c_text (id := 5) (by kernel_rfl) [(0, 2), (1, 2), (2, 2), (3, 2), (4, 2), (5, 2), (6, 2), (7, 2), (8, 2), (9, 2)] (by kernel_rfl) ?_
    refine q2 (o_s 12 (.move (.tmp 3)) 38 (by kernel_rfl)) F (by decide) (x_move (F.slot rfl)) (fun a F => ?_)
    refine q2 (o_s 13 (.fieldAddr 40 (.tmp 1) 2) 0 (by kernel_rfl)) F (by decide) (v := .pointer (some ⟨g1, 2, none⟩)) (x_field0 Tryd.underlying40 rfl rfl (Tryd.sizeOf38 W) (F.slot rfl)) (fun a F => ?_)
    refine q2 (o_s 14 (.load 38 (.tmp 13)) 38 (by kernel_rfl)) F (by decide) (v := .slice A l.length c) (x_load1 (Tryd.isAgg38 W) (F.slot rfl) (H.cell 1 rfl rfl)) (fun a F => ?_)
    refine q2 (o_s 15 (.move (.tmp 4)) 3 (by kernel_rfl)) F (by decide) (x_move (F.slot rfl)) (fun a F => ?_)
    refine q2 (o_s 16 (.indexAddr 38 (.tmp 14) (.tmp 15)) 0 (by kernel_rfl)) F (by decide) (v := .pointer (some (adt.add (i * 9)))) (x_indexE Tryd.underlying38 (Tryd.sizeOf33 W) (F.slot rfl) hAt (F.slot rfl) (by omega)) (fun a F => ?_)
    refine q2 (o_s 17 (.load 33 (.tmp 16)) 33 (by kernel_rfl)) F (by decide) (v := .agg (txc t A7 c7 A8 c8).toArray) (x_loadN (Tryd.isAgg33 W) (txc t A7 c7 A8 c8) (Tryd.sizeOf33 W) (F.slot rfl) (clnz (H.get 5 rfl) _ rfl)) (fun a F => ?_)
    refine sqc (o_s 18 (.call { callee := (.value (.func 19)), args := #[(.tmp 17)], argTypes := #[33] }) 33 (by kernel_rfl)) trivial F (by decide) (x_call Tryd.func19 (by kernel_rfl) rfl (args_1 (F.slot rfl))) (ownF_calls t A7 A8 c7 c8 W (H.rd 4 rfl) (hL t (List.mem_of_getElem? htt)).1 (hL t (List.mem_of_getElem? htt)).2) ?_
    rintro e W ⟨B7, d7, B8, d8, rfl, hF, hB⟩
    refine ⟨_, rfl, fun a F => ?_⟩
    have H := H.freshF hB _ _ hF (fun k hk => hk)
    have H : St w (fun _ => False) (fun _ => True) [Asn.rd k33 (fun k => k < w.heap.size) A l.length l, Asn.blk g1 [.int .i64 au, .int .i64 n, .slice A l.length c] 40, Asn.blk g2 [.int .i64 0, .int .i64 0, .slice none 0 0] 40, Asn.qu k33 33 (.slice A1 ((l.take i).length) c1) (l.take i) ok1, Asn.fk k33 (fun k => k < w.heap.size) t (txc t A7 c7 A8 c8), Asn.cl (adt.add (i * 9)) (txc t A7 c7 A8 c8) (fun k => k < w.heap.size), Asn.fk k33 _ t (txc t B7 d7 B8 d8)] W := H
    refine ⟨(fun _ => trivial), ?_⟩
    refine sq_bapp k33 3 6 (by decide) (o_s 19 (.buildSlice 38 1 #[(0, (.tmp 18))]) 38 (by kernel_rfl)) trivial (o_s 20 (.call { callee := (.builtin .append), args := #[(.tmp 12), (.tmp 19)], argTypes := #[38, 38] }) 38 (by kernel_rfl)) (fun _ => trivial) F (by decide) (by decide) rfl (fun a F => F.slot rfl) (F.slot rfl) rfl Tryd.underlying38 PB.info33 rfl (by decide) (by decide) (by decide) H rfl rfl (by omega) (fun W H => (fun _ => trivial)) ?_
    intro v_ W a H F
    obtain ⟨A2, c2, rfl, hc2⟩ := (H.qu 3 rfl).form
    have H : St w (fun _ => False) (fun _ => True) [Asn.rd k33 (fun k => k < w.heap.size) A l.length l, Asn.blk g1 [.int .i64 au, .int .i64 n, .slice A l.length c] 40, Asn.blk g2 [.int .i64 0, .int .i64 0, .slice none 0 0] 40, Asn.qu k33 33 (.slice A2 ((l.take i ++ [t]).length) c2) (l.take i ++ [t]) _, Asn.fk k33 (fun k => k < w.heap.size) t (txc t A7 c7 A8 c8), Asn.cl (adt.add (i * 9)) (txc t A7 c7 A8 c8) (fun k => k < w.heap.size), Asn.fk k33 _ t (txc t B7 d7 B8 d8)] W := H
    refine ⟨(fun _ => trivial), ?_⟩
    refine q2 (o_s 3 (.assign (.tmp 20)) 38 (by kernel_rfl)) F (by decide) (v := .slice A2 ((l.take i ++ [t]).length) c2) (x_assign (F.slot rfl)) (fun a F => ?_)
    unfold wpSeq
    refine b_normal ?_
    refine t_normal ?_
    refine c_text (id := 4) (by kernel_rfl) [(0, 2), (1, 2), (2, 2)] (by kernel_rfl) ?_
    refine q2 (o_s 10 (.move (.tmp 4)) 3 (by kernel_rfl)) F (by decide) (x_move (F.slot rfl)) (fun a F => ?_)
    refine q2 (o_s 11 (.binOp .add 3 (.tmp 10) (.const (.int .i64 1)) 3) 3 (by kernel_rfl)) F (by decide) (v := .int .i64 (IntKind.i64.wrap ((i : Int) + 1))) (x_int (F.slot rfl) rfl rfl) (fun a F => ?_)
    have F := F.conv (v' := .int .i64 ((i : Int) + 1)) (congrArg (Value.int .i64) (wrap_i64 _ (by omega) (by omega)))
    refine q2 (o_s 4 (.assign (.tmp 11)) 3 (by kernel_rfl)) F (by decide) (v := .int .i64 ((i : Int) + 1)) (x_assign (F.slot rfl)) (fun a F => ?_)
    unfold wpSeq
    refine t_normal ?_
    have F_ := F
    have H := H.front 4
    rw [← hnx] at H
    have F := F.at 4 rfl (v' := .int .i64 ((i + 1 : Nat) : Int)) (congrArg (Value.int .i64) (by omega))
    have F := F.at 3 rfl (v' := .slice A2 (l.take (i + 1)).length c2) (by rw [hnx])
    exact ⟨k - 1, by omega, i + 1, A2, c2, _, F.less _ (subc rfl (subc rfl (subc rfl (subc rfl (subc rfl sub0))))), H, (by omega), (by omega), (fun k hk => hk.elim (hok1 k) (fun h => Nat.le_trans hsz h.1))⟩
  · have hb3d := of_decide_eq_false hb3
    have F := F.at 9 rfl (v' := .bool false) (congrArg Value.bool hb3)
    refine c_no (c := .tmp 9) (by kernel_rfl) (F.slot rfl) ?_
    refine c_exit (id := 0) (by kernel_rfl) ?_
    refine t_exit ?_
    refine t_exit ?_
    refine b_here ?_
    refine t_normal ?_
    refine c_seq (by kernel_rfl) ?_
    obtain rfl : i = l.length := by omega
    rw [List.take_length] at H F
    have H : St w (fun _ => False) (fun _ => True) [Asn.rd k33 (fun k => k < w.heap.size) A l.length l, Asn.blk g1 [.int .i64 au, .int .i64 n, .slice A l.length c] 40, Asn.blk g2 [.int .i64 0, .int .i64 0, .slice none 0 0] 40, Asn.qu k33 33 (.slice A1 (l.length) c1) l ok1] W := H
    refine c_text (id := 6) (by kernel_rfl) [(0, 2), (1, 2), (2, 2)] (by kernel_rfl) ?_
    refine q2 (o_s 21 (.move (.tmp 3)) 38 (by kernel_rfl)) F (by decide) (x_move (F.slot rfl)) (fun a F => ?_)
    refine q2 (o_s 22 (.fieldAddr 40 (.tmp 1) 2) 0 (by kernel_rfl)) F (by decide) (v := .pointer (some ⟨g1, 2, none⟩)) (x_field0 Tryd.underlying40 rfl rfl (Tryd.sizeOf38 W) (F.slot rfl)) (fun a F => ?_)
    refine sq_put (M := [Asn.rd k33 (fun k => k < w.heap.size) A l.length l, Asn.blk g1 [.int .i64 au, .int .i64 n, .slice A1 l.length c1] 40, Asn.blk g2 [.int .i64 0, .int .i64 0, .slice none 0 0] 40, Asn.qu k33 33 (.slice A1 (l.length) c1) l ok1]) (o_n (.store 38 (.tmp 22) (.tmp 21)) 0 (by kernel_rfl)) trivial F (x_store H (k := 1) (cs' := [.int .i64 au, .int .i64 n, .slice A1 l.length c1]) rfl (Tryd.sizeOf38 W) (F.slot rfl) (F.slot rfl) rfl (Nat.le_of_ble_eq_true rfl) rfl rfl) ?_
    intro W H
    refine ⟨(fun _ => trivial), ?_⟩
    unfold wpSeq
    refine t_normal ?_
    refine c_seq (by kernel_rfl) ?_
    refine c_text (id := 7) (by kernel_rfl) [(0, 2), (1, 2)] (by kernel_rfl) ?_
    refine q2 (o_s 23 (.load 40 (.tmp 1)) 40 (by kernel_rfl)) F (by decide) (v := .agg #[.int .i64 au, .int .i64 n, .slice A1 l.length c1]) (x_loadB (Tryd.isAgg40 W) [.int .i64 au, .int .i64 n, .slice A1 l.length c1] (Tryd.sizeOf40 W) (F.slot rfl) (H.blk 1 rfl)) (fun a F => ?_)
    refine sq_put (M := [Asn.rd k33 (fun k => k < w.heap.size) A l.length l, Asn.blk g1 [.int .i64 au, .int .i64 n, .slice A1 l.length c1] 40, Asn.blk g2 [.int .i64 au, .int .i64 n, .slice A1 l.length c1] 40, Asn.qu k33 33 (.slice A1 (l.length) c1) l ok1]) (o_n (.store 40 (.tmp 2) (.tmp 23)) 0 (by kernel_rfl)) trivial F (x_store H (k := 2) (cs' := [.int .i64 au, .int .i64 n, .slice A1 l.length c1]) rfl (Tryd.sizeOf40 W) (F.slot rfl) (F.slot rfl) rfl (Nat.le_of_ble_eq_true rfl) rfl rfl) ?_
    intro W H
    refine ⟨(fun _ => trivial), ?_⟩
    unfold wpSeq
    refine t_normal ?_
    refine c_ret (by kernel_rfl) ?_
    refine p_cell Tryd.results30 F rfl (H.blk 2 rfl) (Tryd.isAgg40 W) (Tryd.sizeOf40 W) ?_
    exact ⟨A1, c1, rfl, (H.qu 3 rfl).read.2.1, H.quOut 3 rfl hok1, H.ends⟩
end Go.Proofs.YtndicjikjcifaaaDoor

/- The sealers' answers, case by case; an operation (a tick, or a transaction to add) as it came in; Own's copies and what they lead to. -/
namespace Go.Proofs.YtndicjikjcifaaaDoor
open Go.RowKit Go.Proofs.YtndicjikjcifaaaDoorW.PrintWords Go.Proofs.YtndicjikjcifaaaDoorW.PrintLast
open PB (S33 k33)
set_option linter.unusedVariables false
set_option linter.unusedSimpArgs false
abbrev sl6 (a0 s0 t0 : Int) (A : Option Addr) (n c : Nat) (k0 n0 : Int) : List Value := [.int .i64 a0, .int .i64 s0, .int .i64 t0, .slice A n c, .int .i64 k0, .int .i64 n0]
section
variable {T : TypeId} {z a0 s0 t0 k0 n0 : Int} {g : Nat} {A : Option Addr} {c : Nat} {xs : List S33} {ok : Nat → Prop} {t : S33} {w : World} {Sf Rf : Nat → Prop} {M : List Asn} {e : Ending} {W : World}
theorem AddP.no (h : AddP T z g a0 s0 t0 k0 n0 A c xs ok t w Sf Rf M e W) (hz : z ≠ 0) : e = .returned (.int .i64 z) ∧ St w Sf Rf (Asn.blk g (sl6 a0 s0 t0 A xs.length c k0 n0) T :: Asn.qu k33 33 (.slice A xs.length c) xs ok :: M) W := by
  rcases h with ⟨_, h1, h2⟩ | ⟨h0, _⟩ | ⟨h0, _⟩
  · exact ⟨h1, h2⟩
  · exact absurd h0 hz
  · exact absurd h0 hz
theorem Ticked.none (h : Ticked g a0 s0 t0 k0 n0 A c xs ok w Sf Rf e W) (h0 : xs.length = 0) : e = .returned (.tuple #[.agg #[.int .i64 0, .int .i64 0, .slice Option.none 0 0], .bool false]) ∧ St w Sf Rf [Asn.blk g (sl6 a0 s0 t0 A xs.length c k0 n0) 72, Asn.qu k33 33 (.slice A xs.length c) xs ok] W := by
  rcases h with ⟨_, h1, h2⟩ | ⟨h1, _⟩ | ⟨h1, _⟩
  · exact ⟨h1, h2⟩
  · exact absurd h0 h1
  · exact absurd h0 h1
theorem RTicked.none (h : RTicked g a0 s0 t0 k0 n0 A c xs ok w Sf Rf e W) (h0 : xs.length = 0) : e = .returned (.tuple #[.agg #[.int .i64 0, .int .i64 0, .slice Option.none 0 0], .bool false]) ∧ St w Sf Rf [Asn.blk g (sl6 a0 s0 t0 A xs.length c k0 n0) 46, Asn.qu k33 33 (.slice A xs.length c) xs ok] W := by
  rcases h with ⟨_, h1, h2⟩ | ⟨h1, _⟩ | ⟨h1, _⟩
  · exact ⟨h1, h2⟩
  · exact absurd h0 h1
  · exact absurd h0 h1
theorem SealNew.is (h : SealNew T a0 s0 t0 w e W) (hk : SealOk a0 s0 t0) : ∃ g, e = .returned (.tuple #[.pointer (some ⟨g, 0, none⟩), .int .i64 0]) ∧ w.heap.size ≤ g ∧ W.heap[g]? = some (.cells (sl6 a0 s0 t0 Option.none 0 0 0 0).toArray T (0, 0)) ∧ Below w.heap.size w W := h.1 hk
theorem SealNew.no (h : SealNew T a0 s0 t0 w e W) (hk : ¬ SealOk a0 s0 t0) : e = .returned (.tuple #[.pointer Option.none, .int .i64 2]) ∧ Below w.heap.size w W := h.2 hk
theorem St.newBlk {w W W' : World} {S R : Nat → Prop} {M : List Asn} {g : Nat} {cs : List Value} {T : TypeId} (H : St w S R M W) (hb : Below W.heap.size W W') (hg : W.heap.size ≤ g) (h : W'.heap[g]? = some (.cells cs.toArray T (0, 0))) : St w S R (M ++ [Asn.blk g cs T]) W' :=
  H.fresh hb _ h (fun k hk => by
    rcases hk with hk | hk
    · exact (show k = g from hk) ▸ ⟨hg, blk_lt h⟩
    · cases hk)
end
end Go.Proofs.YtndicjikjcifaaaDoor

/- Literals of one-cell elements; the laws' own transaction. -/
namespace Go.Proofs.YtndicjikjcifaaaDoor
open Go.RowKit Go.Proofs.YtndicjikjcifaaaDoorW.PrintWords Go.Proofs.YtndicjikjcifaaaDoorW.PrintLast
open PB (S33 k33)
set_option linter.unusedVariables false
set_option linter.unusedSimpArgs false
section
variable {P : Program} {T : TypeId}
theorem run_lit1 {t : TypeId} {bytes : Nat} {z : Value} (hu : P.underlying t = some (.slice T)) (hi : (P.info? T).map (fun i => (i.zero, i.size, i.bytes)) = some (some z, 1, bytes)) (hz : z.cells.size = 1) (vs : List Value) (h1 : ∀ v ∈ vs, v.cells = #[v]) (h0 : 0 < vs.length) (hm : vs.length ≤ 16777216) (parts : Array (Nat × Value))
    (hp : parts.toList = (vs.zipIdx 0).map fun x => (x.2, x.1)) (W : World) :
    (Instr.buildSlice t vs.length parts).run P W = .ok (.slice (some ⟨W.heap.size, 0, none⟩) vs.length vs.length) (W.alloc (.cells vs.toArray T)) := by
  cases hie : P.info? T with
  | none => simp [hie] at hi
  | some ie =>
    simp only [hie, Option.map_some, Option.some.injEq, Prod.mk.injEq] at hi
    obtain ⟨e1, e2, e3⟩ := hi
    refine run_buildSlice W t T vs.length _ vs.toArray ie z hu hie e1 (by rw [e2]; omega) (by rw [e2]; omega) ?_
    rw [e2, hp]
    exact Great.fill_flat vs _ h1 (by simp)
end
section
variable {P : Program} {ops : Array Oper} {Q : Exit → Act → World → Prop} {V : World → Prop} {ds : List Nat} {π : List (Nat × Nat)} {a : Act} {W W' w : World} {n i d1 m : Nat} {L : List (Nat × Value)} {ty t T : TypeId} {S R : Nat → Prop} {M : List Asn}
theorem sq_lit {g : Option (Nat × Bool)} {z : Value} {bytes : Nat} {parts : Array (Nat × Operand)} (vs : List Value) (hi : (ops[i]?).map sk = some (some d1, .buildSlice t m parts, ty, g)) (hg : On ops L g) (F : Fr n L a) (hd : d1 < n) (hm : m = vs.length)
    (ht : P.underlying t = some (.slice T)) (hinfo : (P.info? T).map (fun i => (i.zero, i.size, i.bytes)) = some (some z, 1, bytes)) (hz : z.cells.size = 1) (h1 : ∀ v ∈ vs, v.cells = #[v]) (h0 : 0 < vs.length) (hs : vs.length ≤ 16777216)
    (hp : (parts.map fun (i, x) => (i, a.eval x)).toList = (vs.zipIdx 0).map fun x => (x.2, x.1)) (H : St w S R M W)
    (h : ∀ b W' a', w.heap.size ≤ b → St w S R (M ++ [Asn.blk b vs T]) W' → Fr n ((d1, .slice (some ⟨b, 0, none⟩) m m) :: L) a' → (i ∉ ds → V W') ∧ wpSeq P ops Q V ds π a' W') : wpSeq P ops Q V ds ((i, 2) :: π) a W := by
  subst hm
  have hh := fun a' => h W.heap.size (W.alloc (.cells vs.toArray T)) a' H.low.size (H.alloc vs T)
  refine sqw hi hg F fun o K ho hK => ?_
  obtain ⟨e1, e2, e3⟩ := sk_eq ho
  unfold Oper.wp execOp
  rw [e2]
  have := run_lit1 (P := P) ht hinfo hz vs h1 h0 hs _ hp W
  simp only [this, Sem.run_bind, Result.andThen_ok]
  have q := hh _ (F.put d1 hd _)
  rw [← e1] at q
  exact hK _ _ q.1 q.2
end
end Go.Proofs.YtndicjikjcifaaaDoor

/- tuskref02.round, mixed. -/
namespace Go.Proofs.YtndicjikjcifaaaDoor
open Go.RowKit Go.Proofs.YtndicjikjcifaaaDoorW.PrintWords Go.Proofs.YtndicjikjcifaaaDoorW.PrintLast Bl
set_option linter.unusedVariables false
set_option linter.unusedSimpArgs false
theorem bits_xor (x y : B32) : bits .xor .u32 (x.toNat : Int) (y.toNat : Int) = ((x ^^^ y).toNat : Int) := by
  show IntKind.u32.wrap ((BitVec.ofInt 32 (x.toNat : Int) ^^^ BitVec.ofInt 32 (y.toNat : Int)).toNat : Int) = _
  rw [ofInt_u, ofInt_u]; exact wrap_toNat _
theorem bits_or (x y : B32) : bits .or .u32 (x.toNat : Int) (y.toNat : Int) = ((x ||| y).toNat : Int) := by
  show IntKind.u32.wrap ((BitVec.ofInt 32 (x.toNat : Int) ||| BitVec.ofInt 32 (y.toNat : Int)).toNat : Int) = _
  rw [ofInt_u, ofInt_u]; exact wrap_toNat _
theorem div_shr (x : B32) (n : Nat) : (x.toNat : Int) / (2 ^ n : Nat) = ((x >>> n).toNat : Int) := by
  rw [BitVec.toNat_ushiftRight, Nat.shiftRight_eq_div_pow]; rfl
theorem mul_shl (x : B32) (n : Nat) : (x.toNat : Int) * (2 ^ n : Nat) % 4294967296 = ((x <<< n).toNat : Int) := by
  rw [BitVec.toNat_shiftLeft, Nat.shiftLeft_eq]; omega
def pl (x y : B32) : B32 := x + y
def xr (x y : B32) : B32 := x ^^^ y
theorem rround16 (x : B32) (w : World) : Calls Tryd.prog 140 #[u x, .int .i64 16] w fun e w' => e = .returned (u (rotr x 16)) ∧ Drawn0 w w' := by
  have h : bits .or .u32 ((x.toNat : Int) / 65536) ((x.toNat : Int) * 65536 % 4294967296) = ((rotr x 16).toNat : Int) := by
    have h1 := div_shr x 16
    have h2 := mul_shl x (32 - 16)
    simp only [Nat.reducePow, Nat.reduceSub] at h1 h2
    exact (congr (congrArg _ h1) h2).trans (bits_or _ _)
  have H := Lib.hid h
  clear h
  go_enter Tryd.func140, Tryd.ntmps140
  go_wp2
  go_quiet (fail)
  go_wp2
  rw [H.out]
  go_ret
  exact ⟨rfl, ⟨⟨nq, rfl⟩⟩⟩
theorem rround12 (x : B32) (w : World) : Calls Tryd.prog 140 #[u x, .int .i64 12] w fun e w' => e = .returned (u (rotr x 12)) ∧ Drawn0 w w' := by
  have h : bits .or .u32 ((x.toNat : Int) / 4096) ((x.toNat : Int) * 1048576 % 4294967296) = ((rotr x 12).toNat : Int) := by
    have h1 := div_shr x 12
    have h2 := mul_shl x (32 - 12)
    simp only [Nat.reducePow, Nat.reduceSub] at h1 h2
    exact (congr (congrArg _ h1) h2).trans (bits_or _ _)
  have H := Lib.hid h
  clear h
  go_enter Tryd.func140, Tryd.ntmps140
  go_wp2
  go_quiet (fail)
  go_wp2
  rw [H.out]
  go_ret
  exact ⟨rfl, ⟨⟨nq, rfl⟩⟩⟩
theorem rround8 (x : B32) (w : World) : Calls Tryd.prog 140 #[u x, .int .i64 8] w fun e w' => e = .returned (u (rotr x 8)) ∧ Drawn0 w w' := by
  have h : bits .or .u32 ((x.toNat : Int) / 256) ((x.toNat : Int) * 16777216 % 4294967296) = ((rotr x 8).toNat : Int) := by
    have h1 := div_shr x 8
    have h2 := mul_shl x (32 - 8)
    simp only [Nat.reducePow, Nat.reduceSub] at h1 h2
    exact (congr (congrArg _ h1) h2).trans (bits_or _ _)
  have H := Lib.hid h
  clear h
  go_enter Tryd.func140, Tryd.ntmps140
  go_wp2
  go_quiet (fail)
  go_wp2
  rw [H.out]
  go_ret
  exact ⟨rfl, ⟨⟨nq, rfl⟩⟩⟩
theorem rround7 (x : B32) (w : World) : Calls Tryd.prog 140 #[u x, .int .i64 7] w fun e w' => e = .returned (u (rotr x 7)) ∧ Drawn0 w w' := by
  have h : bits .or .u32 ((x.toNat : Int) / 128) ((x.toNat : Int) * 33554432 % 4294967296) = ((rotr x 7).toNat : Int) := by
    have h1 := div_shr x 7
    have h2 := mul_shl x (32 - 7)
    simp only [Nat.reducePow, Nat.reduceSub] at h1 h2
    exact (congr (congrArg _ h1) h2).trans (bits_or _ _)
  have H := Lib.hid h
  clear h
  go_enter Tryd.func140, Tryd.ntmps140
  go_wp2
  go_quiet (fail)
  go_wp2
  rw [H.out]
  go_ret
  exact ⟨rfl, ⟨⟨nq, rfl⟩⟩⟩
set_option maxHeartbeats 1000000 in
set_option maxRecDepth 100000 in
theorem rmixed (a b c d x y : B32) (w : World) : Calls Tryd.prog 126 #[u a, u b, u c, u d, u x, u y] w fun e w' =>
    e = .returned (.tuple #[u (mixF a b c d x y).1, u (mixF a b c d x y).2.1, u (mixF a b c d x y).2.2.1, u (mixF a b c d x y).2.2.2]) ∧ Drawn0 w w' := by
  have hx : ∀ p q : B32, bits .xor .u32 (p.toNat : Int) (q.toNat : Int) = ((xr p q).toNat : Int) := bits_xor
  have ha : ∀ p q : B32, ((p.toNat : Int) + (q.toNat : Int)) % 4294967296 = ((pl p q).toNat : Int) := mod_add
  go_enter Tryd.func126, Tryd.ntmps126
  go_wp2_with (first
    | (go_at_call 140; ((with_reducible refine (rround16 _ _).mono ?_); rintro e w1 ⟨rfl, ⟨⟨n1, rfl⟩⟩⟩))
    | (go_at_call 140; ((with_reducible refine (rround12 _ _).mono ?_); rintro e w1 ⟨rfl, ⟨⟨n1, rfl⟩⟩⟩))
    | (go_at_call 140; ((with_reducible refine (rround8 _ _).mono ?_); rintro e w1 ⟨rfl, ⟨⟨n1, rfl⟩⟩⟩))
    | (go_at_call 140; ((with_reducible refine (rround7 _ _).mono ?_); rintro e w1 ⟨rfl, ⟨⟨n1, rfl⟩⟩⟩)))
  refine bodyPost_ret (results_list (rs := [.tmp 12, .tmp 13, .tmp 14, .tmp 15]) rfl (by simp) (.tmp (.tmp (.tmp (.tmp .nil))))) rfl ?_
  exact ⟨rfl, ⟨⟨_, rfl⟩⟩⟩
end Go.Proofs.YtndicjikjcifaaaDoor

/- The document's digest: its words, block by block. Plain lemmas, and the steps that make and cut slices. -/
namespace Go.Proofs.YtndicjikjcifaaaDoor
open Go.RowKit Go.Proofs.YtndicjikjcifaaaDoorW.PrintWords Go.Proofs.YtndicjikjcifaaaDoorW.PrintLast Bl
set_option linter.unusedVariables false
set_option linter.unusedSimpArgs false
def placesL : List Nat := [0, 4, 8, 12, 1, 5, 9, 13, 2, 6, 10, 14, 3, 7, 11, 15, 0, 5, 10, 15, 1, 6, 11, 12, 2, 7, 8, 13, 3, 4, 9, 14]
def plF (i : Nat) : Nat := placesL.getD i 0
def plV : List Value := (List.range 32).map fun i => .int .i64 (plF i : Int)
theorem pl_at {i : Nat} (h : i < 32) : plV[i]? = some (.int .i64 (plF i : Int)) := by simp [plV, h]
theorem plF_lt (i : Nat) : plF i < 16 := by
  have h : ∀ x ∈ placesL, x < 16 := by decide
  unfold plF
  rw [List.getD_eq_getElem?_getD]
  cases h1 : placesL[i]? with
  | none => simp
  | some x => simpa using h x (List.mem_of_getElem? h1)
theorem plF_ne : ∀ k, k < 8 → plF (4 * k) ≠ plF (4 * k + 1) ∧ plF (4 * k) ≠ plF (4 * k + 2) ∧ plF (4 * k) ≠ plF (4 * k + 3) ∧ plF (4 * k + 1) ≠ plF (4 * k + 2) ∧ plF (4 * k + 1) ≠ plF (4 * k + 3) ∧ plF (4 * k + 2) ≠ plF (4 * k + 3) := by decide
def qsteps (m : Words) (r : Nat → Nat) : Nat → Words → Words
  | 0, W => W
  | k + 1, W => quad (plF (4 * k)) (plF (4 * k + 1)) (plF (4 * k + 2)) (plF (4 * k + 3)) (m (r (2 * k))) (m (r (2 * k + 1))) (qsteps m r k W)
theorem quad_upd (p q k l : Nat) (x y : B32) (W : Words) (h1 : p ≠ q) (h2 : p ≠ k) (h3 : p ≠ l) (h4 : q ≠ k) (h5 : q ≠ l) (h6 : k ≠ l) :
    upd (upd (upd (upd W p (mixF (W p) (W q) (W k) (W l) x y).1) q (mixF (W p) (W q) (W k) (W l) x y).2.1) k (mixF (W p) (W q) (W k) (W l) x y).2.2.1) l (mixF (W p) (W q) (W k) (W l) x y).2.2.2 = quad p q k l x y W := by
  funext j
  unfold quad upd
  by_cases j1 : j = p
  · subst j1; simp [h1, h2, h3]
  · by_cases j2 : j = q
    · subst j2; simp [h4, h5, j1]
    · by_cases j3 : j = k
      · subst j3; simp [h6, j1, j2]
      · by_cases j4 : j = l
        · subst j4; simp [j1, j2, j3]
        · simp [j1, j2, j3, j4]
theorem qsteps_succ (m : Words) (r : Nat → Nat) (k : Nat) (hk : k < 8) (W V : Words) (hV : V = qsteps m r k W) :
    upd (upd (upd (upd V (plF (4 * k)) (mixF (V (plF (4 * k))) (V (plF (4 * k + 1))) (V (plF (4 * k + 2))) (V (plF (4 * k + 3))) (m (r (2 * k))) (m (r (2 * k + 1)))).1) (plF (4 * k + 1)) (mixF (V (plF (4 * k))) (V (plF (4 * k + 1))) (V (plF (4 * k + 2))) (V (plF (4 * k + 3))) (m (r (2 * k))) (m (r (2 * k + 1)))).2.1)
      (plF (4 * k + 2)) (mixF (V (plF (4 * k))) (V (plF (4 * k + 1))) (V (plF (4 * k + 2))) (V (plF (4 * k + 3))) (m (r (2 * k))) (m (r (2 * k + 1)))).2.2.1) (plF (4 * k + 3)) (mixF (V (plF (4 * k))) (V (plF (4 * k + 1))) (V (plF (4 * k + 2))) (V (plF (4 * k + 3))) (m (r (2 * k))) (m (r (2 * k + 1)))).2.2.2 = qsteps m r (k + 1) W := by
  obtain ⟨a, b, c, d, e, f⟩ := plF_ne k hk
  subst hV
  exact quad_upd _ _ _ _ _ _ _ a b c d e f
def part (F : Words) (n : Nat) : Words := fun j => if j < n then F j else 0
theorem part_succ (F : Words) (n : Nat) : upd (part F n) n (F n) = part F (n + 1) := by
  funext j
  unfold upd part
  by_cases h : j = n
  · subst h; rw [if_pos rfl, if_pos (by omega)]
  · rw [if_neg h]
    by_cases h2 : j < n
    · rw [if_pos h2, if_pos (by omega)]
    · rw [if_neg h2, if_neg (by omega)]
theorem part_all (F : Words) (n : Nat) : wsN n (part F n) = wsN n F := wsN_congr fun j hj => if_pos hj
def start0 (h : Words) : Words := fun j => if j < 8 then h j else firstsF (j - 8)
theorem xor_ones (x : B32) : x ^^^ 0xFFFFFFFF#32 = ~~~x := by
  rw [show (0xFFFFFFFF#32 : B32) = BitVec.allOnes 32 from rfl, BitVec.xor_allOnes]
theorem start2 (h : Words) (t : B32) (last : Bool) (j : Nat) (hj : j < 16) :
    (if last = true then upd (upd (start0 h) 12 (start0 h 12 ^^^ t)) 14 (upd (start0 h) 12 (start0 h 12 ^^^ t) 14 ^^^ 0xFFFFFFFF#32) else upd (start0 h) 12 (start0 h 12 ^^^ t)) j = startF h t last j := by
  have e12 : start0 h 12 = firstsF 4 := rfl
  have e14 : upd (start0 h) 12 (start0 h 12 ^^^ t) 14 = firstsF 6 := rfl
  rw [e14, e12, xor_ones]
  unfold startF upd start0
  cases last <;> by_cases a : j < 8 <;> by_cases b : j = 12 <;> by_cases c : j = 14 <;> first | (exfalso; omega) | (subst b; rfl) | (subst c; rfl) | simp [a, b, c]
def outW (h V : Words) : Words := fun j => h j ^^^ V j ^^^ V (j + 8)
theorem outW_block (h : Words) (s : List UInt8) (t : Int) (last : Bool) : outW h (rounds (loadF s) 10 (startF h (BitVec.ofInt 32 t) last)) = blockF h s t last := by
  funext j
  exact BitVec.xor_assoc _ _ _
theorem num4_cut (s : ByteArray) (i : Nat) (h : 4 * i + 4 ≤ s.size) : num4 (s.extract (4 * i) (4 * i + 4)).toList 0 = loadF s.toList i := by
  rw [← num4_eq]
  have e : ∀ k, k < 4 → by8 (s.extract (4 * i) (4 * i + 4)).toList k = by8 s.toList (4 * i + k) := by
    intro k hk
    unfold by8
    rw [Lib.extract_toList, ← Lib.toList_data, List.getD_eq_getElem?_getD, List.getD_eq_getElem?_getD, List.getElem?_take, if_pos (by omega), List.getElem?_drop]
  unfold num4
  rw [e 0 (by omega), show 0 + 1 = 1 from rfl, show 0 + 2 = 2 from rfl, show 0 + 3 = 3 from rfl, e 1 (by omega), e 2 (by omega), e 3 (by omega), Nat.add_zero]
def mid (pre post : List Value) (F : Words) : List Value := pre ++ (wsN 16 F ++ post)
theorem mid_at {pre post : List Value} {F : Words} {o : Nat} (ho : pre.length = o) {i : Nat} (h : i < 16) : (mid pre post F)[o + i]? = some (u (F i)) := by
  subst ho
  unfold mid
  rw [List.getElem?_append_right (by omega), Nat.add_sub_cancel_left, List.getElem?_append_left (by rw [wsN_len]; exact h), ws_at _ h]
theorem mid_upd {pre post : List Value} {F : Words} {o : Nat} (ho : pre.length = o) {i : Nat} (h : i < 16) (v : B32) : (mid pre post F).set (o + i) (u v) = mid pre post (upd F i v) := by
  subst ho
  unfold mid
  rw [List.set_append_right _ _ (by omega), Nat.add_sub_cancel_left, List.set_append_left _ _ (by rw [wsN_len]; exact h), ws_upd _ h]
theorem mid_lt {pre post : List Value} {F : Words} {o : Nat} (ho : pre.length = o) {i : Nat} (h : i < 16) : o + i < (mid pre post F).length := by
  subst ho
  unfold mid
  rw [List.length_append, List.length_append, wsN_len]
  omega
theorem mid_congr {pre post : List Value} {F G : Words} (h : ∀ j, j < 16 → F j = G j) : mid pre post F = mid pre post G := by
  unfold mid; rw [wsN_congr h]
theorem args_6 {a : Act} {x y z q p p2 : Operand} {v u r s t t2 : Value} (h : a.eval x = v) (h' : a.eval y = u) (h'' : a.eval z = r) (h3 : a.eval q = s) (h4 : a.eval p = t) (h5 : a.eval p2 = t2) : (#[x, y, z, q, p, p2] : Array Operand).map a.eval = #[v, u, r, s, t, t2] := by simp [h, h', h'', h3, h4, h5]
def RowsAt (gr : Nat) (G : Nat → Nat) (T TI : TypeId) (W : World) : Prop :=
  W.heap[gr]? = some (.cells ((List.range 10).map fun i => Value.slice (some ⟨G i, 0, none⟩) 16 16).toArray T (0, 0)) ∧ ∀ i, i < 10 → W.heap[G i]? = some (.cells (rs (rowF i)).toArray TI (0, 0))
def kW : Kd B32 := Kd.scalar (fun x : B32 => u x) (fun _ => rfl)
section
variable {P : Program} {a : Act} {W : World} {x y : Operand} {t yt ty : TypeId}
theorem x_ix0 {s e : TypeId} {k : IntKind} {g i n c : Nat} {j : Int} (hu : P.underlying s = some (.slice e)) (hz : (sizeOf e).run P W = .ok 1 W) (hx : a.eval x = .slice (some ⟨g, 0, none⟩) n c) (hy : a.eval y = .int k j) (hj : j = (i : Int)) (h : i < n) :
    (ex a (.indexAddr s x y) ty).run P W = .ok (.value (.pointer (some ⟨g, i, none⟩))) W := by
  subst hj
  have := x_indexSl1 (P := P) (ty := ty) hu hz hx hy (Int.natCast_nonneg i) (by omega)
  rw [addo, Int.toNat_natCast, Nat.zero_add] at this
  exact this
theorem x_ixo {s e : TypeId} {k : IntKind} {g o i n c : Nat} {j : Int} (hu : P.underlying s = some (.slice e)) (hz : (sizeOf e).run P W = .ok 1 W) (hx : a.eval x = .slice (some ⟨g, o, none⟩) n c) (hy : a.eval y = .int k j) (hj : j = (i : Int)) (h : i < n) :
    (ex a (.indexAddr s x y) ty).run P W = .ok (.value (.pointer (some ⟨g, o + i, none⟩))) W := by
  subst hj
  have := x_indexSl1 (P := P) (ty := ty) hu hz hx hy (Int.natCast_nonneg i) (by omega)
  rw [addo, Int.toNat_natCast] at this
  exact this
theorem fcell {g : Nat} {cs : List Value} {T : TypeId} {i : Nat} {v : Value} (hb : W.heap[g]? = some (.cells cs.toArray T (0, 0))) (h : cs[i]? = some v) : W.cell? ⟨g, i, none⟩ = some v := bcell hb h
end
section
variable {P : Program} {ops : Array Oper} {Q : Exit → Act → World → Prop} {V : World → Prop} {ds : List Nat} {π : List (Nat × Nat)} {a : Act} {W W' w : World} {n i d1 m : Nat} {L : List (Nat × Value)} {ty t T : TypeId} {S R : Nat → Prop} {M : List Asn}
theorem madeCells_one {z : Value} (hz : z.cells = #[z]) (m : Nat) : madeCells z.cells m = (List.replicate m z).toArray := by
  apply Array.ext'
  apply List.ext_getElem?
  intro j
  by_cases hj : j < m
  · simp [madeCells, hz, Array.getElem?_toList, hj, Nat.mod_one]
  · simp [madeCells, hz, Array.getElem?_toList, hj]
theorem sq_make {g : Option (Nat × Bool)} {z : Value} {bytes : Nat} {x y : Operand} {q : Nat} (hi : (ops[i]?).map sk = some (some d1, .makeSlice t x y, ty, g)) (hg : On ops L g) (F : Fr n L a) (hd : d1 < n) (hx : a.eval x = .int .i64 (q : Int)) (hy : a.eval y = .int .i64 (q : Int))
    (ht : P.underlying t = some (.slice T)) (hinfo : (P.info? T).map (fun i => (i.zero, i.size, i.bytes)) = some (some z, 1, bytes)) (hz : z.cells = #[z]) (hs : q ≤ 1000) (hbt : bytes ≤ 1000) (H : St w S R M W)
    (h : ∀ b W' a', w.heap.size ≤ b → St w S R (M ++ [Asn.blk b (List.replicate q z) T]) W' → Fr n ((d1, .slice (some ⟨b, 0, none⟩) q q) :: L) a' → (i ∉ ds → V W') ∧ wpSeq P ops Q V ds π a' W') : wpSeq P ops Q V ds ((i, 2) :: π) a W := by
  have hh := fun a' => h W.heap.size (W.alloc (.cells (List.replicate q z).toArray T)) a' H.low.size (H.alloc _ T)
  refine sqw hi hg F fun o K ho hK => ?_
  obtain ⟨e1, e2, e3⟩ := sk_eq ho
  unfold Oper.wp execOp
  rw [e2]
  cases hie : P.info? T with
  | none => simp [hie] at hinfo
  | some ie =>
    simp only [hie, Option.map_some, Option.some.injEq, Prod.mk.injEq] at hinfo
    obtain ⟨f1, f2, f3⟩ := hinfo
    have hb : (ie.bytes : Int) * (q : Int) ≤ 281474976710656 := by
      rw [f3]
      have : bytes * q ≤ 1000 * 1000 := Nat.mul_le_mul hbt hs
      have e : (bytes : Int) * (q : Int) = ((bytes * q : Nat) : Int) := (Int.natCast_mul _ _).symm
      rw [e]; omega
    have := run_makeSlice (P := P) (w := W) t T ie z ht hie f1 .i64 .i64 q q (Int.natCast_nonneg q) (Int.le_refl _) (by rw [f2, Int.toNat_natCast]; omega) hb (by omega)
    rw [Int.toNat_natCast, f2, Nat.mul_one, madeCells_one hz] at this
    simp only [hx, hy, this, Sem.run_bind, Result.andThen_ok]
    have qq := hh _ (F.put d1 hd _)
    rw [← e1] at qq
    exact hK _ _ qq.1 qq.2
theorem St.quBlk {F : Words} {A : Option Addr} {c : Nat} {ok : Nat → Prop} (H : St w S R M W) (k : Nat) (h : M[k]? = some (Asn.qu kW T (.slice A 16 c) ((List.range 16).map F) ok)) :
    ∃ g o pre post, A = some ⟨g, o, none⟩ ∧ pre.length = o ∧ St w S R (M.set k (Asn.blk g (mid pre post F) T)) W := by
  obtain ⟨b1, b2, b3, b4⟩ := H.has _ (List.mem_of_getElem? h)
  obtain ⟨h0, cs, ⟨_, inner, ⟨hl, hq⟩, hr⟩, h2, h3⟩ := H.qu k h
  have hc16 : cs.length = 16 := by rw [h2]; simp
  rcases hq with ⟨h1, _⟩ | ⟨g, off, cap, cur, hv, hb, hh, hnc, hoc, hcs, hin⟩
  · omega
  have hz : (Kd.raw kW.sz).sz = 1 := rfl
  rw [hz, Nat.mul_one] at hv hcs hin
  rw [hz] at hr
  rw [hc16, Nat.mul_one] at hin
  injection hv with hA hn hcap
  have hi16 : inner.length = 16 := by rw [← hin, List.length_take, List.length_drop, Array.length_toList]; omega
  have hw : inner = wsN 16 F := by
    apply List.ext_getElem?
    intro j
    by_cases hj : j < 16
    · rw [ws_at _ hj]
      have hcj : cs[j]? = some cs[j] := List.getElem?_eq_getElem (by omega)
      have e1 := (hr.2 j _ hcj).1
      have e2 := (h3 j (F j) cs[j] (by simp [hj]) hcj).now
      have e3 : cs[j] = [u (F j)] := e2
      rw [e3, Nat.mul_one] at e1
      have := congrArg (·[0]?) e1
      simpa using this
    · rw [List.getElem?_eq_none (by omega), List.getElem?_eq_none (by rw [wsN_len]; omega)]
  have hcur : cur = (mid (cur.toList.take off) (cur.toList.drop (off + 16)) F).toArray := by
    unfold mid
    rw [← hw, ← hin, ← List.drop_drop, List.take_append_drop, List.take_append_drop]
  refine ⟨g, off, cur.toList.take off, cur.toList.drop (off + 16), hA, by rw [List.length_take, Array.length_toList]; omega, ?_⟩
  subst hA
  refine H.upd k h (Only.refl _ _) _ (show W.heap[g]? = _ from ?_) (fun j hj => ?_) (fun j hj => .inl ?_) (fun j hj => hj.elim)
  · rw [← hcur]; exact hh
  · rcases hj with hj | hj
    · exact (show j = g from hj) ▸ blk_lt hh
    · exact hj.elim
  · rw [show j = g from hj]; simp [Asn.qu, Value.ownBlock]
end
theorem kW_flat : ∀ (W W' : World) (t : B32) (c : List Value), kW.K W t c → kW.K W' t c := fun _ _ _ _ h => h
theorem words_foot {W : World} {g n : Nat} {T : TypeId} (F : Words) (hb : W.heap[g]? = some (.cells (wsN n F).toArray T (0, 0))) (hn : n ≤ 9223372036854775807) : Foot (fun W => kW.C W (some ⟨g, 0, none⟩) n ((List.range n).map F)) W (fun k => k = g) := fun W' hW => by
  have hb' := (hW g rfl (blk_lt hb)).trans hb
  refine ⟨by simp, hn, fun _ => ⟨_, rfl, fun j p hj => ⟨[u p], rfl, rfl, fun i v hv => ?_⟩⟩⟩
  rw [addo, blk_cell hb']
  have hi : i = 0 := by have := (List.getElem?_eq_some_iff.1 hv).1; simp at this; omega
  subst hi
  obtain rfl : u p = v := by simpa using hv
  have hz : kW.sz = 1 := rfl
  have hjn : j < n := by have := (List.getElem?_eq_some_iff.1 hj).1; simpa using this
  have hp : F j = p := by simpa [hjn] using hj
  subst hp
  simp [hz, ws_at F hjn]
def Tabs (gh : Nat) (h : Words) (ga gr : Nat) (G : Nat → Nat) (TW TI TS : TypeId) (W : World) : Prop :=
  W.heap[gh]? = some (.cells (wsN 8 h).toArray TW (0, 0)) ∧ W.heap[ga]? = some (.cells plV.toArray TI (0, 0)) ∧ RowsAt gr G TS TI W
theorem Tabs.old {gh : Nat} {h : Words} {ga gr : Nat} {G : Nat → Nat} {TW TI TS : TypeId} {w : World} (H : Tabs gh h ga gr G TW TI TS w) : Foot (Tabs gh h ga gr G TW TI TS) w (fun k => k < w.heap.size) := fun W' hW => by
  obtain ⟨h1, h2, h3, h4⟩ := H
  exact ⟨(hW gh (blk_lt h1) (blk_lt h1)).trans h1, (hW ga (blk_lt h2) (blk_lt h2)).trans h2, (hW gr (blk_lt h3) (blk_lt h3)).trans h3, fun i hi => (hW _ (blk_lt (h4 i hi)) (blk_lt (h4 i hi))).trans (h4 i hi)⟩
theorem Tabs.words {gh : Nat} {h : Words} {ga gr : Nat} {G : Nat → Nat} {TW TI TS : TypeId} {w : World} (H : Tabs gh h ga gr G TW TI TS w) : Foot (fun W => kW.C W (some ⟨gh, 0, none⟩) 8 ((List.range 8).map h)) w (fun k => k < w.heap.size) := fun W' hW =>
  (words_foot h H.1 (by decide)) W' (fun k hk hl => hW k hl hl)
theorem Tabs.row {gh : Nat} {h : Words} {ga gr : Nat} {G : Nat → Nat} {TW TI TS : TypeId} {w : World} (H : Tabs gh h ga gr G TW TI TS w) {i : Nat} (hi : i < 10) : w.cell? ⟨gr, i, none⟩ = some (.slice (some ⟨G i, 0, none⟩) 16 16) :=
  fcell H.2.2.1 (by simp [hi])
theorem Tabs.place {gh : Nat} {h : Words} {ga gr : Nat} {G : Nat → Nat} {TW TI TS : TypeId} {w : World} (H : Tabs gh h ga gr G TW TI TS w) {i : Nat} (hi : i < 32) : w.cell? ⟨ga, i, none⟩ = some (.int .i64 (plF i : Int)) := fcell H.2.1 (pl_at hi)
theorem Tabs.spot {gh : Nat} {h : Words} {ga gr : Nat} {G : Nat → Nat} {TW TI TS : TypeId} {w : World} (H : Tabs gh h ga gr G TW TI TS w) {n i : Nat} (hn : n < 10) (hi : i < 16) : w.cell? ⟨G n, i, none⟩ = some (.int .i64 (rowF n i : Int)) := fcell (H.2.2.2 n hn) (rs_at (rowF n) hi)
theorem Tabs.word {gh : Nat} {h : Words} {ga gr : Nat} {G : Nat → Nat} {TW TI TS : TypeId} {w : World} (H : Tabs gh h ga gr G TW TI TS w) {i : Nat} (hi : i < 8) : w.cell? ⟨gh, i, none⟩ = some (u (h i)) := fcell H.1 (ws_at h hi)
end Go.Proofs.YtndicjikjcifaaaDoor

/- tuskref02: the tables. -/
namespace Go.Proofs.YtndicjikjcifaaaDoor
open Go.RowKit Go.Proofs.YtndicjikjcifaaaDoorW.PrintWords Go.Proofs.YtndicjikjcifaaaDoorW.PrintLast
set_option linter.unusedVariables false
set_option linter.unusedSimpArgs false
set_option maxRecDepth 100000
open Bl
theorem firsts2_calls (w : World) : Calls Tryd.prog 98 #[] w fun e W => ∃ g, e = .returned (.slice (some ⟨g, 0, none⟩) 8 8) ∧ w.heap.size ≤ g ∧ W.heap[g]? = some (.cells (wsN 8 firstsF).toArray 113 (0, 0)) ∧ Below w.heap.size w W := by
  refine c_enter2 (args := []) (S := (fun _ => False)) (R := (fun _ => True)) (M := []) Tryd.func98 (by kernel_rfl) 2 Tryd.ntmps98 (Nat.le_of_ble_eq_true rfl) (St.first w (fun _ => False) (fun _ => True)) (fun a W F H => ?_)
  have F := F.less [] sub0
  refine c_seq (by kernel_rfl) ?_
  refine c_text (id := 0) (by kernel_rfl) [(0, 2)] (by kernel_rfl) ?_
  refine q2 (o_s 0 (.assign (.const (.slice none 0 0))) 126 (by kernel_rfl)) F (by decide) (v := .slice none 0 0) (x_assign rfl) (fun a F => ?_)
  unfold wpSeq
  have H : St w (fun _ => False) (fun _ => True) [] W := H
  refine t_normal ?_
  refine c_seq (by kernel_rfl) ?_
  refine c_text (id := 1) (by kernel_rfl) [(0, 2), (1, 2)] (by kernel_rfl) ?_
  refine sq_lit [.int .u32 1779033703, .int .u32 3144134277, .int .u32 1013904242, .int .u32 2773480762, .int .u32 1359893119, .int .u32 2600822924, .int .u32 528734635, .int .u32 1541459225] (o_s 1 (.buildSlice 126 8 #[(0, (.const (.int .u32 1779033703))), (1, (.const (.int .u32 3144134277))), (2, (.const (.int .u32 1013904242))), (3, (.const (.int .u32 2773480762))), (4, (.const (.int .u32 1359893119))), (5, (.const (.int .u32 2600822924))), (6, (.const (.int .u32 528734635))), (7, (.const (.int .u32 1541459225)))]) 126 (by kernel_rfl)) trivial F (by decide) rfl Tryd.underlying126 (show (Tryd.prog.info? 113).map (fun i => (i.zero, i.size, i.bytes)) = some (some (.int .u32 0), 1, 4) by kernel_rfl) rfl (by simp [Value.cells]) (by simp) (by simp) (by simp [Act.eval]) H ?_
  intro g1 W a hg1 H F
  refine ⟨(fun _ => trivial), ?_⟩
  refine q2 (o_s 0 (.assign (.tmp 1)) 126 (by kernel_rfl)) F (by decide) (v := .slice (some ⟨g1, 0, none⟩) 8 8) (x_assign (F.slot rfl)) (fun a F => ?_)
  unfold wpSeq
  have H : St w (fun _ => False) (fun _ => True) [Asn.blk g1 [.int .u32 1779033703, .int .u32 3144134277, .int .u32 1013904242, .int .u32 2773480762, .int .u32 1359893119, .int .u32 2600822924, .int .u32 528734635, .int .u32 1541459225] 113] W := H
  refine t_normal ?_
  refine c_ret (by kernel_rfl) ?_
  refine p_tmp Tryd.results98 F rfl ?_
  exact ⟨_, rfl, hg1, (H.blk 0 rfl).trans rfl, H.ends⟩
theorem places2_calls (w : World) : Calls Tryd.prog 100 #[] w fun e W => ∃ g, e = .returned (.slice (some ⟨g, 0, none⟩) 32 32) ∧ w.heap.size ≤ g ∧ W.heap[g]? = some (.cells (plV).toArray 3 (0, 0)) ∧ Below w.heap.size w W := by
  refine c_enter2 (args := []) (S := (fun _ => False)) (R := (fun _ => True)) (M := []) Tryd.func100 (by kernel_rfl) 2 Tryd.ntmps100 (Nat.le_of_ble_eq_true rfl) (St.first w (fun _ => False) (fun _ => True)) (fun a W F H => ?_)
  have F := F.less [] sub0
  refine c_seq (by kernel_rfl) ?_
  refine c_text (id := 0) (by kernel_rfl) [(0, 2)] (by kernel_rfl) ?_
  refine q2 (o_s 0 (.assign (.const (.slice none 0 0))) 130 (by kernel_rfl)) F (by decide) (v := .slice none 0 0) (x_assign rfl) (fun a F => ?_)
  unfold wpSeq
  have H : St w (fun _ => False) (fun _ => True) [] W := H
  refine t_normal ?_
  refine c_seq (by kernel_rfl) ?_
  refine c_text (id := 1) (by kernel_rfl) [(0, 2), (1, 2)] (by kernel_rfl) ?_
  refine sq_lit [.int .i64 0, .int .i64 4, .int .i64 8, .int .i64 12, .int .i64 1, .int .i64 5, .int .i64 9, .int .i64 13, .int .i64 2, .int .i64 6, .int .i64 10, .int .i64 14, .int .i64 3, .int .i64 7, .int .i64 11, .int .i64 15, .int .i64 0, .int .i64 5, .int .i64 10, .int .i64 15, .int .i64 1, .int .i64 6, .int .i64 11, .int .i64 12, .int .i64 2, .int .i64 7, .int .i64 8, .int .i64 13, .int .i64 3, .int .i64 4, .int .i64 9, .int .i64 14] (o_s 1 (.buildSlice 130 32 #[(0, (.const (.int .i64 0))), (1, (.const (.int .i64 4))), (2, (.const (.int .i64 8))), (3, (.const (.int .i64 12))), (4, (.const (.int .i64 1))), (5, (.const (.int .i64 5))), (6, (.const (.int .i64 9))), (7, (.const (.int .i64 13))), (8, (.const (.int .i64 2))), (9, (.const (.int .i64 6))), (10, (.const (.int .i64 10))), (11, (.const (.int .i64 14))), (12, (.const (.int .i64 3))), (13, (.const (.int .i64 7))), (14, (.const (.int .i64 11))), (15, (.const (.int .i64 15))), (16, (.const (.int .i64 0))), (17, (.const (.int .i64 5))), (18, (.const (.int .i64 10))), (19, (.const (.int .i64 15))), (20, (.const (.int .i64 1))), (21, (.const (.int .i64 6))), (22, (.const (.int .i64 11))), (23, (.const (.int .i64 12))), (24, (.const (.int .i64 2))), (25, (.const (.int .i64 7))), (26, (.const (.int .i64 8))), (27, (.const (.int .i64 13))), (28, (.const (.int .i64 3))), (29, (.const (.int .i64 4))), (30, (.const (.int .i64 9))), (31, (.const (.int .i64 14)))]) 130 (by kernel_rfl)) trivial F (by decide) rfl Tryd.underlying130 (show (Tryd.prog.info? 3).map (fun i => (i.zero, i.size, i.bytes)) = some (some (.int .i64 0), 1, 8) by kernel_rfl) rfl (by simp [Value.cells]) (by simp) (by simp) (by simp [Act.eval]) H ?_
  intro g1 W a hg1 H F
  refine ⟨(fun _ => trivial), ?_⟩
  refine q2 (o_s 0 (.assign (.tmp 1)) 130 (by kernel_rfl)) F (by decide) (v := .slice (some ⟨g1, 0, none⟩) 32 32) (x_assign (F.slot rfl)) (fun a F => ?_)
  unfold wpSeq
  have H : St w (fun _ => False) (fun _ => True) [Asn.blk g1 [.int .i64 0, .int .i64 4, .int .i64 8, .int .i64 12, .int .i64 1, .int .i64 5, .int .i64 9, .int .i64 13, .int .i64 2, .int .i64 6, .int .i64 10, .int .i64 14, .int .i64 3, .int .i64 7, .int .i64 11, .int .i64 15, .int .i64 0, .int .i64 5, .int .i64 10, .int .i64 15, .int .i64 1, .int .i64 6, .int .i64 11, .int .i64 12, .int .i64 2, .int .i64 7, .int .i64 8, .int .i64 13, .int .i64 3, .int .i64 4, .int .i64 9, .int .i64 14] 3] W := H
  refine t_normal ?_
  refine c_ret (by kernel_rfl) ?_
  refine p_tmp Tryd.results100 F rfl ?_
  exact ⟨_, rfl, hg1, (H.blk 0 rfl).trans rfl, H.ends⟩
set_option maxHeartbeats 1000000 in
theorem rows2_calls (w : World) : Calls Tryd.prog 99 #[] w fun e W => ∃ g G, e = .returned (.slice (some ⟨g, 0, none⟩) 10 10) ∧ w.heap.size ≤ g ∧ (∀ i, i < 10 → w.heap.size ≤ G i) ∧ RowsAt g G 130 3 W ∧ Below w.heap.size w W := by
  refine c_enter2 (args := []) (S := (fun _ => False)) (R := (fun _ => True)) (M := []) Tryd.func99 (by kernel_rfl) 12 Tryd.ntmps99 (Nat.le_of_ble_eq_true rfl) (St.first w (fun _ => False) (fun _ => True)) (fun a W F H => ?_)
  have F := F.less [] sub0
  refine c_seq (by kernel_rfl) ?_
  refine c_text (id := 0) (by kernel_rfl) [(0, 2)] (by kernel_rfl) ?_
  refine q2 (o_s 0 (.assign (.const (.slice none 0 0))) 128 (by kernel_rfl)) F (by decide) (v := .slice none 0 0) (x_assign rfl) (fun a F => ?_)
  unfold wpSeq
  have H : St w (fun _ => False) (fun _ => True) [] W := H
  refine t_normal ?_
  refine c_seq (by kernel_rfl) ?_
  refine c_text (id := 1) (by kernel_rfl) [(0, 2), (1, 2), (2, 2), (3, 2), (4, 2), (5, 2), (6, 2), (7, 2), (8, 2), (9, 2), (10, 2), (11, 2)] (by kernel_rfl) ?_
  refine sq_lit [.int .i64 0, .int .i64 1, .int .i64 2, .int .i64 3, .int .i64 4, .int .i64 5, .int .i64 6, .int .i64 7, .int .i64 8, .int .i64 9, .int .i64 10, .int .i64 11, .int .i64 12, .int .i64 13, .int .i64 14, .int .i64 15] (o_s 1 (.buildSlice 130 16 #[(0, (.const (.int .i64 0))), (1, (.const (.int .i64 1))), (2, (.const (.int .i64 2))), (3, (.const (.int .i64 3))), (4, (.const (.int .i64 4))), (5, (.const (.int .i64 5))), (6, (.const (.int .i64 6))), (7, (.const (.int .i64 7))), (8, (.const (.int .i64 8))), (9, (.const (.int .i64 9))), (10, (.const (.int .i64 10))), (11, (.const (.int .i64 11))), (12, (.const (.int .i64 12))), (13, (.const (.int .i64 13))), (14, (.const (.int .i64 14))), (15, (.const (.int .i64 15)))]) 130 (by kernel_rfl)) trivial F (by decide) rfl Tryd.underlying130 (show (Tryd.prog.info? 3).map (fun i => (i.zero, i.size, i.bytes)) = some (some (.int .i64 0), 1, 8) by kernel_rfl) rfl (by simp [Value.cells]) (by simp) (by simp) (by simp [Act.eval]) H ?_
  intro g1 W a hg1 H F
  refine ⟨(fun _ => trivial), ?_⟩
  refine sq_lit [.int .i64 14, .int .i64 10, .int .i64 4, .int .i64 8, .int .i64 9, .int .i64 15, .int .i64 13, .int .i64 6, .int .i64 1, .int .i64 12, .int .i64 0, .int .i64 2, .int .i64 11, .int .i64 7, .int .i64 5, .int .i64 3] (o_s 2 (.buildSlice 130 16 #[(0, (.const (.int .i64 14))), (1, (.const (.int .i64 10))), (2, (.const (.int .i64 4))), (3, (.const (.int .i64 8))), (4, (.const (.int .i64 9))), (5, (.const (.int .i64 15))), (6, (.const (.int .i64 13))), (7, (.const (.int .i64 6))), (8, (.const (.int .i64 1))), (9, (.const (.int .i64 12))), (10, (.const (.int .i64 0))), (11, (.const (.int .i64 2))), (12, (.const (.int .i64 11))), (13, (.const (.int .i64 7))), (14, (.const (.int .i64 5))), (15, (.const (.int .i64 3)))]) 130 (by kernel_rfl)) trivial F (by decide) rfl Tryd.underlying130 (show (Tryd.prog.info? 3).map (fun i => (i.zero, i.size, i.bytes)) = some (some (.int .i64 0), 1, 8) by kernel_rfl) rfl (by simp [Value.cells]) (by simp) (by simp) (by simp [Act.eval]) H ?_
  intro g2 W a hg2 H F
  refine ⟨(fun _ => trivial), ?_⟩
  refine sq_lit [.int .i64 11, .int .i64 8, .int .i64 12, .int .i64 0, .int .i64 5, .int .i64 2, .int .i64 15, .int .i64 13, .int .i64 10, .int .i64 14, .int .i64 3, .int .i64 6, .int .i64 7, .int .i64 1, .int .i64 9, .int .i64 4] (o_s 3 (.buildSlice 130 16 #[(0, (.const (.int .i64 11))), (1, (.const (.int .i64 8))), (2, (.const (.int .i64 12))), (3, (.const (.int .i64 0))), (4, (.const (.int .i64 5))), (5, (.const (.int .i64 2))), (6, (.const (.int .i64 15))), (7, (.const (.int .i64 13))), (8, (.const (.int .i64 10))), (9, (.const (.int .i64 14))), (10, (.const (.int .i64 3))), (11, (.const (.int .i64 6))), (12, (.const (.int .i64 7))), (13, (.const (.int .i64 1))), (14, (.const (.int .i64 9))), (15, (.const (.int .i64 4)))]) 130 (by kernel_rfl)) trivial F (by decide) rfl Tryd.underlying130 (show (Tryd.prog.info? 3).map (fun i => (i.zero, i.size, i.bytes)) = some (some (.int .i64 0), 1, 8) by kernel_rfl) rfl (by simp [Value.cells]) (by simp) (by simp) (by simp [Act.eval]) H ?_
  intro g3 W a hg3 H F
  refine ⟨(fun _ => trivial), ?_⟩
  refine sq_lit [.int .i64 7, .int .i64 9, .int .i64 3, .int .i64 1, .int .i64 13, .int .i64 12, .int .i64 11, .int .i64 14, .int .i64 2, .int .i64 6, .int .i64 5, .int .i64 10, .int .i64 4, .int .i64 0, .int .i64 15, .int .i64 8] (o_s 4 (.buildSlice 130 16 #[(0, (.const (.int .i64 7))), (1, (.const (.int .i64 9))), (2, (.const (.int .i64 3))), (3, (.const (.int .i64 1))), (4, (.const (.int .i64 13))), (5, (.const (.int .i64 12))), (6, (.const (.int .i64 11))), (7, (.const (.int .i64 14))), (8, (.const (.int .i64 2))), (9, (.const (.int .i64 6))), (10, (.const (.int .i64 5))), (11, (.const (.int .i64 10))), (12, (.const (.int .i64 4))), (13, (.const (.int .i64 0))), (14, (.const (.int .i64 15))), (15, (.const (.int .i64 8)))]) 130 (by kernel_rfl)) trivial F (by decide) rfl Tryd.underlying130 (show (Tryd.prog.info? 3).map (fun i => (i.zero, i.size, i.bytes)) = some (some (.int .i64 0), 1, 8) by kernel_rfl) rfl (by simp [Value.cells]) (by simp) (by simp) (by simp [Act.eval]) H ?_
  intro g4 W a hg4 H F
  refine ⟨(fun _ => trivial), ?_⟩
  refine sq_lit [.int .i64 9, .int .i64 0, .int .i64 5, .int .i64 7, .int .i64 2, .int .i64 4, .int .i64 10, .int .i64 15, .int .i64 14, .int .i64 1, .int .i64 11, .int .i64 12, .int .i64 6, .int .i64 8, .int .i64 3, .int .i64 13] (o_s 5 (.buildSlice 130 16 #[(0, (.const (.int .i64 9))), (1, (.const (.int .i64 0))), (2, (.const (.int .i64 5))), (3, (.const (.int .i64 7))), (4, (.const (.int .i64 2))), (5, (.const (.int .i64 4))), (6, (.const (.int .i64 10))), (7, (.const (.int .i64 15))), (8, (.const (.int .i64 14))), (9, (.const (.int .i64 1))), (10, (.const (.int .i64 11))), (11, (.const (.int .i64 12))), (12, (.const (.int .i64 6))), (13, (.const (.int .i64 8))), (14, (.const (.int .i64 3))), (15, (.const (.int .i64 13)))]) 130 (by kernel_rfl)) trivial F (by decide) rfl Tryd.underlying130 (show (Tryd.prog.info? 3).map (fun i => (i.zero, i.size, i.bytes)) = some (some (.int .i64 0), 1, 8) by kernel_rfl) rfl (by simp [Value.cells]) (by simp) (by simp) (by simp [Act.eval]) H ?_
  intro g5 W a hg5 H F
  refine ⟨(fun _ => trivial), ?_⟩
  refine sq_lit [.int .i64 2, .int .i64 12, .int .i64 6, .int .i64 10, .int .i64 0, .int .i64 11, .int .i64 8, .int .i64 3, .int .i64 4, .int .i64 13, .int .i64 7, .int .i64 5, .int .i64 15, .int .i64 14, .int .i64 1, .int .i64 9] (o_s 6 (.buildSlice 130 16 #[(0, (.const (.int .i64 2))), (1, (.const (.int .i64 12))), (2, (.const (.int .i64 6))), (3, (.const (.int .i64 10))), (4, (.const (.int .i64 0))), (5, (.const (.int .i64 11))), (6, (.const (.int .i64 8))), (7, (.const (.int .i64 3))), (8, (.const (.int .i64 4))), (9, (.const (.int .i64 13))), (10, (.const (.int .i64 7))), (11, (.const (.int .i64 5))), (12, (.const (.int .i64 15))), (13, (.const (.int .i64 14))), (14, (.const (.int .i64 1))), (15, (.const (.int .i64 9)))]) 130 (by kernel_rfl)) trivial F (by decide) rfl Tryd.underlying130 (show (Tryd.prog.info? 3).map (fun i => (i.zero, i.size, i.bytes)) = some (some (.int .i64 0), 1, 8) by kernel_rfl) rfl (by simp [Value.cells]) (by simp) (by simp) (by simp [Act.eval]) H ?_
  intro g6 W a hg6 H F
  refine ⟨(fun _ => trivial), ?_⟩
  refine sq_lit [.int .i64 12, .int .i64 5, .int .i64 1, .int .i64 15, .int .i64 14, .int .i64 13, .int .i64 4, .int .i64 10, .int .i64 0, .int .i64 7, .int .i64 6, .int .i64 3, .int .i64 9, .int .i64 2, .int .i64 8, .int .i64 11] (o_s 7 (.buildSlice 130 16 #[(0, (.const (.int .i64 12))), (1, (.const (.int .i64 5))), (2, (.const (.int .i64 1))), (3, (.const (.int .i64 15))), (4, (.const (.int .i64 14))), (5, (.const (.int .i64 13))), (6, (.const (.int .i64 4))), (7, (.const (.int .i64 10))), (8, (.const (.int .i64 0))), (9, (.const (.int .i64 7))), (10, (.const (.int .i64 6))), (11, (.const (.int .i64 3))), (12, (.const (.int .i64 9))), (13, (.const (.int .i64 2))), (14, (.const (.int .i64 8))), (15, (.const (.int .i64 11)))]) 130 (by kernel_rfl)) trivial F (by decide) rfl Tryd.underlying130 (show (Tryd.prog.info? 3).map (fun i => (i.zero, i.size, i.bytes)) = some (some (.int .i64 0), 1, 8) by kernel_rfl) rfl (by simp [Value.cells]) (by simp) (by simp) (by simp [Act.eval]) H ?_
  intro g7 W a hg7 H F
  refine ⟨(fun _ => trivial), ?_⟩
  refine sq_lit [.int .i64 13, .int .i64 11, .int .i64 7, .int .i64 14, .int .i64 12, .int .i64 1, .int .i64 3, .int .i64 9, .int .i64 5, .int .i64 0, .int .i64 15, .int .i64 4, .int .i64 8, .int .i64 6, .int .i64 2, .int .i64 10] (o_s 8 (.buildSlice 130 16 #[(0, (.const (.int .i64 13))), (1, (.const (.int .i64 11))), (2, (.const (.int .i64 7))), (3, (.const (.int .i64 14))), (4, (.const (.int .i64 12))), (5, (.const (.int .i64 1))), (6, (.const (.int .i64 3))), (7, (.const (.int .i64 9))), (8, (.const (.int .i64 5))), (9, (.const (.int .i64 0))), (10, (.const (.int .i64 15))), (11, (.const (.int .i64 4))), (12, (.const (.int .i64 8))), (13, (.const (.int .i64 6))), (14, (.const (.int .i64 2))), (15, (.const (.int .i64 10)))]) 130 (by kernel_rfl)) trivial F (by decide) rfl Tryd.underlying130 (show (Tryd.prog.info? 3).map (fun i => (i.zero, i.size, i.bytes)) = some (some (.int .i64 0), 1, 8) by kernel_rfl) rfl (by simp [Value.cells]) (by simp) (by simp) (by simp [Act.eval]) H ?_
  intro g8 W a hg8 H F
  refine ⟨(fun _ => trivial), ?_⟩
  refine sq_lit [.int .i64 6, .int .i64 15, .int .i64 14, .int .i64 9, .int .i64 11, .int .i64 3, .int .i64 0, .int .i64 8, .int .i64 12, .int .i64 2, .int .i64 13, .int .i64 7, .int .i64 1, .int .i64 4, .int .i64 10, .int .i64 5] (o_s 9 (.buildSlice 130 16 #[(0, (.const (.int .i64 6))), (1, (.const (.int .i64 15))), (2, (.const (.int .i64 14))), (3, (.const (.int .i64 9))), (4, (.const (.int .i64 11))), (5, (.const (.int .i64 3))), (6, (.const (.int .i64 0))), (7, (.const (.int .i64 8))), (8, (.const (.int .i64 12))), (9, (.const (.int .i64 2))), (10, (.const (.int .i64 13))), (11, (.const (.int .i64 7))), (12, (.const (.int .i64 1))), (13, (.const (.int .i64 4))), (14, (.const (.int .i64 10))), (15, (.const (.int .i64 5)))]) 130 (by kernel_rfl)) trivial F (by decide) rfl Tryd.underlying130 (show (Tryd.prog.info? 3).map (fun i => (i.zero, i.size, i.bytes)) = some (some (.int .i64 0), 1, 8) by kernel_rfl) rfl (by simp [Value.cells]) (by simp) (by simp) (by simp [Act.eval]) H ?_
  intro g9 W a hg9 H F
  refine ⟨(fun _ => trivial), ?_⟩
  refine sq_lit [.int .i64 10, .int .i64 2, .int .i64 8, .int .i64 4, .int .i64 7, .int .i64 6, .int .i64 1, .int .i64 5, .int .i64 15, .int .i64 11, .int .i64 9, .int .i64 14, .int .i64 3, .int .i64 12, .int .i64 13, .int .i64 0] (o_s 10 (.buildSlice 130 16 #[(0, (.const (.int .i64 10))), (1, (.const (.int .i64 2))), (2, (.const (.int .i64 8))), (3, (.const (.int .i64 4))), (4, (.const (.int .i64 7))), (5, (.const (.int .i64 6))), (6, (.const (.int .i64 1))), (7, (.const (.int .i64 5))), (8, (.const (.int .i64 15))), (9, (.const (.int .i64 11))), (10, (.const (.int .i64 9))), (11, (.const (.int .i64 14))), (12, (.const (.int .i64 3))), (13, (.const (.int .i64 12))), (14, (.const (.int .i64 13))), (15, (.const (.int .i64 0)))]) 130 (by kernel_rfl)) trivial F (by decide) rfl Tryd.underlying130 (show (Tryd.prog.info? 3).map (fun i => (i.zero, i.size, i.bytes)) = some (some (.int .i64 0), 1, 8) by kernel_rfl) rfl (by simp [Value.cells]) (by simp) (by simp) (by simp [Act.eval]) H ?_
  intro g10 W a hg10 H F
  refine ⟨(fun _ => trivial), ?_⟩
  refine sq_lit [.slice (some ⟨g1, 0, none⟩) 16 16, .slice (some ⟨g2, 0, none⟩) 16 16, .slice (some ⟨g3, 0, none⟩) 16 16, .slice (some ⟨g4, 0, none⟩) 16 16, .slice (some ⟨g5, 0, none⟩) 16 16, .slice (some ⟨g6, 0, none⟩) 16 16, .slice (some ⟨g7, 0, none⟩) 16 16, .slice (some ⟨g8, 0, none⟩) 16 16, .slice (some ⟨g9, 0, none⟩) 16 16, .slice (some ⟨g10, 0, none⟩) 16 16] (o_s 11 (.buildSlice 128 10 #[(0, (.tmp 1)), (1, (.tmp 2)), (2, (.tmp 3)), (3, (.tmp 4)), (4, (.tmp 5)), (5, (.tmp 6)), (6, (.tmp 7)), (7, (.tmp 8)), (8, (.tmp 9)), (9, (.tmp 10))]) 128 (by kernel_rfl)) trivial F (by decide) rfl Tryd.underlying128 (show (Tryd.prog.info? 130).map (fun i => (i.zero, i.size, i.bytes)) = some (some (.slice none 0 0), 1, 24) by kernel_rfl) rfl (by simp [Value.cells]) (by simp) (by simp) (by simp [Act.eval, F.ev 1 _ rfl, F.ev 2 _ rfl, F.ev 3 _ rfl, F.ev 4 _ rfl, F.ev 5 _ rfl, F.ev 6 _ rfl, F.ev 7 _ rfl, F.ev 8 _ rfl, F.ev 9 _ rfl, F.ev 10 _ rfl]) H ?_
  intro g11 W a hg11 H F
  refine ⟨(fun _ => trivial), ?_⟩
  refine q2 (o_s 0 (.assign (.tmp 11)) 128 (by kernel_rfl)) F (by decide) (v := .slice (some ⟨g11, 0, none⟩) 10 10) (x_assign (F.slot rfl)) (fun a F => ?_)
  unfold wpSeq
  have H : St w (fun _ => False) (fun _ => True) [Asn.blk g1 [.int .i64 0, .int .i64 1, .int .i64 2, .int .i64 3, .int .i64 4, .int .i64 5, .int .i64 6, .int .i64 7, .int .i64 8, .int .i64 9, .int .i64 10, .int .i64 11, .int .i64 12, .int .i64 13, .int .i64 14, .int .i64 15] 3, Asn.blk g2 [.int .i64 14, .int .i64 10, .int .i64 4, .int .i64 8, .int .i64 9, .int .i64 15, .int .i64 13, .int .i64 6, .int .i64 1, .int .i64 12, .int .i64 0, .int .i64 2, .int .i64 11, .int .i64 7, .int .i64 5, .int .i64 3] 3, Asn.blk g3 [.int .i64 11, .int .i64 8, .int .i64 12, .int .i64 0, .int .i64 5, .int .i64 2, .int .i64 15, .int .i64 13, .int .i64 10, .int .i64 14, .int .i64 3, .int .i64 6, .int .i64 7, .int .i64 1, .int .i64 9, .int .i64 4] 3, Asn.blk g4 [.int .i64 7, .int .i64 9, .int .i64 3, .int .i64 1, .int .i64 13, .int .i64 12, .int .i64 11, .int .i64 14, .int .i64 2, .int .i64 6, .int .i64 5, .int .i64 10, .int .i64 4, .int .i64 0, .int .i64 15, .int .i64 8] 3, Asn.blk g5 [.int .i64 9, .int .i64 0, .int .i64 5, .int .i64 7, .int .i64 2, .int .i64 4, .int .i64 10, .int .i64 15, .int .i64 14, .int .i64 1, .int .i64 11, .int .i64 12, .int .i64 6, .int .i64 8, .int .i64 3, .int .i64 13] 3, Asn.blk g6 [.int .i64 2, .int .i64 12, .int .i64 6, .int .i64 10, .int .i64 0, .int .i64 11, .int .i64 8, .int .i64 3, .int .i64 4, .int .i64 13, .int .i64 7, .int .i64 5, .int .i64 15, .int .i64 14, .int .i64 1, .int .i64 9] 3, Asn.blk g7 [.int .i64 12, .int .i64 5, .int .i64 1, .int .i64 15, .int .i64 14, .int .i64 13, .int .i64 4, .int .i64 10, .int .i64 0, .int .i64 7, .int .i64 6, .int .i64 3, .int .i64 9, .int .i64 2, .int .i64 8, .int .i64 11] 3, Asn.blk g8 [.int .i64 13, .int .i64 11, .int .i64 7, .int .i64 14, .int .i64 12, .int .i64 1, .int .i64 3, .int .i64 9, .int .i64 5, .int .i64 0, .int .i64 15, .int .i64 4, .int .i64 8, .int .i64 6, .int .i64 2, .int .i64 10] 3, Asn.blk g9 [.int .i64 6, .int .i64 15, .int .i64 14, .int .i64 9, .int .i64 11, .int .i64 3, .int .i64 0, .int .i64 8, .int .i64 12, .int .i64 2, .int .i64 13, .int .i64 7, .int .i64 1, .int .i64 4, .int .i64 10, .int .i64 5] 3, Asn.blk g10 [.int .i64 10, .int .i64 2, .int .i64 8, .int .i64 4, .int .i64 7, .int .i64 6, .int .i64 1, .int .i64 5, .int .i64 15, .int .i64 11, .int .i64 9, .int .i64 14, .int .i64 3, .int .i64 12, .int .i64 13, .int .i64 0] 3, Asn.blk g11 [.slice (some ⟨g1, 0, none⟩) 16 16, .slice (some ⟨g2, 0, none⟩) 16 16, .slice (some ⟨g3, 0, none⟩) 16 16, .slice (some ⟨g4, 0, none⟩) 16 16, .slice (some ⟨g5, 0, none⟩) 16 16, .slice (some ⟨g6, 0, none⟩) 16 16, .slice (some ⟨g7, 0, none⟩) 16 16, .slice (some ⟨g8, 0, none⟩) 16 16, .slice (some ⟨g9, 0, none⟩) 16 16, .slice (some ⟨g10, 0, none⟩) 16 16] 130] W := H
  refine t_normal ?_
  refine c_ret (by kernel_rfl) ?_
  refine p_tmp Tryd.results99 F rfl ?_
  refine ⟨g11, fun i => [g1, g2, g3, g4, g5, g6, g7, g8, g9, g10].getD i 0, rfl, hg11, fun i hi => ?_, ⟨(H.blk 10 rfl).trans rfl, fun i hi => ?_⟩, H.ends⟩
  · rcases i with _ | _ | _ | _ | _ | _ | _ | _ | _ | _ | i
    · exact hg1
    · exact hg2
    · exact hg3
    · exact hg4
    · exact hg5
    · exact hg6
    · exact hg7
    · exact hg8
    · exact hg9
    · exact hg10
    · omega
  · rcases i with _ | _ | _ | _ | _ | _ | _ | _ | _ | _ | i
    · exact (H.blk 0 rfl).trans rfl
    · exact (H.blk 1 rfl).trans rfl
    · exact (H.blk 2 rfl).trans rfl
    · exact (H.blk 3 rfl).trans rfl
    · exact (H.blk 4 rfl).trans rfl
    · exact (H.blk 5 rfl).trans rfl
    · exact (H.blk 6 rfl).trans rfl
    · exact (H.blk 7 rfl).trans rfl
    · exact (H.blk 8 rfl).trans rfl
    · exact (H.blk 9 rfl).trans rfl
    · omega
end Go.Proofs.YtndicjikjcifaaaDoor

/- tuskref02.number. -/
namespace Go.Proofs.YtndicjikjcifaaaDoor
open Go.RowKit Go.Proofs.YtndicjikjcifaaaDoorW.PrintWords Go.Proofs.YtndicjikjcifaaaDoorW.PrintLast
set_option linter.unusedVariables false
set_option linter.unusedSimpArgs false
set_option maxRecDepth 100000
open Bl
theorem number_calls (s : ByteArray) (hs : 4 ≤ s.size) (w : World) : Calls Tryd.prog 125 #[.string s] w fun e W => e = .returned (u (num4 s.toList 0)) ∧ Below w.heap.size w W := by
  refine c_enter2 (args := [.string s]) (S := (fun _ => False)) (R := (fun _ => True)) (M := []) Tryd.func125 (by kernel_rfl) 21 Tryd.ntmps125 (Nat.le_of_ble_eq_true rfl) (St.first w (fun _ => False) (fun _ => True)) (fun a W F H => ?_)
  have F := F.less [(0, .string s)] (subc rfl sub0)
  refine c_seq (by kernel_rfl) ?_
  refine c_text (id := 0) (by kernel_rfl) [(0, 2)] (by kernel_rfl) ?_
  refine q2 (o_s 2 (.assign (.const (.int .u32 0))) 113 (by kernel_rfl)) F (by decide) (v := u (0#32)) (x_assign rfl) (fun a F => ?_)
  unfold wpSeq
  have H : St w (fun _ => False) (fun _ => True) [] W := H
  refine t_normal ?_
  refine c_seq (by kernel_rfl) ?_
  refine c_drawn (id := 1) (by kernel_rfl) (by kernel_rfl) (Vs []) [0, 1, 3, 0, 8, 24, 56, 127, 0, 256, 768, 1792, 4095, 0, 8192, 24576, 57344, 131071, 262143] [] [(0, 0), (1, 0), (2, 0), (3, 0), (4, 0), (5, 0), (6, 0), (7, 0), (8, 0), (9, 0), (10, 0), (11, 0), (12, 0), (13, 0), (14, 0), (15, 0), (16, 0), (17, 0), (18, 0)] (by kernel_rfl) (fun _ _ d _ _ h => by cases d <;> exact h) (trivial) ?_
  have H := H.drew
  generalize World.drew W = W at H ⊢
  refine q0 (o_s 3 (.move (.tmp 0)) 9 (by kernel_rfl)) F (by decide) (fun W_ => x_move (F.slot rfl)) (fun a F => ?_)
  refine q0 (o_s 4 (.index 9 (.tmp 3) (.const (.int .i64 0))) 5 (by kernel_rfl)) F (by decide) (v := .int .u8 ((s.toList.getD 0 0).toNat : Int)) (fun W_ => x_indexStr Tryd.underlying9 (F.slot rfl) rfl (by decide) (str_at s 0 (by omega))) (fun a F => ?_)
  refine q0 (o_s 5 (.convert 5 113 (.tmp 4)) 113 (by kernel_rfl)) F (by decide) (v := u (by8 s.toList 0)) (fun W_ => x_byte32 Tryd.underlying5 Tryd.underlying113 (F.slot rfl)) (fun a F => ?_)
  refine q0 (o_s 6 (.move (.tmp 0)) 9 (by kernel_rfl)) F (by decide) (fun W_ => x_move (F.slot rfl)) (fun a F => ?_)
  refine q0 (o_s 7 (.index 9 (.tmp 6) (.const (.int .i64 1))) 5 (by kernel_rfl)) F (by decide) (v := .int .u8 ((s.toList.getD 1 0).toNat : Int)) (fun W_ => x_indexStr Tryd.underlying9 (F.slot rfl) rfl (by decide) (str_at s 1 (by omega))) (fun a F => ?_)
  refine q0 (o_s 8 (.convert 5 113 (.tmp 7)) 113 (by kernel_rfl)) F (by decide) (v := u (by8 s.toList 1)) (fun W_ => x_byte32 Tryd.underlying5 Tryd.underlying113 (F.slot rfl)) (fun a F => ?_)
  refine q0 (o_s 9 (.binOp .mul 113 (.const (.int .u32 256)) (.tmp 8) 113) 113 (by kernel_rfl)) F (by decide) (v := u ((256#32) * (by8 s.toList 1))) (fun W_ => x_mul32 rfl (F.slot rfl)) (fun a F => ?_)
  refine q0 (o_s 10 (.binOp .add 113 (.tmp 5) (.tmp 9) 113) 113 (by kernel_rfl)) F (by decide) (v := u ((by8 s.toList 0) + ((256#32) * (by8 s.toList 1)))) (fun W_ => x_add32 (F.slot rfl) (F.slot rfl)) (fun a F => ?_)
  refine q0 (o_s 11 (.move (.tmp 0)) 9 (by kernel_rfl)) F (by decide) (fun W_ => x_move (F.slot rfl)) (fun a F => ?_)
  refine q0 (o_s 12 (.index 9 (.tmp 11) (.const (.int .i64 2))) 5 (by kernel_rfl)) F (by decide) (v := .int .u8 ((s.toList.getD 2 0).toNat : Int)) (fun W_ => x_indexStr Tryd.underlying9 (F.slot rfl) rfl (by decide) (str_at s 2 (by omega))) (fun a F => ?_)
  refine q0 (o_s 13 (.convert 5 113 (.tmp 12)) 113 (by kernel_rfl)) F (by decide) (v := u (by8 s.toList 2)) (fun W_ => x_byte32 Tryd.underlying5 Tryd.underlying113 (F.slot rfl)) (fun a F => ?_)
  refine q0 (o_s 14 (.binOp .mul 113 (.const (.int .u32 65536)) (.tmp 13) 113) 113 (by kernel_rfl)) F (by decide) (v := u ((65536#32) * (by8 s.toList 2))) (fun W_ => x_mul32 rfl (F.slot rfl)) (fun a F => ?_)
  refine q0 (o_s 15 (.binOp .add 113 (.tmp 10) (.tmp 14) 113) 113 (by kernel_rfl)) F (by decide) (v := u (((by8 s.toList 0) + ((256#32) * (by8 s.toList 1))) + ((65536#32) * (by8 s.toList 2)))) (fun W_ => x_add32 (F.slot rfl) (F.slot rfl)) (fun a F => ?_)
  refine q0 (o_s 16 (.move (.tmp 0)) 9 (by kernel_rfl)) F (by decide) (fun W_ => x_move (F.slot rfl)) (fun a F => ?_)
  refine q0 (o_s 17 (.index 9 (.tmp 16) (.const (.int .i64 3))) 5 (by kernel_rfl)) F (by decide) (v := .int .u8 ((s.toList.getD 3 0).toNat : Int)) (fun W_ => x_indexStr Tryd.underlying9 (F.slot rfl) rfl (by decide) (str_at s 3 (by omega))) (fun a F => ?_)
  refine q0 (o_s 18 (.convert 5 113 (.tmp 17)) 113 (by kernel_rfl)) F (by decide) (v := u (by8 s.toList 3)) (fun W_ => x_byte32 Tryd.underlying5 Tryd.underlying113 (F.slot rfl)) (fun a F => ?_)
  refine q0 (o_s 19 (.binOp .mul 113 (.const (.int .u32 16777216)) (.tmp 18) 113) 113 (by kernel_rfl)) F (by decide) (v := u ((16777216#32) * (by8 s.toList 3))) (fun W_ => x_mul32 rfl (F.slot rfl)) (fun a F => ?_)
  refine q0 (o_s 20 (.binOp .add 113 (.tmp 15) (.tmp 19) 113) 113 (by kernel_rfl)) F (by decide) (v := u ((((by8 s.toList 0) + ((256#32) * (by8 s.toList 1))) + ((65536#32) * (by8 s.toList 2))) + ((16777216#32) * (by8 s.toList 3)))) (fun W_ => x_add32 (F.slot rfl) (F.slot rfl)) (fun a F => ?_)
  refine q0 (o_s 2 (.assign (.tmp 20)) 113 (by kernel_rfl)) F (by decide) (v := u ((((by8 s.toList 0) + ((256#32) * (by8 s.toList 1))) + ((65536#32) * (by8 s.toList 2))) + ((16777216#32) * (by8 s.toList 3)))) (fun W_ => x_assign (F.slot rfl)) (fun a F => ?_)
  unfold wpSeq
  refine t_normal ?_
  refine c_ret (by kernel_rfl) ?_
  refine p_tmp Tryd.results125 F rfl ?_
  exact ⟨rfl, H.ends⟩
end Go.Proofs.YtndicjikjcifaaaDoor
