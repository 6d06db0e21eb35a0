/- Maps as lists of pairs: look-up, store, delete, len. Plain lemmas, no program in sight. -/
import Derived.Test.YtabfngbdbflfaaaOnly
import Derived.Carry
import Derived.Maps.OwnOps
namespace Go.Proofs.Ytabfngbdbflfaaa
open Go.RowKit Go.Proofs.YtabfngbdbflfaaaW.PrintWords Go.Proofs.YtabfngbdbflfaaaW.PrintLast Go.ChangeMaps

namespace AL
variable {κ υ : Type} [DecidableEq κ]
def get : List (κ × υ) → κ → Option υ
  | [], _ => none
  | (k, v) :: m, a => if k = a then some v else get m a
def put : List (κ × υ) → κ → υ → List (κ × υ)
  | [], a, v => [(a, v)]
  | (k, u) :: m, a, v => if k = a then (a, v) :: m else (k, u) :: put m a v
def del : List (κ × υ) → κ → List (κ × υ)
  | [], _ => []
  | (k, u) :: m, a => if k = a then m else (k, u) :: del m a
def keys (m : List (κ × υ)) : List κ := m.map (·.1)
def at? : List (κ × υ) → κ → Option Nat
  | [], _ => none
  | (k, _) :: m, a => if k = a then some 0 else (at? m a).map (· + 1)
theorem get_none {m : List (κ × υ)} {a : κ} : get m a = none ↔ a ∉ keys m := by
  induction m with
  | nil => simp [get, keys]
  | cons p m ih =>
    obtain ⟨k, v⟩ := p
    unfold get
    by_cases h : k = a
    · simp [h, keys]
    · rw [if_neg h, ih]; simp [keys, Ne.symm h]
theorem at_get {m : List (κ × υ)} {a : κ} {i : Nat} (h : at? m a = some i) : ∃ v, m[i]? = some (a, v) ∧ get m a = some v := by
  induction m generalizing i with
  | nil => simp [at?] at h
  | cons p m ih =>
    obtain ⟨k, v⟩ := p
    unfold at? at h
    by_cases hk : k = a
    · rw [if_pos hk] at h
      cases h
      exact ⟨v, by simp [hk], by simp [get, hk]⟩
    · rw [if_neg hk] at h
      obtain ⟨j, hj, rfl⟩ := Option.map_eq_some_iff.1 h
      obtain ⟨u, h1, h2⟩ := ih hj
      exact ⟨u, by simpa using h1, by simp [get, hk, h2]⟩
theorem at_none {m : List (κ × υ)} {a : κ} : at? m a = none ↔ get m a = none := by
  induction m with
  | nil => simp [at?, get]
  | cons p m ih =>
    obtain ⟨k, v⟩ := p
    unfold at? get
    by_cases hk : k = a
    · simp [hk]
    · simp [hk, ih]
theorem put_at {m : List (κ × υ)} {a : κ} {v : υ} {i : Nat} (h : at? m a = some i) : put m a v = m.set i (a, v) := by
  induction m generalizing i with
  | nil => simp [at?] at h
  | cons p m ih =>
    obtain ⟨k, u⟩ := p
    unfold at? at h
    unfold put
    by_cases hk : k = a
    · rw [if_pos hk] at h; cases h; simp [hk]
    · rw [if_neg hk] at h
      obtain ⟨j, hj, rfl⟩ := Option.map_eq_some_iff.1 h
      rw [if_neg hk, ih hj]; rfl
theorem put_none {m : List (κ × υ)} {a : κ} {v : υ} (h : at? m a = none) : put m a v = m ++ [(a, v)] := by
  induction m with
  | nil => rfl
  | cons p m ih =>
    obtain ⟨k, u⟩ := p
    unfold at? at h
    unfold put
    by_cases hk : k = a
    · simp [hk] at h
    · rw [if_neg hk] at h ⊢
      rw [ih (by simpa using h)]; rfl
theorem del_at {m : List (κ × υ)} {a : κ} {i : Nat} (h : at? m a = some i) : del m a = m.eraseIdx i := by
  induction m generalizing i with
  | nil => simp [at?] at h
  | cons p m ih =>
    obtain ⟨k, u⟩ := p
    unfold at? at h
    unfold del
    by_cases hk : k = a
    · rw [if_pos hk] at h; cases h; simp [hk]
    · rw [if_neg hk] at h
      obtain ⟨j, hj, rfl⟩ := Option.map_eq_some_iff.1 h
      rw [if_neg hk, ih hj]; rfl
theorem del_none {m : List (κ × υ)} {a : κ} (h : at? m a = none) : del m a = m := by
  induction m with
  | nil => rfl
  | cons p m ih =>
    obtain ⟨k, u⟩ := p
    unfold at? at h
    unfold del
    by_cases hk : k = a
    · simp [hk] at h
    · rw [if_neg hk] at h ⊢
      rw [ih (by simpa using h)]
theorem get_put (m : List (κ × υ)) (a b : κ) (v : υ) : get (put m a v) b = if a = b then some v else get m b := by
  induction m with
  | nil => rfl
  | cons p m ih =>
    obtain ⟨k, u⟩ := p
    unfold put
    by_cases hk : k = a
    · subst hk
      rw [if_pos rfl]
      by_cases hb : k = b <;> simp [get, hb]
    · rw [if_neg hk]
      by_cases hb : k = b
      · subst hb; simp [get, Ne.symm hk]
      · simp [get, hb, ih]
theorem len_put (m : List (κ × υ)) (a : κ) (v : υ) : (put m a v).length = if get m a = none then m.length + 1 else m.length := by
  by_cases h : at? m a = none
  · rw [put_none h, if_pos (at_none.1 h)]; simp
  · obtain ⟨i, hi⟩ := Option.ne_none_iff_exists'.1 h
    rw [put_at hi, if_neg (fun hn => h (at_none.2 hn)), List.length_set]
end AL

/-- A kind of keys that can be compared: how a key is checked, and found. -/
structure KeyK (P : Program) (T : TypeId) {κ : Type} [DecidableEq κ] (enc : κ → Value) : Prop where
  check : ∀ (a : κ) (emp : Bool) (w : World), (Instr.checkKey emp 10000 T (enc a)).run P w = .ok () w
  find : ∀ {υ : Type} (encV : υ → Value) (a : κ) (es : List MapEntry) (m : List (κ × υ)) (w : World), es.map (fun e => (e.key, e.val)) = m.map (fun p => (enc p.1, encV p.2)) →
    (Instr.findKey T (enc a) es).run P w = .ok ((AL.at? m a).bind fun j => (AL.get m a).map fun v => (j, encV v)) w
  bits : ∀ a, Instr.sameBits 10000 (enc a) (enc a) = true

theorem findNow_of {κ υ : Type} [DecidableEq κ] {encK : κ → Value} {encV : υ → Value} {d : TypeDesc} (hs : ∀ a b, Instr.sameNow d (encK a) (encK b) = some (decide (a = b))) (a : κ) : ∀ (es : List MapEntry) (m : List (κ × υ)) (i : Nat), es.map (fun e => (e.key, e.val)) = m.map (fun p => (encK p.1, encV p.2)) →
    Instr.findNow d (encK a) es i = some ((AL.at? m a).bind fun j => (AL.get m a).map fun v => (i + j, encV v)) := by
  intro es
  induction es with
  | nil =>
    intro m i h
    cases m with
    | nil => rfl
    | cons p m => simp at h
  | cons e es ih =>
    intro m i h
    cases m with
    | nil => simp at h
    | cons p m =>
      obtain ⟨k, v⟩ := p
      simp only [List.map_cons, List.cons.injEq, Prod.mk.injEq] at h
      obtain ⟨⟨h1, h2⟩, h3⟩ := h
      unfold Instr.findNow
      rw [h1, hs]
      by_cases hk : a = k
      · subst hk
        simp [AL.at?, AL.get, h2]
      · simp only [decide_eq_false hk, AL.at?, AL.get, if_neg (Ne.symm hk)]
        rw [ih m (i + 1) h3]
        cases AL.at? m a with
        | none => rfl
        | some j => simp [Nat.add_assoc, Nat.add_comm 1 j]
theorem find_of {P : Program} {T : TypeId} {κ : Type} [DecidableEq κ] {enc : κ → Value} {d : TypeDesc} (hd : P.underlying T = some d) (hs : ∀ a b, Instr.sameNow d (enc a) (enc b) = some (decide (a = b))) {υ : Type} (encV : υ → Value) (a : κ) (es : List MapEntry) (m : List (κ × υ)) (w : World) (h : es.map (fun e => (e.key, e.val)) = m.map (fun p => (enc p.1, encV p.2))) :
    (Instr.findKey T (enc a) es).run P w = .ok ((AL.at? m a).bind fun j => (AL.get m a).map fun v => (j, encV v)) w := by
  have := findNow_of (encV := encV) hs a es m 0 h
  simp only [Nat.zero_add] at this
  exact Go.MapKept.run_findKey hd this
theorem bytes_beq (a b : ByteArray) : (a == b) = decide (a = b) := by
  rcases a with ⟨a⟩
  rcases b with ⟨b⟩
  show (a == b) = _
  rw [Bool.beq_eq_decide_eq]
  simp
theorem KeyK.int {P : Program} {T : TypeId} (q : IntKind) (h : P.underlying T = some (.int q)) : KeyK P T (Value.int q) :=
  ⟨fun a emp w => by rw [show (10000 : Nat) = 9999 + 1 from rfl]; unfold Instr.checkKey; simp [run_underlying h],
   fun {υ} encV => find_of h (fun a b => by simp only [Instr.sameNow, if_true]; rw [Bool.beq_eq_decide_eq]) encV, fun a => by simp [Instr.sameBits]⟩
theorem KeyK.string {P : Program} {T : TypeId} (h : P.underlying T = some .string) : KeyK P T Value.string :=
  ⟨fun a emp w => by rw [show (10000 : Nat) = 9999 + 1 from rfl]; unfold Instr.checkKey; simp [run_underlying h],
   fun {υ} encV => find_of h (fun a b => by simp only [Instr.sameNow]; rw [bytes_beq]) encV, fun a => by simp only [Instr.sameBits]; rw [bytes_beq]; simp⟩

/-- Block b is a map that holds these pairs, in this order. -/
def MapAt {κ υ : Type} (encK : κ → Value) (encV : υ → Value) (w : World) (b : Nat) (m : List (κ × υ)) : Prop :=
  ∃ (es : Array MapEntry) (clock : Nat), w.heap[b]? = some (.map es clock) ∧ es.toList.map (fun e => (e.key, e.val)) = m.map (fun p => (encK p.1, encV p.2)) ∧ (∀ e ∈ es.toList, e.born < clock) ∧ (es.toList.map (·.born)).Nodup

set_option linter.unusedSectionVars false
section
variable {κ υ : Type} [DecidableEq κ] {encK : κ → Value} {encV : υ → Value} {P : Program} {w w' : World} {b : Nat} {m : List (κ × υ)}
theorem MapAt.new (encK : κ → Value) (encV : υ → Value) (w : World) : MapAt encK encV (w.alloc (.map #[] 0)) w.heap.size [] :=
  ⟨#[], 0, blk_new _ _, rfl, by simp, by simp⟩
theorem MapAt.move (h : MapAt encK encV w b m) (hb : w'.heap[b]? = w.heap[b]?) : MapAt encK encV w' b m := by
  obtain ⟨es, c, h1, h2⟩ := h
  exact ⟨es, c, hb.trans h1, h2⟩
theorem MapAt.lt (h : MapAt encK encV w b m) : b < w.heap.size := by
  obtain ⟨es, c, h1, _⟩ := h
  exact blk_lt h1
theorem MapAt.below (h : MapAt encK encV w b m) (hb : Below w.heap.size w w') : MapAt encK encV w' b m := h.move (hb.block b h.lt)
theorem MapAt.only {S : Nat → Prop} (h : MapAt encK encV w b m) (ho : Only S w w') (hd : ¬ S b) : MapAt encK encV w' b m := h.move (ho.block b h.lt hd)

theorem run_look (h : MapAt encK encV w b m) {T kt et : TypeId} (K : KeyK P kt encK) (ht : P.underlying T = some (.map kt et)) (a : κ) (z : υ) (hz : ∀ W : World, (zeroValue et).run P W = .ok (encV z) W) :
    (Instr.lookup T (.map (some b)) (encK a) false).run P w = .ok (encV ((AL.get m a).getD z)) w := by
  obtain ⟨es, c, h1, h2, _⟩ := h
  have hf := K.find encV a es.toList m w h2
  have hg : (getObj b).run P w = .ok (.map es c) w := Go.MapKept.run_getObj_map h1
  unfold Instr.lookup
  simp only [Sem.run_bind, run_underlying ht, Result.andThen_ok, hg, K.check, hf, Sem.run_pure]
  cases hat : AL.at? m a with
  | none =>
    rw [AL.at_none.1 hat]
    simp [hz]
  | some j =>
    obtain ⟨v, _, hv⟩ := AL.at_get hat
    simp [hv]
theorem run_look_ok (h : MapAt encK encV w b m) {T kt et : TypeId} (K : KeyK P kt encK) (ht : P.underlying T = some (.map kt et)) (a : κ) (z : υ) (hz : ∀ W : World, (zeroValue et).run P W = .ok (encV z) W) :
    (Instr.lookup T (.map (some b)) (encK a) true).run P w = .ok (.tuple #[encV ((AL.get m a).getD z), .bool (AL.get m a).isSome]) w := by
  obtain ⟨es, c, h1, h2, _⟩ := h
  have hf := K.find encV a es.toList m w h2
  have hg : (getObj b).run P w = .ok (.map es c) w := Go.MapKept.run_getObj_map h1
  unfold Instr.lookup
  simp only [Sem.run_bind, run_underlying ht, Result.andThen_ok, hg, K.check, hf, Sem.run_pure]
  cases hat : AL.at? m a with
  | none =>
    rw [AL.at_none.1 hat]
    simp [hz]
  | some j =>
    obtain ⟨v, _, hv⟩ := AL.at_get hat
    simp [hv]
theorem run_put (h : MapAt encK encV w b m) {T kt et : TypeId} (K : KeyK P kt encK) (ht : P.underlying T = some (.map kt et)) (a : κ) (v : υ) :
    ∃ w', (Instr.mapUpdate T (.map (some b)) (encK a) (encV v)).run P w = .ok () w' ∧ MapAt encK encV w' b (AL.put m a v) ∧ Only (fun k => k = b) w w' := by
  obtain ⟨es, c, h1, h2, h3, h4⟩ := h
  have hf := K.find encV a es.toList m w h2
  have hg : (getObj b).run P w = .ok (.map es c) w := Go.MapKept.run_getObj_map h1
  have hlen : es.toList.length = m.length := by have := congrArg List.length h2; simpa using this
  have only : ∀ o : Obj, Only (fun k => k = b) w (setBlock w b o) := fun o =>
    ⟨rfl, rfl, rfl, by simp [setBlock], fun i _ hi => heap_setBlock_other h1 _ hi⟩
  cases hat : AL.at? m a with
  | none =>
    refine ⟨setBlock w b (.map (es.push ⟨encK a, encV v, c⟩) (c + 1)), ?_, ⟨_, _, heap_setBlock_same h1 _, ?_, ?_, ?_⟩, only _⟩
    · unfold Instr.mapUpdate
      simp only [Sem.run_bind, run_underlying ht, Result.andThen_ok, hg, K.check, hf, hat, Option.bind_none]
      exact Go.MapKept.run_setObj_map _ h1
    · rw [AL.put_none hat]
      simp [h2]
    · intro e he
      simp at he
      rcases he with he | rfl
      · have := h3 e (by simpa using he); omega
      · show c < c + 1; omega
    · rw [show (es.push ⟨encK a, encV v, c⟩).toList = es.toList ++ [⟨encK a, encV v, c⟩] by simp, List.map_append, List.nodup_append]
      refine ⟨h4, by simp, ?_⟩
      intro x hx y hy
      obtain ⟨e, he, rfl⟩ := List.mem_map.1 hx
      simp at hy
      have := h3 e he
      omega
  | some j =>
    obtain ⟨u, hu, hv⟩ := AL.at_get hat
    have hj : j < es.size := by
      have := (List.getElem?_eq_some_iff.1 hu).1
      simp at hlen; omega
    have hej : es[j]?.map (fun e => (e.key, e.val)) = some (encK a, encV u) := by
      have := congrArg (fun l => l[j]?) h2
      simp [hu] at this
      simpa using this
    obtain ⟨e, he, hk⟩ := Option.map_eq_some_iff.1 hej
    simp only [Prod.mk.injEq] at hk
    refine ⟨setBlock w b (.map (es.modify j fun e => { e with key := encK a, val := encV v }) c), ?_, ⟨_, _, heap_setBlock_same h1 _, ?_, ?_, ?_⟩, only _⟩
    · unfold Instr.mapUpdate
      simp only [Sem.run_bind, run_underlying ht, Result.andThen_ok, hg, K.check, hf, hat, hv, Option.bind_some, Option.map_some, he, Option.getD_some, hk.1]
      unfold Instr.keyThatStays
      rw [K.bits, if_pos rfl]
      simp only [Sem.run_pure, Result.andThen_ok]
      exact Go.MapKept.run_setObj_map _ h1
    · rw [AL.put_at hat, Array.toList_modify]
      apply List.ext_getElem?
      intro i
      have h2i := congrArg (fun l => l[i]?) h2
      simp only [List.getElem?_map] at h2i ⊢
      rw [List.getElem?_modify, List.getElem?_set]
      by_cases hij : j = i
      · subst hij
        rw [if_pos rfl, if_pos (by have := (List.getElem?_eq_some_iff.1 hu).1; exact this)]
        have he' : es.toList[j]? = some e := by simpa using he
        simp [he']
      · simp only [if_neg hij]
        simpa using h2i
    · intro x hx
      rw [Array.toList_modify] at hx
      obtain ⟨i, hi⟩ := List.mem_iff_getElem?.1 hx
      rw [List.getElem?_modify] at hi
      obtain ⟨y, hy, rfl⟩ := Option.map_eq_some_iff.1 hi
      have := h3 y (List.mem_of_getElem? hy)
      split <;> exact this
    · have : (es.modify j fun e => { e with key := encK a, val := encV v }).toList.map (·.born) = es.toList.map (·.born) := by
        rw [Array.toList_modify]
        apply List.ext_getElem?
        intro i
        simp only [List.getElem?_map, List.getElem?_modify]
        cases es.toList[i]? with
        | none => rfl
        | some y => simp only [Option.map_some]; split <;> rfl
      rw [this]
      exact h4
omit [DecidableEq κ] in
theorem map_erase {α β : Type} (f : α → β) (l : List α) (i : Nat) : (l.eraseIdx i).map f = (l.map f).eraseIdx i := by
  rw [List.eraseIdx_eq_take_drop_succ, List.eraseIdx_eq_take_drop_succ, List.map_append, List.map_take, List.map_drop]
theorem run_del (h : MapAt encK encV w b m) {T kt et : TypeId} (K : KeyK P kt encK) (ht : P.underlying T = some (.map kt et)) (a : κ) (ty : TypeId) :
    ∃ w', (Builtin.delete_ #[T, kt] ty #[.map (some b), encK a]).run P w = .ok (.tuple #[]) w' ∧ MapAt encK encV w' b (AL.del m a) ∧ Only (fun k => k = b) w w' := by
  obtain ⟨es, c, h1, h2, h3, h4⟩ := h
  have hf := K.find encV a es.toList m w h2
  have hg : (getObj b).run P w = .ok (.map es c) w := Go.MapKept.run_getObj_map h1
  have hlen : es.toList.length = m.length := by have := congrArg List.length h2; simpa using this
  have only : ∀ o : Obj, Only (fun k => k = b) w (setBlock w b o) := fun o =>
    ⟨rfl, rfl, rfl, by simp [setBlock], fun i _ hi => heap_setBlock_other h1 _ hi⟩
  have hset : ∀ o : Obj, (setObj b o).run P w = .ok () (setBlock w b o) := fun o => Go.MapKept.run_setObj_map o h1
  cases hat : AL.at? m a with
  | none =>
    refine ⟨setBlock w b (.map es c), ?_, ⟨_, _, heap_setBlock_same h1 _, ?_, h3, h4⟩, only _⟩
    · unfold Builtin.delete_
      simp [run_underlying ht, hg, K.check, hf, hat, hset]
    · rw [AL.del_none hat]; exact h2
  | some j =>
    obtain ⟨u, hu, hv⟩ := AL.at_get hat
    have hj : j < es.size := by
      have := (List.getElem?_eq_some_iff.1 hu).1
      simp at hlen; omega
    have het : (es.eraseIdxIfInBounds j).toList = es.toList.eraseIdx j := by
      unfold Array.eraseIdxIfInBounds
      rw [dif_pos hj]
      simp
    refine ⟨setBlock w b (.map (es.eraseIdxIfInBounds j) c), ?_, ⟨_, _, heap_setBlock_same h1 _, ?_, ?_, ?_⟩, only _⟩
    · unfold Builtin.delete_
      simp [run_underlying ht, hg, K.check, hf, hat, hv, hset]
    · rw [AL.del_at hat, het, map_erase, map_erase, h2]
    · intro e he
      rw [het] at he
      exact h3 e (List.mem_of_mem_eraseIdx he)
    · rw [het, map_erase]
      exact h4.sublist (List.eraseIdx_sublist _ _)
theorem run_len (h : MapAt encK encV w b m) {T kt et : TypeId} (ht : P.underlying T = some (.map kt et)) (ty : TypeId) :
    (Builtin.len_ #[T] ty #[.map (some b)]).run P w = .ok (goInt m.length) w := by
  obtain ⟨es, c, h1, h2, _⟩ := h
  have hg : (getObj b).run P w = .ok (.map es c) w := Go.MapKept.run_getObj_map h1
  have hlen : es.size = m.length := by have := congrArg List.length h2; simpa using this
  unfold Builtin.len_
  simp [run_underlying ht, hg, hlen]

/-! At the operation. -/
variable {ops : Array Oper} {rest : List Oper} {o : Oper} {a' : Act} {Q : Exit → Act → World → Prop}
theorem put_list (hg : o.guard = none) (mo x v : Operand) (T : TypeId) (hop : o.op = Op.mapUpdate T mo x v) {kt et : TypeId} (K : KeyK P kt encK) (ht : P.underlying T = some (.map kt et)) (b : Nat) (m : List (κ × υ)) (h : MapAt encK encV w b m)
    (hm : a'.eval mo = .map (some b)) (k : κ) (u : υ) (hx : a'.eval x = encK k) (hv : a'.eval v = encV u)
    (hK : ∀ w', MapAt encK encV w' b (AL.put m k u) → Only (fun i => i = b) w w' → wpList P ops Q rest (a'.put o.dst undef) w') : wpList P ops Q (o :: rest) a' w := by
  refine wpList_plain hg fun K' hK' => ?_
  obtain ⟨w', hrun, r1, r2⟩ := run_put h K ht k u
  unfold Oper.wp
  simp [execOp, hop, hm, hx, hv, hrun, Result.andThen]
  exact hK' _ _ (hK w' r1 r2)
theorem del_list (hg : o.guard = none) (mo x : Operand) (T kt : TypeId) (hop : o.op = Op.call { callee := Callee.builtin Builtin.delete, args := #[mo, x], argTypes := #[T, kt] }) {et : TypeId} (K : KeyK P kt encK) (ht : P.underlying T = some (.map kt et)) (b : Nat) (m : List (κ × υ)) (h : MapAt encK encV w b m)
    (hm : a'.eval mo = .map (some b)) (k : κ) (hx : a'.eval x = encK k)
    (hK : ∀ w', MapAt encK encV w' b (AL.del m k) → Only (fun i => i = b) w w' → wpList P ops Q rest (a'.put o.dst (.tuple #[])) w') : wpList P ops Q (o :: rest) a' w := by
  refine wpList_plain hg fun K' hK' => ?_
  obtain ⟨w', hrun, r1, r2⟩ := run_del h K ht k o.type
  unfold Oper.wp
  simp [execOp, hop, resolve, invoke, builtin, hm, hx, hrun, Result.andThen]
  exact hK' _ _ (hK w' r1 r2)
theorem look_list (hg : o.guard = none) (mo x : Operand) (T : TypeId) (hop : o.op = Op.lookup T mo x false) {kt et : TypeId} (K : KeyK P kt encK) (ht : P.underlying T = some (.map kt et)) (b : Nat) (m : List (κ × υ)) (h : MapAt encK encV w b m)
    (hm : a'.eval mo = .map (some b)) (k : κ) (hx : a'.eval x = encK k) (z : υ) (hz : ∀ W : World, (zeroValue et).run P W = .ok (encV z) W)
    (hK : wpList P ops Q rest (a'.put o.dst (encV ((AL.get m k).getD z))) w) : wpList P ops Q (o :: rest) a' w := by
  refine wpList_plain hg fun K' hK' => ?_
  have hrun := run_look h K ht k z hz
  unfold Oper.wp
  simp [execOp, hop, hm, hx, hrun, Result.andThen]
  exact hK' _ _ hK
theorem look_ok_list (hg : o.guard = none) (mo x : Operand) (T : TypeId) (hop : o.op = Op.lookup T mo x true) {kt et : TypeId} (K : KeyK P kt encK) (ht : P.underlying T = some (.map kt et)) (b : Nat) (m : List (κ × υ)) (h : MapAt encK encV w b m)
    (hm : a'.eval mo = .map (some b)) (k : κ) (hx : a'.eval x = encK k) (z : υ) (hz : ∀ W : World, (zeroValue et).run P W = .ok (encV z) W)
    (hK : wpList P ops Q rest (a'.put o.dst (.tuple #[encV ((AL.get m k).getD z), .bool (AL.get m k).isSome])) w) : wpList P ops Q (o :: rest) a' w := by
  refine wpList_plain hg fun K' hK' => ?_
  have hrun := run_look_ok h K ht k z hz
  unfold Oper.wp
  simp [execOp, hop, hm, hx, hrun, Result.andThen]
  exact hK' _ _ hK
theorem len_list (hg : o.guard = none) (mo : Operand) (T : TypeId) (hop : o.op = Op.call { callee := Callee.builtin Builtin.len, args := #[mo], argTypes := #[T] }) {kt et : TypeId} (ht : P.underlying T = some (.map kt et)) (b : Nat) (m : List (κ × υ)) (h : MapAt encK encV w b m)
    (hm : a'.eval mo = .map (some b))
    (hK : wpList P ops Q rest (a'.put o.dst (.int .i64 m.length)) w) : wpList P ops Q (o :: rest) a' w := by
  refine wpList_plain hg fun K' hK' => ?_
  have hrun := run_len h ht o.type
  unfold Oper.wp
  simp [execOp, hop, resolve, invoke, builtin, hm, hrun, Result.andThen]
  exact hK' _ _ hK
end
end Go.Proofs.Ytabfngbdbflfaaa
