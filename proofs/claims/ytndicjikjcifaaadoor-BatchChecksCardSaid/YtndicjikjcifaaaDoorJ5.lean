/- Texts joined by wip/tools/slim2.py: Rblock, Rsump, Rdig, Mixreg, Mixcol, Mixblock. -/
import Derived.Test.YtndicjikjcifaaaDoorJ4
import Derived.Test.YtndicjikjcifaaaDoorProg
/- tuskref02.block. -/
namespace Go.Proofs.YtndicjikjcifaaaDoor
open Go.RowKit Go.Proofs.YtndicjikjcifaaaDoorW.PrintWords Go.Proofs.YtndicjikjcifaaaDoorW.PrintLast
set_option linter.unusedVariables false
set_option linter.unusedSimpArgs false
set_option maxRecDepth 100000
open Bl
set_option maxHeartbeats 4000000 in
theorem rblock_calls (gh ga gr : Nat) (G : Nat → Nat) (h : Words) (s : ByteArray) (hs : s.size = 64) (t : Int) (last : Bool) (w : World) (hT : Tabs gh h ga gr G 113 3 130 w) :
    Calls Tryd.prog 101 #[.slice (some ⟨gh, 0, none⟩) 8 8, .slice (some ⟨gr, 0, none⟩) 10 10, .slice (some ⟨ga, 0, none⟩) 32 32, .string s, .int .i64 t, .bool last] w fun e W =>
      ∃ g, e = .returned (.slice (some ⟨g, 0, none⟩) 8 8) ∧ w.heap.size ≤ g ∧ W.heap[g]? = some (.cells (wsN 8 (blockF h s.toList t last)).toArray 113 (0, 0)) ∧ Below w.heap.size w W := by
  have H0 : St w (fun _ => False) (fun _ => True) [Asn.ft (Tabs gh h ga gr G 113 3 130) (fun k => k < w.heap.size), Asn.rd kW (fun k => k < w.heap.size) (some ⟨gh, 0, none⟩) 8 ((List.range 8).map h)] w := ((St.first w _ _).old _ hT.old (fun B hB => by cases hB)).oldAt _ hT.words
  refine c_enter2 (args := [.slice (some ⟨gh, 0, none⟩) 8 8, .slice (some ⟨gr, 0, none⟩) 10 10, .slice (some ⟨ga, 0, none⟩) 32 32, .string s, .int .i64 t, .bool last]) (S := (fun _ => False)) (R := (fun _ => True)) (M := [Asn.ft (Tabs gh h ga gr G 113 3 130) (fun k => k < w.heap.size), Asn.rd kW (fun k => k < w.heap.size) (some ⟨gh, 0, none⟩) 8 ((List.range 8).map h)]) Tryd.func101 (by kernel_rfl) 179 Tryd.ntmps101 (Nat.le_of_ble_eq_true rfl) (H0) (fun a W F H => ?_)
  have F := F.less [(0, .slice (some ⟨gh, 0, none⟩) 8 8), (1, .slice (some ⟨gr, 0, none⟩) 10 10), (2, .slice (some ⟨ga, 0, none⟩) 32 32), (3, .string s), (4, .int .i64 t), (5, .bool last)] (subc rfl (subc rfl (subc rfl (subc rfl (subc rfl (subc rfl sub0))))))
  refine c_seq (by kernel_rfl) ?_
  refine c_text (id := 0) (by kernel_rfl) [(0, 2)] (by kernel_rfl) ?_
  refine q2 (o_s 12 (.assign (.const (.slice none 0 0))) 126 (by kernel_rfl)) F (by decide) (v := .slice none 0 0) (x_assign rfl) (fun a F => ?_)
  unfold wpSeq
  have H : St w (fun _ => False) (fun _ => True) [Asn.ft (Tabs gh h ga gr G 113 3 130) (fun k => k < w.heap.size), Asn.rd kW (fun k => k < w.heap.size) (some ⟨gh, 0, none⟩) 8 ((List.range 8).map h)] W := H
  refine t_normal ?_
  refine c_seq (by kernel_rfl) ?_
  refine c_text (id := 1) (by kernel_rfl) [(0, 2), (1, 2)] (by kernel_rfl) ?_
  refine sq_make (q := 16) (o_s 29 (.makeSlice 126 (.const (.int .i64 16)) (.const (.int .i64 16))) 126 (by kernel_rfl)) trivial F (by decide) rfl rfl Tryd.underlying126 (show (Tryd.prog.info? 113).map (fun i => (i.zero, i.size, i.bytes)) = some (some (.int .u32 0), 1, 4) by kernel_rfl) rfl (by decide) (by decide) H ?_
  intro g1 W a hg1 H F
  rw [show List.replicate 16 (Value.int .u32 0) = wsN 16 (part (loadF s.toList) 0) from rfl] at H
  have H : St w (fun _ => False) (fun _ => True) [Asn.ft (Tabs gh h ga gr G 113 3 130) (fun k => k < w.heap.size), Asn.rd kW (fun k => k < w.heap.size) (some ⟨gh, 0, none⟩) 8 ((List.range 8).map h), Asn.blk g1 (wsN 16 (part (loadF s.toList) 0)) 113] W := H
  refine ⟨(fun _ => trivial), ?_⟩
  refine q2 (o_s 13 (.assign (.tmp 29)) 126 (by kernel_rfl)) F (by decide) (v := .slice (some ⟨g1, 0, none⟩) 16 16) (x_assign (F.slot rfl)) (fun a F => ?_)
  unfold wpSeq
  refine t_normal ?_
  refine c_seq (by kernel_rfl) ?_
  refine c_seq (by kernel_rfl) ?_
  refine c_text (id := 2) (by kernel_rfl) [(0, 2)] (by kernel_rfl) ?_
  refine q2 (o_s 14 (.assign (.const (.int .i64 0))) 3 (by kernel_rfl)) F (by decide) (v := .int .i64 0) (x_assign rfl) (fun a F => ?_)
  unfold wpSeq
  refine t_normal ?_
  refine c_block (id := 0) (by kernel_rfl) ?_
  refine c_loop (by kernel_rfl) (fun k a W => ∃ (i : Nat), Fr 179 [(0, .slice (some ⟨gh, 0, none⟩) 8 8), (1, .slice (some ⟨gr, 0, none⟩) 10 10), (2, .slice (some ⟨ga, 0, none⟩) 32 32), (3, .string s), (4, .int .i64 t), (5, .bool last), (12, .slice none 0 0), (29, .slice (some ⟨g1, 0, none⟩) 16 16), (13, .slice (some ⟨g1, 0, none⟩) 16 16), (14, .int .i64 (i : Int))] a ∧ St w (fun _ => False) (fun _ => True) [Asn.ft (Tabs gh h ga gr G 113 3 130) (fun k => k < w.heap.size), Asn.rd kW (fun k => k < w.heap.size) (some ⟨gh, 0, none⟩) 8 ((List.range 8).map h), Asn.blk g1 (wsN 16 (part (loadF s.toList) i)) 113] W ∧ (i ≤ 16) ∧ (k + i = 16)) 16 ⟨0, F.less _ (subc rfl (subc rfl (subc rfl (subc rfl (subc rfl (subc rfl (subc rfl (subc rfl (subc rfl (subc rfl sub0)))))))))), H, (by decide), rfl⟩ ?_
  rintro k a W ⟨i, F, H, hi, hki⟩
  refine c_seq (by kernel_rfl) ?_
  refine c_seq (by kernel_rfl) ?_
  refine c_text (id := 3) (by kernel_rfl) [(0, 2), (1, 2)] (by kernel_rfl) ?_
  refine q2 (o_s 30 (.move (.tmp 14)) 3 (by kernel_rfl)) F (by decide) (x_move (F.slot rfl)) (fun a F => ?_)
  refine q2 (o_s 31 (.binOp .lss 3 (.tmp 30) (.const (.int .i64 16)) 3) 4 (by kernel_rfl)) F (by decide) (v := .bool (decide ((i : Int) < (16 : Int)))) (x_int (F.slot rfl) rfl rfl) (fun a F => ?_)
  unfold wpSeq
  have H : St w (fun _ => False) (fun _ => True) [Asn.ft (Tabs gh h ga gr G 113 3 130) (fun k => k < w.heap.size), Asn.rd kW (fun k => k < w.heap.size) (some ⟨gh, 0, none⟩) 8 ((List.range 8).map h), Asn.blk g1 (wsN 16 (part (loadF s.toList) i)) 113] W := H
  refine t_normal ?_
  rcases bool_or (decide ((i : Int) < (16 : Int))) with hb1 | hb1
  · have hb1d := of_decide_eq_true hb1
    have F := F.at 31 rfl (v' := .bool true) (congrArg Value.bool hb1)
    refine c_yes (c := .tmp 31) (by kernel_rfl) (F.slot rfl) ?_
    refine c_skip (by kernel_rfl) ?_
    refine t_normal ?_
    refine c_seq (by kernel_rfl) ?_
    refine c_block (id := 1) (by kernel_rfl) ?_
    refine c_text (id := 5) (by kernel_rfl) [(0, 2), (1, 2), (2, 2), (3, 2), (4, 2), (5, 2), (6, 2), (7, 2), (8, 2), (9, 2), (10, 2), (11, 2)] (by kernel_rfl) ?_
    refine q2 (o_s 34 (.move (.tmp 13)) 126 (by kernel_rfl)) F (by decide) (x_move (F.slot rfl)) (fun a F => ?_)
    refine q2 (o_s 35 (.move (.tmp 14)) 3 (by kernel_rfl)) F (by decide) (x_move (F.slot rfl)) (fun a F => ?_)
    refine q2 (o_s 36 (.move (.tmp 3)) 9 (by kernel_rfl)) F (by decide) (x_move (F.slot rfl)) (fun a F => ?_)
    refine q2 (o_s 37 (.move (.tmp 14)) 3 (by kernel_rfl)) F (by decide) (x_move (F.slot rfl)) (fun a F => ?_)
    refine q2 (o_s 38 (.binOp .mul 3 (.const (.int .i64 4)) (.tmp 37) 3) 3 (by kernel_rfl)) F (by decide) (v := .int .i64 (IntKind.i64.wrap (4 * (i : Int)))) (x_int rfl (F.slot rfl) rfl) (fun a F => ?_)
    have F := F.conv (v' := .int .i64 ((4 * i : Nat) : Int)) (congrArg (Value.int .i64) ((wrap_i64 _ (by omega) (by omega)).trans (by omega)))
    refine q2 (o_s 39 (.move (.tmp 14)) 3 (by kernel_rfl)) F (by decide) (x_move (F.slot rfl)) (fun a F => ?_)
    refine q2 (o_s 40 (.binOp .mul 3 (.const (.int .i64 4)) (.tmp 39) 3) 3 (by kernel_rfl)) F (by decide) (v := .int .i64 (IntKind.i64.wrap (4 * (i : Int)))) (x_int rfl (F.slot rfl) rfl) (fun a F => ?_)
    have F := F.conv (v' := .int .i64 ((4 * i : Nat) : Int)) (congrArg (Value.int .i64) ((wrap_i64 _ (by omega) (by omega)).trans (by omega)))
    refine q2 (o_s 41 (.binOp .add 3 (.tmp 40) (.const (.int .i64 4)) 3) 3 (by kernel_rfl)) F (by decide) (v := .int .i64 (IntKind.i64.wrap (((4 * i : Nat) : Int) + 4))) (x_int (F.slot rfl) rfl rfl) (fun a F => ?_)
    have F := F.conv (v' := .int .i64 ((4 * i + 4 : Nat) : Int)) (congrArg (Value.int .i64) ((wrap_i64 _ (by omega) (by omega)).trans (by omega)))
    refine q2 (o_s 42 (.slice 9 (.tmp 36) (some (.tmp 38)) (some (.tmp 41)) none) 9 (by kernel_rfl)) F (by decide) (v := .string (s.extract (4 * i) (4 * i + 4))) ((x_sliceSS Tryd.underlying9 (F.slot rfl) (F.slot rfl) (F.slot rfl) (by omega) (by omega) (by omega)).trans (by rw [Int.toNat_natCast, Int.toNat_natCast])) (fun a F => ?_)
    have HK := number_calls (s.extract (4 * i) (4 * i + 4)) (by simp only [ByteArray.size_extract]; omega) W
    rw [num4_cut s i (by omega)] at HK
    refine sqc (o_s 43 (.call { callee := (.value (.func 125)), args := #[(.tmp 42)], argTypes := #[9] }) 113 (by kernel_rfl)) trivial F (by decide) (x_call Tryd.func125 (by kernel_rfl) rfl (args_1 (F.slot rfl))) (HK) ?_
    rintro e W ⟨rfl, hB⟩
    refine ⟨_, rfl, fun a F => ?_⟩
    have H := H.below hB
    refine ⟨(fun _ => trivial), ?_⟩
    refine q2 (o_s 44 (.indexAddr 126 (.tmp 34) (.tmp 35)) 0 (by kernel_rfl)) F (by decide) (v := .pointer (some ⟨g1, i, none⟩)) (x_ix0 (i := i) Tryd.underlying126 (Tryd.sizeOf113 W) (F.slot rfl) (F.slot rfl) rfl (by omega)) (fun a F => ?_)
    obtain ⟨w_2, ew_2⟩ : ∃ Z_, Z_ = upd (part (loadF s.toList) i) i (loadF s.toList i) := ⟨_, rfl⟩
    refine sq_put (M := [Asn.ft (Tabs gh h ga gr G 113 3 130) (fun k => k < w.heap.size), Asn.rd kW (fun k => k < w.heap.size) (some ⟨gh, 0, none⟩) 8 ((List.range 8).map h), Asn.blk g1 (wsN 16 w_2) 113]) (o_n (.store 113 (.tmp 44) (.tmp 43)) 0 (by kernel_rfl)) trivial F (by rw [ew_2, ← ws_upd (part (loadF s.toList) i) (by omega) (loadF s.toList i)]; exact x_store1 H (k := 2) rfl (Tryd.sizeOf113 W) (F.slot rfl) (F.slot rfl) rfl rfl (by rw [wsN_len]; exact (by omega))) ?_
    intro W H
    refine ⟨(fun _ => trivial), ?_⟩
    unfold wpSeq
    refine b_normal ?_
    refine t_normal ?_
    refine c_text (id := 4) (by kernel_rfl) [(0, 2), (1, 2), (2, 2)] (by kernel_rfl) ?_
    refine q2 (o_s 32 (.move (.tmp 14)) 3 (by kernel_rfl)) F (by decide) (x_move (F.slot rfl)) (fun a F => ?_)
    refine q2 (o_s 33 (.binOp .add 3 (.tmp 32) (.const (.int .i64 1)) 3) 3 (by kernel_rfl)) F (by decide) (v := .int .i64 (IntKind.i64.wrap ((i : Int) + 1))) (x_int (F.slot rfl) rfl rfl) (fun a F => ?_)
    refine q2 (o_s 14 (.assign (.tmp 33)) 3 (by kernel_rfl)) F (by decide) (v := .int .i64 (IntKind.i64.wrap ((i : Int) + 1))) (x_assign (F.slot rfl)) (fun a F => ?_)
    unfold wpSeq
    refine t_normal ?_
    have F_ := F
    rw [show w_2 = part (loadF s.toList) (i + 1) from ew_2.trans (part_succ _ _)] at H
    have F := F.at 14 rfl (v' := .int .i64 ((i + 1 : Nat) : Int)) (congrArg (Value.int .i64) ((wrap_i64 _ (by omega) (by omega)).trans (by omega)))
    exact ⟨k - 1, by omega, i + 1, F.less _ (subc rfl (subc rfl (subc rfl (subc rfl (subc rfl (subc rfl (subc rfl (subc rfl (subc rfl (subc rfl sub0)))))))))), H, (by omega), (by omega)⟩
  · have hb1d := of_decide_eq_false hb1
    have F := F.at 31 rfl (v' := .bool false) (congrArg Value.bool hb1)
    refine c_no (c := .tmp 31) (by kernel_rfl) (F.slot rfl) ?_
    refine c_exit (id := 0) (by kernel_rfl) ?_
    refine t_exit ?_
    refine t_exit ?_
    refine b_here ?_
    refine t_normal ?_
    refine c_seq (by kernel_rfl) ?_
    obtain rfl : i = 16 := by omega
    rw [part_all] at H
    obtain ⟨m0, hm0⟩ : ∃ Z_, Z_ = loadF s.toList := ⟨_, rfl⟩
    rw [← hm0] at H
    have H : St w (fun _ => False) (fun _ => True) [Asn.ft (Tabs gh h ga gr G 113 3 130) (fun k => k < w.heap.size), Asn.rd kW (fun k => k < w.heap.size) (some ⟨gh, 0, none⟩) 8 ((List.range 8).map h), Asn.blk g1 (wsN 16 m0) 113] W := H
    refine c_text (id := 6) (by kernel_rfl) [(0, 2), (1, 2), (2, 2), (3, 2), (4, 2), (5, 2)] (by kernel_rfl) ?_
    refine sq_lit0 kW (o_s 45 (.buildSlice 126 0 #[]) 126 (by kernel_rfl)) trivial F (by decide) Tryd.underlying126 (show (Tryd.prog.info? 113).map (fun i => (i.zero, i.size, i.bytes)) = some (some (.int .u32 0), 1, 4) by kernel_rfl) H ?_
    intro A6_0 W a H F
    refine ⟨(fun _ => trivial), ?_⟩
    refine q2 (o_s 46 (.move (.tmp 0)) 126 (by kernel_rfl)) F (by decide) (x_move (F.slot rfl)) (fun a F => ?_)
    refine sq_rapp kW 3 1 (by decide) (o_s 47 (.call { callee := (.builtin .append), args := #[(.tmp 45), (.tmp 46)], argTypes := #[126, 126] }) 126 (by kernel_rfl)) trivial F (by decide) (F.slot rfl) (F.slot rfl) (rfl) Tryd.underlying126 (show (Tryd.prog.info? 113).map (fun i => (i.zero, i.size, i.bytes)) = some (some (.int .u32 0), 1, 4) by kernel_rfl) rfl (by decide) (by decide) H rfl rfl (by simp) ?_
    intro v_ W a H F
    rw [List.nil_append] at H
    have H := H.quFlat 3 kW_flat rfl
    obtain ⟨A6_2, c6_2, rfl, hc6_2⟩ := (H.qu 3 rfl).form
    have H : St w (fun _ => False) (fun _ => True) [Asn.ft (Tabs gh h ga gr G 113 3 130) (fun k => k < w.heap.size), Asn.rd kW (fun k => k < w.heap.size) (some ⟨gh, 0, none⟩) 8 ((List.range 8).map h), Asn.blk g1 (wsN 16 m0) 113, Asn.qu kW 113 (.slice A6_2 ((((List.range 8).map h)).length) c6_2) ((List.range 8).map h) (fun _ => False)] W := H
    refine ⟨(fun _ => trivial), ?_⟩
    refine sqc (o_s 48 (.call { callee := (.value (.func 98)), args := #[], argTypes := #[] }) 126 (by kernel_rfl)) trivial F (by decide) (x_call Tryd.func98 (by kernel_rfl) rfl (args_0)) (firsts2_calls W) ?_
    rintro e W ⟨gf, rfl, hgf, hfb, hB⟩
    refine ⟨_, rfl, fun a F => ?_⟩
    have H := H.freshF hB _ _ (words_foot firstsF hfb (by decide)) (fun k hk => hk ▸ hgf)
    have H : St w (fun _ => False) (fun _ => True) [Asn.ft (Tabs gh h ga gr G 113 3 130) (fun k => k < w.heap.size), Asn.rd kW (fun k => k < w.heap.size) (some ⟨gh, 0, none⟩) 8 ((List.range 8).map h), Asn.blk g1 (wsN 16 m0) 113, Asn.qu kW 113 (.slice A6_2 ((((List.range 8).map h)).length) c6_2) ((List.range 8).map h) (fun _ => False), Asn.rd kW _ (some ⟨gf, 0, none⟩) 8 ((List.range 8).map firstsF)] W := H
    refine ⟨(fun _ => trivial), ?_⟩
    refine sq_rapp kW 3 4 (by decide) (o_s 49 (.call { callee := (.builtin .append), args := #[(.tmp 47), (.tmp 48)], argTypes := #[126, 126] }) 126 (by kernel_rfl)) trivial F (by decide) (F.slot rfl) (F.slot rfl) (rfl) Tryd.underlying126 (show (Tryd.prog.info? 113).map (fun i => (i.zero, i.size, i.bytes)) = some (some (.int .u32 0), 1, 4) by kernel_rfl) rfl (by decide) (by decide) H rfl rfl (by simp) ?_
    intro v_ W a H F
    have H := H.quFlat 3 kW_flat rfl
    obtain ⟨A6_4, c6_4, rfl, hc6_4⟩ := (H.qu 3 rfl).form
    have H : St w (fun _ => False) (fun _ => True) [Asn.ft (Tabs gh h ga gr G 113 3 130) (fun k => k < w.heap.size), Asn.rd kW (fun k => k < w.heap.size) (some ⟨gh, 0, none⟩) 8 ((List.range 8).map h), Asn.blk g1 (wsN 16 m0) 113, Asn.qu kW 113 (.slice A6_4 (((((List.range 8).map h) ++ ((List.range 8).map firstsF))).length) c6_4) (((List.range 8).map h) ++ ((List.range 8).map firstsF)) (fun _ => False), Asn.rd kW _ (some ⟨gf, 0, none⟩) 8 ((List.range 8).map firstsF)] W := H
    refine ⟨(fun _ => trivial), ?_⟩
    refine q2 (o_s 15 (.assign (.tmp 49)) 126 (by kernel_rfl)) F (by decide) (v := .slice A6_4 (((((List.range 8).map h) ++ ((List.range 8).map firstsF))).length) c6_4) (x_assign (F.slot rfl)) (fun a F => ?_)
    unfold wpSeq
    refine t_normal ?_
    refine c_seq (by kernel_rfl) ?_
    rw [show (((List.range 8).map h) ++ ((List.range 8).map firstsF)) = (List.range 16).map (start0 h) from rfl] at H F
    rw [show ((List.range 16).map (start0 h)).length = 16 from by simp] at H F
    obtain ⟨gw, o, pre, post, hA_, hpre, H⟩ := H.quBlk 3 rfl
    subst hA_
    have F := F.less [(0, .slice (some ⟨gh, 0, none⟩) 8 8), (1, .slice (some ⟨gr, 0, none⟩) 10 10), (2, .slice (some ⟨ga, 0, none⟩) 32 32), (3, .string s), (4, .int .i64 t), (5, .bool last), (12, .slice none 0 0), (29, .slice (some ⟨g1, 0, none⟩) 16 16), (13, .slice (some ⟨g1, 0, none⟩) 16 16), (14, .int .i64 (16 : Int)), (30, .int .i64 (16 : Int)), (31, .bool false), (46, .slice (some ⟨gh, 0, none⟩) 8 8), (48, .slice (some ⟨gf, 0, none⟩) 8 8), (49, .slice (some ⟨gw, o, none⟩) 16 c6_4), (15, .slice (some ⟨gw, o, none⟩) 16 c6_4)] (subc rfl (subc rfl (subc rfl (subc rfl (subc rfl (subc rfl (subc rfl (subc rfl (subc rfl (subc rfl (subc rfl (subc rfl (subc rfl (subc rfl (subc rfl (subc rfl sub0))))))))))))))))
    have H : St w (fun _ => False) (fun _ => True) [Asn.ft (Tabs gh h ga gr G 113 3 130) (fun k => k < w.heap.size), Asn.rd kW (fun k => k < w.heap.size) (some ⟨gh, 0, none⟩) 8 ((List.range 8).map h), Asn.blk g1 (wsN 16 m0) 113, Asn.blk gw (mid pre post (start0 h)) 113, Asn.rd kW _ (some ⟨gf, 0, none⟩) 8 ((List.range 8).map firstsF)] W := H
    refine c_text (id := 7) (by kernel_rfl) [(0, 2), (1, 2), (2, 2), (3, 2), (4, 2), (5, 2), (6, 2), (7, 2), (8, 2)] (by kernel_rfl) ?_
    refine q2 (o_s 50 (.move (.tmp 15)) 126 (by kernel_rfl)) F (by decide) (x_move (F.slot rfl)) (fun a F => ?_)
    refine q2 (o_s 51 (.move (.tmp 15)) 126 (by kernel_rfl)) F (by decide) (x_move (F.slot rfl)) (fun a F => ?_)
    refine q2 (o_s 52 (.indexAddr 126 (.tmp 51) (.const (.int .i64 12))) 0 (by kernel_rfl)) F (by decide) (v := .pointer (some ⟨gw, (o + 12), none⟩)) (x_ixo (i := 12) Tryd.underlying126 (Tryd.sizeOf113 W) (F.slot rfl) rfl rfl (by decide)) (fun a F => ?_)
    refine q2 (o_s 53 (.load 113 (.tmp 52)) 113 (by kernel_rfl)) F (by decide) (v := u ((start0 h) 12)) (x_load1 (Tryd.isAgg113 W) (F.slot rfl) (bcell (H.get 3 rfl) (mid_at hpre (by decide)))) (fun a F => ?_)
    refine q2 (o_s 54 (.move (.tmp 4)) 3 (by kernel_rfl)) F (by decide) (x_move (F.slot rfl)) (fun a F => ?_)
    refine q2 (o_s 55 (.convert 3 113 (.tmp 54)) 113 (by kernel_rfl)) F (by decide) (v := u (BitVec.ofInt 32 t)) (x_toU32 Tryd.underlying3 Tryd.underlying113 (F.slot rfl)) (fun a F => ?_)
    refine q2 (o_s 56 (.binOp .xor 113 (.tmp 53) (.tmp 55) 113) 113 (by kernel_rfl)) F (by decide) (v := u (((start0 h) 12) ^^^ (BitVec.ofInt 32 t))) (x_xor32 (F.slot rfl) (F.slot rfl)) (fun a F => ?_)
    refine q2 (o_s 57 (.indexAddr 126 (.tmp 50) (.const (.int .i64 12))) 0 (by kernel_rfl)) F (by decide) (v := .pointer (some ⟨gw, (o + 12), none⟩)) (x_ixo (i := 12) Tryd.underlying126 (Tryd.sizeOf113 W) (F.slot rfl) rfl rfl (by decide)) (fun a F => ?_)
    obtain ⟨w_3, ew_3⟩ : ∃ Z_, Z_ = upd (start0 h) 12 (((start0 h) 12) ^^^ (BitVec.ofInt 32 t)) := ⟨_, rfl⟩
    refine sq_put (M := [Asn.ft (Tabs gh h ga gr G 113 3 130) (fun k => k < w.heap.size), Asn.rd kW (fun k => k < w.heap.size) (some ⟨gh, 0, none⟩) 8 ((List.range 8).map h), Asn.blk g1 (wsN 16 m0) 113, Asn.blk gw (mid pre post w_3) 113, Asn.rd kW _ (some ⟨gf, 0, none⟩) 8 ((List.range 8).map firstsF)]) (o_n (.store 113 (.tmp 57) (.tmp 56)) 0 (by kernel_rfl)) trivial F (by rw [ew_3, ← mid_upd hpre (by decide) (((start0 h) 12) ^^^ (BitVec.ofInt 32 t))]; exact x_store1 H (k := 3) rfl (Tryd.sizeOf113 W) (F.slot rfl) (F.slot rfl) rfl rfl (mid_lt hpre (by decide))) ?_
    intro W H
    refine ⟨(fun _ => trivial), ?_⟩
    unfold wpSeq
    refine t_normal ?_
    obtain ⟨S0, hS0⟩ : ∃ Z_, Z_ = startF h (BitVec.ofInt 32 t) last := ⟨_, rfl⟩
    refine c_cut (by kernel_rfl) (fun a W => Fr 179 [(0, .slice (some ⟨gh, 0, none⟩) 8 8), (1, .slice (some ⟨gr, 0, none⟩) 10 10), (2, .slice (some ⟨ga, 0, none⟩) 32 32), (13, .slice (some ⟨g1, 0, none⟩) 16 16), (15, .slice (some ⟨gw, o, none⟩) 16 c6_4)] a ∧ St w (fun _ => False) (fun _ => True) [Asn.ft (Tabs gh h ga gr G 113 3 130) (fun k => k < w.heap.size), Asn.rd kW (fun k => k < w.heap.size) (some ⟨gh, 0, none⟩) 8 ((List.range 8).map h), Asn.blk g1 (wsN 16 m0) 113, Asn.blk gw (mid pre post (rounds m0 0 S0)) 113] W) ?_ ?_
    · refine c_seq (by kernel_rfl) ?_
      refine c_text (id := 8) (by kernel_rfl) [(0, 2)] (by kernel_rfl) ?_
      refine q2 (o_s 58 (.move (.tmp 5)) 4 (by kernel_rfl)) F (by decide) (x_move (F.slot rfl)) (fun a F => ?_)
      unfold wpSeq
      refine t_normal ?_
      rcases bool_or last with hb4 | hb4
      · have F := F.at 58 rfl (v' := .bool true) (congrArg Value.bool hb4)
        refine c_yes (c := .tmp 58) (by kernel_rfl) (F.slot rfl) ?_
        refine c_text (id := 9) (by kernel_rfl) [(0, 2), (1, 2), (2, 2), (3, 2), (4, 2), (5, 2), (6, 2)] (by kernel_rfl) ?_
        refine q2 (o_s 59 (.move (.tmp 15)) 126 (by kernel_rfl)) F (by decide) (x_move (F.slot rfl)) (fun a F => ?_)
        refine q2 (o_s 60 (.move (.tmp 15)) 126 (by kernel_rfl)) F (by decide) (x_move (F.slot rfl)) (fun a F => ?_)
        refine q2 (o_s 61 (.indexAddr 126 (.tmp 60) (.const (.int .i64 14))) 0 (by kernel_rfl)) F (by decide) (v := .pointer (some ⟨gw, (o + 14), none⟩)) (x_ixo (i := 14) Tryd.underlying126 (Tryd.sizeOf113 W) (F.slot rfl) rfl rfl (by decide)) (fun a F => ?_)
        refine q2 (o_s 62 (.load 113 (.tmp 61)) 113 (by kernel_rfl)) F (by decide) (v := u (w_3 14)) (x_load1 (Tryd.isAgg113 W) (F.slot rfl) (bcell (H.get 3 rfl) (mid_at hpre (by decide)))) (fun a F => ?_)
        refine q2 (o_s 63 (.binOp .xor 113 (.tmp 62) (.const (.int .u32 4294967295)) 113) 113 (by kernel_rfl)) F (by decide) (v := u ((w_3 14) ^^^ (4294967295#32))) (x_xor32 (F.slot rfl) rfl) (fun a F => ?_)
        refine q2 (o_s 64 (.indexAddr 126 (.tmp 59) (.const (.int .i64 14))) 0 (by kernel_rfl)) F (by decide) (v := .pointer (some ⟨gw, (o + 14), none⟩)) (x_ixo (i := 14) Tryd.underlying126 (Tryd.sizeOf113 W) (F.slot rfl) rfl rfl (by decide)) (fun a F => ?_)
        obtain ⟨w_5, ew_5⟩ : ∃ Z_, Z_ = upd w_3 14 ((w_3 14) ^^^ (4294967295#32)) := ⟨_, rfl⟩
        refine sq_put (M := [Asn.ft (Tabs gh h ga gr G 113 3 130) (fun k => k < w.heap.size), Asn.rd kW (fun k => k < w.heap.size) (some ⟨gh, 0, none⟩) 8 ((List.range 8).map h), Asn.blk g1 (wsN 16 m0) 113, Asn.blk gw (mid pre post w_5) 113, Asn.rd kW _ (some ⟨gf, 0, none⟩) 8 ((List.range 8).map firstsF)]) (o_n (.store 113 (.tmp 64) (.tmp 63)) 0 (by kernel_rfl)) trivial F (by rw [ew_5, ← mid_upd hpre (by decide) ((w_3 14) ^^^ (4294967295#32))]; exact x_store1 H (k := 3) rfl (Tryd.sizeOf113 W) (F.slot rfl) (F.slot rfl) rfl rfl (mid_lt hpre (by decide))) ?_
        intro W H
        refine ⟨(fun _ => trivial), ?_⟩
        unfold wpSeq
        refine t_normal ?_
        have hS : mid pre post w_5 = mid pre post S0 := mid_congr (fun j hj => by rw [hS0, ← start2 h (BitVec.ofInt 32 t) last j hj, hb4, if_pos rfl, ew_5, ew_3])
        rw [hS] at H
        exact ⟨F.less _ (subc rfl (subc rfl (subc rfl (subc rfl (subc rfl sub0))))), H.front 4⟩
      · have F := F.at 58 rfl (v' := .bool false) (congrArg Value.bool hb4)
        refine c_no (c := .tmp 58) (by kernel_rfl) (F.slot rfl) ?_
        refine c_skip (by kernel_rfl) ?_
        refine t_normal ?_
        have hS : mid pre post w_3 = mid pre post S0 := mid_congr (fun j hj => by rw [hS0, ← start2 h (BitVec.ofInt 32 t) last j hj, hb4, if_neg (by decide), ew_3])
        rw [hS] at H
        exact ⟨F.less _ (subc rfl (subc rfl (subc rfl (subc rfl (subc rfl sub0))))), H.front 4⟩
    · rintro a W ⟨F, H⟩
      refine c_seq (by kernel_rfl) ?_
      refine c_seq (by kernel_rfl) ?_
      refine c_text (id := 10) (by kernel_rfl) [(0, 2)] (by kernel_rfl) ?_
      refine q2 (o_s 16 (.assign (.const (.int .i64 0))) 3 (by kernel_rfl)) F (by decide) (v := .int .i64 0) (x_assign rfl) (fun a F => ?_)
      unfold wpSeq
      have H : St w (fun _ => False) (fun _ => True) [Asn.ft (Tabs gh h ga gr G 113 3 130) (fun k => k < w.heap.size), Asn.rd kW (fun k => k < w.heap.size) (some ⟨gh, 0, none⟩) 8 ((List.range 8).map h), Asn.blk g1 (wsN 16 m0) 113, Asn.blk gw (mid pre post (rounds m0 0 S0)) 113] W := H
      refine t_normal ?_
      refine c_block (id := 2) (by kernel_rfl) ?_
      refine c_loop (by kernel_rfl) (fun k a W => ∃ (n : Nat), Fr 179 [(0, .slice (some ⟨gh, 0, none⟩) 8 8), (1, .slice (some ⟨gr, 0, none⟩) 10 10), (2, .slice (some ⟨ga, 0, none⟩) 32 32), (13, .slice (some ⟨g1, 0, none⟩) 16 16), (15, .slice (some ⟨gw, o, none⟩) 16 c6_4), (16, .int .i64 (n : Int))] a ∧ St w (fun _ => False) (fun _ => True) [Asn.ft (Tabs gh h ga gr G 113 3 130) (fun k => k < w.heap.size), Asn.rd kW (fun k => k < w.heap.size) (some ⟨gh, 0, none⟩) 8 ((List.range 8).map h), Asn.blk g1 (wsN 16 m0) 113, Asn.blk gw (mid pre post (rounds m0 n S0)) 113] W ∧ (n ≤ 10) ∧ (k + n = 10)) 10 ⟨0, F.less _ (subc rfl (subc rfl (subc rfl (subc rfl (subc rfl (subc rfl sub0)))))), H, (by decide), rfl⟩ ?_
      rintro k a W ⟨n, F, H, hn, hkn⟩
      refine c_seq (by kernel_rfl) ?_
      refine c_seq (by kernel_rfl) ?_
      refine c_text (id := 11) (by kernel_rfl) [(0, 2), (1, 2)] (by kernel_rfl) ?_
      refine q2 (o_s 65 (.move (.tmp 16)) 3 (by kernel_rfl)) F (by decide) (x_move (F.slot rfl)) (fun a F => ?_)
      refine q2 (o_s 66 (.binOp .lss 3 (.tmp 65) (.const (.int .i64 10)) 3) 4 (by kernel_rfl)) F (by decide) (v := .bool (decide ((n : Int) < (10 : Int)))) (x_int (F.slot rfl) rfl rfl) (fun a F => ?_)
      unfold wpSeq
      have H : St w (fun _ => False) (fun _ => True) [Asn.ft (Tabs gh h ga gr G 113 3 130) (fun k => k < w.heap.size), Asn.rd kW (fun k => k < w.heap.size) (some ⟨gh, 0, none⟩) 8 ((List.range 8).map h), Asn.blk g1 (wsN 16 m0) 113, Asn.blk gw (mid pre post (rounds m0 n S0)) 113] W := H
      refine t_normal ?_
      rcases bool_or (decide ((n : Int) < (10 : Int))) with hb6 | hb6
      · have hb6d := of_decide_eq_true hb6
        have F := F.at 66 rfl (v' := .bool true) (congrArg Value.bool hb6)
        refine c_yes (c := .tmp 66) (by kernel_rfl) (F.slot rfl) ?_
        refine c_skip (by kernel_rfl) ?_
        refine t_normal ?_
        refine c_seq (by kernel_rfl) ?_
        refine c_block (id := 3) (by kernel_rfl) ?_
        refine c_seq (by kernel_rfl) ?_
        have hn10 : n < 10 := by omega
        obtain ⟨V1, hV1⟩ : ∃ Z_, Z_ = rounds m0 n S0 := ⟨_, rfl⟩
        rw [← hV1] at H
        have H : St w (fun _ => False) (fun _ => True) [Asn.ft (Tabs gh h ga gr G 113 3 130) (fun k => k < w.heap.size), Asn.rd kW (fun k => k < w.heap.size) (some ⟨gh, 0, none⟩) 8 ((List.range 8).map h), Asn.blk g1 (wsN 16 m0) 113, Asn.blk gw (mid pre post V1) 113] W := H
        refine c_text (id := 13) (by kernel_rfl) [(0, 2), (1, 2), (2, 2), (3, 2), (4, 2)] (by kernel_rfl) ?_
        refine q2 (o_s 69 (.move (.tmp 1)) 128 (by kernel_rfl)) F (by decide) (x_move (F.slot rfl)) (fun a F => ?_)
        refine q2 (o_s 70 (.move (.tmp 16)) 3 (by kernel_rfl)) F (by decide) (x_move (F.slot rfl)) (fun a F => ?_)
        refine q2 (o_s 71 (.indexAddr 128 (.tmp 69) (.tmp 70)) 0 (by kernel_rfl)) F (by decide) (v := .pointer (some ⟨gr, n, none⟩)) (x_ix0 (i := n) Tryd.underlying128 (Tryd.sizeOf130 W) (F.slot rfl) (F.slot rfl) rfl (by omega)) (fun a F => ?_)
        refine q2 (o_s 72 (.load 130 (.tmp 71)) 130 (by kernel_rfl)) F (by decide) (v := .slice (some ⟨G n, 0, none⟩) 16 16) (x_load1 (Tryd.isAgg130 W) (F.slot rfl) (Tabs.row (H.rd 0 rfl) (by omega))) (fun a F => ?_)
        refine q2 (o_s 17 (.assign (.tmp 72)) 130 (by kernel_rfl)) F (by decide) (v := .slice (some ⟨G n, 0, none⟩) 16 16) (x_assign (F.slot rfl)) (fun a F => ?_)
        unfold wpSeq
        refine t_normal ?_
        refine c_seq (by kernel_rfl) ?_
        have H : St w (fun _ => False) (fun _ => True) [Asn.ft (Tabs gh h ga gr G 113 3 130) (fun k => k < w.heap.size), Asn.rd kW (fun k => k < w.heap.size) (some ⟨gh, 0, none⟩) 8 ((List.range 8).map h), Asn.blk g1 (wsN 16 m0) 113, Asn.blk gw (mid pre post (qsteps m0 (rowF n) 0 V1)) 113] W := H
        refine c_text (id := 14) (by kernel_rfl) [(0, 2)] (by kernel_rfl) ?_
        refine q2 (o_s 18 (.assign (.const (.int .i64 0))) 3 (by kernel_rfl)) F (by decide) (v := .int .i64 0) (x_assign rfl) (fun a F => ?_)
        unfold wpSeq
        refine t_normal ?_
        refine c_block (id := 4) (by kernel_rfl) ?_
        refine c_loop (by kernel_rfl) (fun k a W => ∃ (q : Nat), Fr 179 [(0, .slice (some ⟨gh, 0, none⟩) 8 8), (1, .slice (some ⟨gr, 0, none⟩) 10 10), (2, .slice (some ⟨ga, 0, none⟩) 32 32), (13, .slice (some ⟨g1, 0, none⟩) 16 16), (15, .slice (some ⟨gw, o, none⟩) 16 c6_4), (16, .int .i64 (n : Int)), (65, .int .i64 (n : Int)), (66, .bool true), (69, .slice (some ⟨gr, 0, none⟩) 10 10), (70, .int .i64 (n : Int)), (71, .pointer (some ⟨gr, n, none⟩)), (72, .slice (some ⟨G n, 0, none⟩) 16 16), (17, .slice (some ⟨G n, 0, none⟩) 16 16), (18, .int .i64 (q : Int))] a ∧ St w (fun _ => False) (fun _ => True) [Asn.ft (Tabs gh h ga gr G 113 3 130) (fun k => k < w.heap.size), Asn.rd kW (fun k => k < w.heap.size) (some ⟨gh, 0, none⟩) 8 ((List.range 8).map h), Asn.blk g1 (wsN 16 m0) 113, Asn.blk gw (mid pre post (qsteps m0 (rowF n) q V1)) 113] W ∧ (q ≤ 8) ∧ (k + q = 8)) 8 ⟨0, F.less _ (subc rfl (subc rfl (subc rfl (subc rfl (subc rfl (subc rfl (subc rfl (subc rfl (subc rfl (subc rfl (subc rfl (subc rfl (subc rfl (subc rfl sub0)))))))))))))), H, (by decide), rfl⟩ ?_
        rintro k a W ⟨q, F, H, hq, hkq⟩
        refine c_seq (by kernel_rfl) ?_
        refine c_seq (by kernel_rfl) ?_
        refine c_text (id := 15) (by kernel_rfl) [(0, 2), (1, 2)] (by kernel_rfl) ?_
        refine q2 (o_s 73 (.move (.tmp 18)) 3 (by kernel_rfl)) F (by decide) (x_move (F.slot rfl)) (fun a F => ?_)
        refine q2 (o_s 74 (.binOp .lss 3 (.tmp 73) (.const (.int .i64 8)) 3) 4 (by kernel_rfl)) F (by decide) (v := .bool (decide ((q : Int) < (8 : Int)))) (x_int (F.slot rfl) rfl rfl) (fun a F => ?_)
        unfold wpSeq
        have H : St w (fun _ => False) (fun _ => True) [Asn.ft (Tabs gh h ga gr G 113 3 130) (fun k => k < w.heap.size), Asn.rd kW (fun k => k < w.heap.size) (some ⟨gh, 0, none⟩) 8 ((List.range 8).map h), Asn.blk g1 (wsN 16 m0) 113, Asn.blk gw (mid pre post (qsteps m0 (rowF n) q V1)) 113] W := H
        refine t_normal ?_
        rcases bool_or (decide ((q : Int) < (8 : Int))) with hb7 | hb7
        · have hb7d := of_decide_eq_true hb7
          have F := F.at 74 rfl (v' := .bool true) (congrArg Value.bool hb7)
          refine c_yes (c := .tmp 74) (by kernel_rfl) (F.slot rfl) ?_
          refine c_skip (by kernel_rfl) ?_
          refine t_normal ?_
          refine c_seq (by kernel_rfl) ?_
          refine c_block (id := 5) (by kernel_rfl) ?_
          refine c_seq (by kernel_rfl) ?_
          have hq8 : q < 8 := by omega
          obtain ⟨V2, hV2⟩ : ∃ Z_, Z_ = qsteps m0 (rowF n) q V1 := ⟨_, rfl⟩
          rw [← hV2] at H
          have H : St w (fun _ => False) (fun _ => True) [Asn.ft (Tabs gh h ga gr G 113 3 130) (fun k => k < w.heap.size), Asn.rd kW (fun k => k < w.heap.size) (some ⟨gh, 0, none⟩) 8 ((List.range 8).map h), Asn.blk g1 (wsN 16 m0) 113, Asn.blk gw (mid pre post V2) 113] W := H
          refine c_drawn (id := 17) (by kernel_rfl) (by kernel_rfl) (Vs [Asn.ft (Tabs gh h ga gr G 113 3 130) (fun k => k < w.heap.size)]) [0, 0, 2, 7, 15, 0, 0, 64, 192, 480, 992, 0, 0, 4096, 12288, 30720, 63488, 0, 0, 262144, 786432, 1966080, 4063232, 31, 8390655, 25296895, 67108863] [] [(0, 0), (1, 0), (2, 0), (3, 0), (5, 0), (6, 0), (7, 0), (8, 0), (9, 0), (11, 0), (12, 0), (13, 0), (14, 0), (15, 0), (17, 0), (18, 0), (19, 0), (20, 0), (21, 0), (4, 1), (23, 0), (10, 1), (24, 0), (16, 1), (25, 0), (22, 1), (26, 0)] (by kernel_rfl) (fun _ _ d _ _ h => by cases d <;> exact h) (Vs.drew ⟨H.get 0 rfl, trivial⟩) ?_
          have H := H.drew
          generalize World.drew W = W at H ⊢
          refine q0 (o_s 77 (.move (.tmp 2)) 130 (by kernel_rfl)) F (by decide) (fun W_ => x_move (F.slot rfl)) (fun a F => ?_)
          refine q0 (o_s 78 (.move (.tmp 18)) 3 (by kernel_rfl)) F (by decide) (fun W_ => x_move (F.slot rfl)) (fun a F => ?_)
          refine q0 (o_s 79 (.binOp .mul 3 (.const (.int .i64 4)) (.tmp 78) 3) 3 (by kernel_rfl)) F (by decide) (v := .int .i64 (IntKind.i64.wrap (4 * (q : Int)))) (fun W_ => x_int rfl (F.slot rfl) rfl) (fun a F => ?_)
          have F := F.conv (v' := .int .i64 ((4 * q : Nat) : Int)) (congrArg (Value.int .i64) ((wrap_i64 _ (by omega) (by omega)).trans (by omega)))
          refine q0 (o_s 80 (.indexAddr 130 (.tmp 77) (.tmp 79)) 0 (by kernel_rfl)) F (by decide) (v := .pointer (some ⟨ga, (4 * q), none⟩)) (fun W_ => x_ix0 (i := (4 * q)) Tryd.underlying130 (Tryd.sizeOf3 W_) (F.slot rfl) (F.slot rfl) rfl (by omega)) (fun a F => ?_)
          refine q0 (o_s 82 (.move (.tmp 2)) 130 (by kernel_rfl)) F (by decide) (fun W_ => x_move (F.slot rfl)) (fun a F => ?_)
          refine q0 (o_s 83 (.move (.tmp 18)) 3 (by kernel_rfl)) F (by decide) (fun W_ => x_move (F.slot rfl)) (fun a F => ?_)
          refine q0 (o_s 84 (.binOp .mul 3 (.const (.int .i64 4)) (.tmp 83) 3) 3 (by kernel_rfl)) F (by decide) (v := .int .i64 (IntKind.i64.wrap (4 * (q : Int)))) (fun W_ => x_int rfl (F.slot rfl) rfl) (fun a F => ?_)
          have F := F.conv (v' := .int .i64 ((4 * q : Nat) : Int)) (congrArg (Value.int .i64) ((wrap_i64 _ (by omega) (by omega)).trans (by omega)))
          refine q0 (o_s 85 (.binOp .add 3 (.tmp 84) (.const (.int .i64 1)) 3) 3 (by kernel_rfl)) F (by decide) (v := .int .i64 (IntKind.i64.wrap (((4 * q : Nat) : Int) + 1))) (fun W_ => x_int (F.slot rfl) rfl rfl) (fun a F => ?_)
          have F := F.conv (v' := .int .i64 ((4 * q + 1 : Nat) : Int)) (congrArg (Value.int .i64) ((wrap_i64 _ (by omega) (by omega)).trans (by omega)))
          refine q0 (o_s 86 (.indexAddr 130 (.tmp 82) (.tmp 85)) 0 (by kernel_rfl)) F (by decide) (v := .pointer (some ⟨ga, (4 * q + 1), none⟩)) (fun W_ => x_ix0 (i := (4 * q + 1)) Tryd.underlying130 (Tryd.sizeOf3 W_) (F.slot rfl) (F.slot rfl) rfl (by omega)) (fun a F => ?_)
          refine q0 (o_s 88 (.move (.tmp 2)) 130 (by kernel_rfl)) F (by decide) (fun W_ => x_move (F.slot rfl)) (fun a F => ?_)
          refine q0 (o_s 89 (.move (.tmp 18)) 3 (by kernel_rfl)) F (by decide) (fun W_ => x_move (F.slot rfl)) (fun a F => ?_)
          refine q0 (o_s 90 (.binOp .mul 3 (.const (.int .i64 4)) (.tmp 89) 3) 3 (by kernel_rfl)) F (by decide) (v := .int .i64 (IntKind.i64.wrap (4 * (q : Int)))) (fun W_ => x_int rfl (F.slot rfl) rfl) (fun a F => ?_)
          have F := F.conv (v' := .int .i64 ((4 * q : Nat) : Int)) (congrArg (Value.int .i64) ((wrap_i64 _ (by omega) (by omega)).trans (by omega)))
          refine q0 (o_s 91 (.binOp .add 3 (.tmp 90) (.const (.int .i64 2)) 3) 3 (by kernel_rfl)) F (by decide) (v := .int .i64 (IntKind.i64.wrap (((4 * q : Nat) : Int) + 2))) (fun W_ => x_int (F.slot rfl) rfl rfl) (fun a F => ?_)
          have F := F.conv (v' := .int .i64 ((4 * q + 2 : Nat) : Int)) (congrArg (Value.int .i64) ((wrap_i64 _ (by omega) (by omega)).trans (by omega)))
          refine q0 (o_s 92 (.indexAddr 130 (.tmp 88) (.tmp 91)) 0 (by kernel_rfl)) F (by decide) (v := .pointer (some ⟨ga, (4 * q + 2), none⟩)) (fun W_ => x_ix0 (i := (4 * q + 2)) Tryd.underlying130 (Tryd.sizeOf3 W_) (F.slot rfl) (F.slot rfl) rfl (by omega)) (fun a F => ?_)
          refine q0 (o_s 94 (.move (.tmp 2)) 130 (by kernel_rfl)) F (by decide) (fun W_ => x_move (F.slot rfl)) (fun a F => ?_)
          refine q0 (o_s 95 (.move (.tmp 18)) 3 (by kernel_rfl)) F (by decide) (fun W_ => x_move (F.slot rfl)) (fun a F => ?_)
          refine q0 (o_s 96 (.binOp .mul 3 (.const (.int .i64 4)) (.tmp 95) 3) 3 (by kernel_rfl)) F (by decide) (v := .int .i64 (IntKind.i64.wrap (4 * (q : Int)))) (fun W_ => x_int rfl (F.slot rfl) rfl) (fun a F => ?_)
          have F := F.conv (v' := .int .i64 ((4 * q : Nat) : Int)) (congrArg (Value.int .i64) ((wrap_i64 _ (by omega) (by omega)).trans (by omega)))
          refine q0 (o_s 97 (.binOp .add 3 (.tmp 96) (.const (.int .i64 3)) 3) 3 (by kernel_rfl)) F (by decide) (v := .int .i64 (IntKind.i64.wrap (((4 * q : Nat) : Int) + 3))) (fun W_ => x_int (F.slot rfl) rfl rfl) (fun a F => ?_)
          have F := F.conv (v' := .int .i64 ((4 * q + 3 : Nat) : Int)) (congrArg (Value.int .i64) ((wrap_i64 _ (by omega) (by omega)).trans (by omega)))
          refine q0 (o_s 98 (.indexAddr 130 (.tmp 94) (.tmp 97)) 0 (by kernel_rfl)) F (by decide) (v := .pointer (some ⟨ga, (4 * q + 3), none⟩)) (fun W_ => x_ix0 (i := (4 * q + 3)) Tryd.underlying130 (Tryd.sizeOf3 W_) (F.slot rfl) (F.slot rfl) rfl (by omega)) (fun a F => ?_)
          refine q1 (o_s 81 (.load 3 (.tmp 80)) 3 (by kernel_rfl)) F (by decide) (⟨H.get 0 rfl, trivial⟩) (v := .int .i64 ((plF (4 * q) : Nat) : Int)) (fun W_ hV => x_load1 (Tryd.isAgg3 W_) (F.slot rfl) (Tabs.place (show (Tabs gh h ga gr G 113 3 130) W_ from Foot.now hV.1) (by omega))) (fun a F => ?_)
          refine q0 (o_s 19 (.assign (.tmp 81)) 3 (by kernel_rfl)) F (by decide) (v := .int .i64 ((plF (4 * q) : Nat) : Int)) (fun W_ => x_assign (F.slot rfl)) (fun a F => ?_)
          refine q1 (o_s 87 (.load 3 (.tmp 86)) 3 (by kernel_rfl)) F (by decide) (⟨H.get 0 rfl, trivial⟩) (v := .int .i64 ((plF (4 * q + 1) : Nat) : Int)) (fun W_ hV => x_load1 (Tryd.isAgg3 W_) (F.slot rfl) (Tabs.place (show (Tabs gh h ga gr G 113 3 130) W_ from Foot.now hV.1) (by omega))) (fun a F => ?_)
          refine q0 (o_s 20 (.assign (.tmp 87)) 3 (by kernel_rfl)) F (by decide) (v := .int .i64 ((plF (4 * q + 1) : Nat) : Int)) (fun W_ => x_assign (F.slot rfl)) (fun a F => ?_)
          refine q1 (o_s 93 (.load 3 (.tmp 92)) 3 (by kernel_rfl)) F (by decide) (⟨H.get 0 rfl, trivial⟩) (v := .int .i64 ((plF (4 * q + 2) : Nat) : Int)) (fun W_ hV => x_load1 (Tryd.isAgg3 W_) (F.slot rfl) (Tabs.place (show (Tabs gh h ga gr G 113 3 130) W_ from Foot.now hV.1) (by omega))) (fun a F => ?_)
          refine q0 (o_s 21 (.assign (.tmp 93)) 3 (by kernel_rfl)) F (by decide) (v := .int .i64 ((plF (4 * q + 2) : Nat) : Int)) (fun W_ => x_assign (F.slot rfl)) (fun a F => ?_)
          refine q1 (o_s 99 (.load 3 (.tmp 98)) 3 (by kernel_rfl)) F (by decide) (⟨H.get 0 rfl, trivial⟩) (v := .int .i64 ((plF (4 * q + 3) : Nat) : Int)) (fun W_ hV => x_load1 (Tryd.isAgg3 W_) (F.slot rfl) (Tabs.place (show (Tabs gh h ga gr G 113 3 130) W_ from Foot.now hV.1) (by omega))) (fun a F => ?_)
          refine q0 (o_s 22 (.assign (.tmp 99)) 3 (by kernel_rfl)) F (by decide) (v := .int .i64 ((plF (4 * q + 3) : Nat) : Int)) (fun W_ => x_assign (F.slot rfl)) (fun a F => ?_)
          unfold wpSeq
          refine t_normal ?_
          refine c_seq (by kernel_rfl) ?_
          refine c_drawn (id := 18) (by kernel_rfl) (by kernel_rfl) (Vs [Asn.blk gw (mid pre post V2) 113, Asn.ft (Tabs gh h ga gr G 113 3 130) (fun k => k < w.heap.size), Asn.blk g1 (wsN 16 m0) 113]) [0, 0, 3, 7, 0, 0, 48, 112, 0, 0, 768, 1792, 0, 0, 12288, 28672, 0, 0, 0, 262144, 917504, 1966080, 4128768, 8323072, 0, 0, 0, 67108864, 201326592, 503316480, 1040187392, 2130706432, 4278190080, 8589934591, 17179869183, 34359738367, 34359738367, 34359738367, 34359738367, 68719476735, 687194767359, 1924145348607, 4398046511103] [] [(0, 0), (1, 0), (2, 0), (4, 0), (5, 0), (6, 0), (8, 0), (9, 0), (10, 0), (12, 0), (13, 0), (14, 0), (16, 0), (17, 0), (18, 0), (19, 0), (20, 0), (24, 0), (25, 0), (26, 0), (27, 0), (28, 0), (29, 0), (3, 1), (7, 1), (11, 1), (15, 1), (21, 1), (22, 0), (23, 1), (30, 1), (31, 0), (32, 1), (33, 2), (34, 0), (35, 0), (36, 0), (37, 0), (38, 0), (39, 0), (40, 0), (41, 0), (42, 0)] (by kernel_rfl) (fun _ _ d _ _ h => by cases d <;> exact h) (Vs.drew ⟨H.get 3 rfl, H.get 0 rfl, H.get 2 rfl, trivial⟩) ?_
          have H := H.drew
          generalize World.drew W = W at H ⊢
          refine q0 (o_s 101 (.move (.tmp 15)) 126 (by kernel_rfl)) F (by decide) (fun W_ => x_move (F.slot rfl)) (fun a F => ?_)
          refine q0 (o_s 102 (.move (.tmp 19)) 3 (by kernel_rfl)) F (by decide) (fun W_ => x_move (F.slot rfl)) (fun a F => ?_)
          refine q0 (o_s 103 (.indexAddr 126 (.tmp 101) (.tmp 102)) 0 (by kernel_rfl)) F (by decide) (v := .pointer (some ⟨gw, (o + (plF (4 * q))), none⟩)) (fun W_ => x_ixo (i := (plF (4 * q))) Tryd.underlying126 (Tryd.sizeOf113 W_) (F.slot rfl) (F.slot rfl) rfl (by have := plF_lt (4 * q); omega)) (fun a F => ?_)
          refine q0 (o_s 105 (.move (.tmp 15)) 126 (by kernel_rfl)) F (by decide) (fun W_ => x_move (F.slot rfl)) (fun a F => ?_)
          refine q0 (o_s 106 (.move (.tmp 20)) 3 (by kernel_rfl)) F (by decide) (fun W_ => x_move (F.slot rfl)) (fun a F => ?_)
          refine q0 (o_s 107 (.indexAddr 126 (.tmp 105) (.tmp 106)) 0 (by kernel_rfl)) F (by decide) (v := .pointer (some ⟨gw, (o + (plF (4 * q + 1))), none⟩)) (fun W_ => x_ixo (i := (plF (4 * q + 1))) Tryd.underlying126 (Tryd.sizeOf113 W_) (F.slot rfl) (F.slot rfl) rfl (by have := plF_lt (4 * q + 1); omega)) (fun a F => ?_)
          refine q0 (o_s 109 (.move (.tmp 15)) 126 (by kernel_rfl)) F (by decide) (fun W_ => x_move (F.slot rfl)) (fun a F => ?_)
          refine q0 (o_s 110 (.move (.tmp 21)) 3 (by kernel_rfl)) F (by decide) (fun W_ => x_move (F.slot rfl)) (fun a F => ?_)
          refine q0 (o_s 111 (.indexAddr 126 (.tmp 109) (.tmp 110)) 0 (by kernel_rfl)) F (by decide) (v := .pointer (some ⟨gw, (o + (plF (4 * q + 2))), none⟩)) (fun W_ => x_ixo (i := (plF (4 * q + 2))) Tryd.underlying126 (Tryd.sizeOf113 W_) (F.slot rfl) (F.slot rfl) rfl (by have := plF_lt (4 * q + 2); omega)) (fun a F => ?_)
          refine q0 (o_s 113 (.move (.tmp 15)) 126 (by kernel_rfl)) F (by decide) (fun W_ => x_move (F.slot rfl)) (fun a F => ?_)
          refine q0 (o_s 114 (.move (.tmp 22)) 3 (by kernel_rfl)) F (by decide) (fun W_ => x_move (F.slot rfl)) (fun a F => ?_)
          refine q0 (o_s 115 (.indexAddr 126 (.tmp 113) (.tmp 114)) 0 (by kernel_rfl)) F (by decide) (v := .pointer (some ⟨gw, (o + (plF (4 * q + 3))), none⟩)) (fun W_ => x_ixo (i := (plF (4 * q + 3))) Tryd.underlying126 (Tryd.sizeOf113 W_) (F.slot rfl) (F.slot rfl) rfl (by have := plF_lt (4 * q + 3); omega)) (fun a F => ?_)
          refine q0 (o_s 117 (.move (.tmp 13)) 126 (by kernel_rfl)) F (by decide) (fun W_ => x_move (F.slot rfl)) (fun a F => ?_)
          refine q0 (o_s 118 (.move (.tmp 17)) 130 (by kernel_rfl)) F (by decide) (fun W_ => x_move (F.slot rfl)) (fun a F => ?_)
          refine q0 (o_s 119 (.move (.tmp 18)) 3 (by kernel_rfl)) F (by decide) (fun W_ => x_move (F.slot rfl)) (fun a F => ?_)
          refine q0 (o_s 120 (.binOp .mul 3 (.const (.int .i64 2)) (.tmp 119) 3) 3 (by kernel_rfl)) F (by decide) (v := .int .i64 (IntKind.i64.wrap (2 * (q : Int)))) (fun W_ => x_int rfl (F.slot rfl) rfl) (fun a F => ?_)
          have F := F.conv (v' := .int .i64 ((2 * q : Nat) : Int)) (congrArg (Value.int .i64) ((wrap_i64 _ (by omega) (by omega)).trans (by omega)))
          refine q0 (o_s 121 (.indexAddr 130 (.tmp 118) (.tmp 120)) 0 (by kernel_rfl)) F (by decide) (v := .pointer (some ⟨G n, (2 * q), none⟩)) (fun W_ => x_ix0 (i := (2 * q)) Tryd.underlying130 (Tryd.sizeOf3 W_) (F.slot rfl) (F.slot rfl) rfl (by omega)) (fun a F => ?_)
          refine q0 (o_s 125 (.move (.tmp 13)) 126 (by kernel_rfl)) F (by decide) (fun W_ => x_move (F.slot rfl)) (fun a F => ?_)
          refine q0 (o_s 126 (.move (.tmp 17)) 130 (by kernel_rfl)) F (by decide) (fun W_ => x_move (F.slot rfl)) (fun a F => ?_)
          refine q0 (o_s 127 (.move (.tmp 18)) 3 (by kernel_rfl)) F (by decide) (fun W_ => x_move (F.slot rfl)) (fun a F => ?_)
          refine q0 (o_s 128 (.binOp .mul 3 (.const (.int .i64 2)) (.tmp 127) 3) 3 (by kernel_rfl)) F (by decide) (v := .int .i64 (IntKind.i64.wrap (2 * (q : Int)))) (fun W_ => x_int rfl (F.slot rfl) rfl) (fun a F => ?_)
          have F := F.conv (v' := .int .i64 ((2 * q : Nat) : Int)) (congrArg (Value.int .i64) ((wrap_i64 _ (by omega) (by omega)).trans (by omega)))
          refine q0 (o_s 129 (.binOp .add 3 (.tmp 128) (.const (.int .i64 1)) 3) 3 (by kernel_rfl)) F (by decide) (v := .int .i64 (IntKind.i64.wrap (((2 * q : Nat) : Int) + 1))) (fun W_ => x_int (F.slot rfl) rfl rfl) (fun a F => ?_)
          have F := F.conv (v' := .int .i64 ((2 * q + 1 : Nat) : Int)) (congrArg (Value.int .i64) ((wrap_i64 _ (by omega) (by omega)).trans (by omega)))
          refine q0 (o_s 130 (.indexAddr 130 (.tmp 126) (.tmp 129)) 0 (by kernel_rfl)) F (by decide) (v := .pointer (some ⟨G n, (2 * q + 1), none⟩)) (fun W_ => x_ix0 (i := (2 * q + 1)) Tryd.underlying130 (Tryd.sizeOf3 W_) (F.slot rfl) (F.slot rfl) rfl (by omega)) (fun a F => ?_)
          refine q1 (o_s 104 (.load 113 (.tmp 103)) 113 (by kernel_rfl)) F (by decide) (⟨H.get 3 rfl, H.get 0 rfl, H.get 2 rfl, trivial⟩) (v := u (V2 (plF (4 * q)))) (fun W_ hV => x_load1 (Tryd.isAgg113 W_) (F.slot rfl) (bcell hV.1 (mid_at hpre (by have := plF_lt (4 * q); omega)))) (fun a F => ?_)
          refine q1 (o_s 108 (.load 113 (.tmp 107)) 113 (by kernel_rfl)) F (by decide) (⟨H.get 3 rfl, H.get 0 rfl, H.get 2 rfl, trivial⟩) (v := u (V2 (plF (4 * q + 1)))) (fun W_ hV => x_load1 (Tryd.isAgg113 W_) (F.slot rfl) (bcell hV.1 (mid_at hpre (by have := plF_lt (4 * q + 1); omega)))) (fun a F => ?_)
          refine q1 (o_s 112 (.load 113 (.tmp 111)) 113 (by kernel_rfl)) F (by decide) (⟨H.get 3 rfl, H.get 0 rfl, H.get 2 rfl, trivial⟩) (v := u (V2 (plF (4 * q + 2)))) (fun W_ hV => x_load1 (Tryd.isAgg113 W_) (F.slot rfl) (bcell hV.1 (mid_at hpre (by have := plF_lt (4 * q + 2); omega)))) (fun a F => ?_)
          refine q1 (o_s 116 (.load 113 (.tmp 115)) 113 (by kernel_rfl)) F (by decide) (⟨H.get 3 rfl, H.get 0 rfl, H.get 2 rfl, trivial⟩) (v := u (V2 (plF (4 * q + 3)))) (fun W_ hV => x_load1 (Tryd.isAgg113 W_) (F.slot rfl) (bcell hV.1 (mid_at hpre (by have := plF_lt (4 * q + 3); omega)))) (fun a F => ?_)
          refine q1 (o_s 122 (.load 3 (.tmp 121)) 3 (by kernel_rfl)) F (by decide) (⟨H.get 3 rfl, H.get 0 rfl, H.get 2 rfl, trivial⟩) (v := .int .i64 ((rowF n (2 * q) : Nat) : Int)) (fun W_ hV => x_load1 (Tryd.isAgg3 W_) (F.slot rfl) (Tabs.spot (show (Tabs gh h ga gr G 113 3 130) W_ from Foot.now hV.2.1) hn10 (by omega))) (fun a F => ?_)
          refine q0 (o_s 123 (.indexAddr 126 (.tmp 117) (.tmp 122)) 0 (by kernel_rfl)) F (by decide) (v := .pointer (some ⟨g1, (rowF n (2 * q)), none⟩)) (fun W_ => x_ix0 (i := (rowF n (2 * q))) Tryd.underlying126 (Tryd.sizeOf113 W_) (F.slot rfl) (F.slot rfl) rfl (by have := rowF_lt n (2 * q); omega)) (fun a F => ?_)
          refine q1 (o_s 124 (.load 113 (.tmp 123)) 113 (by kernel_rfl)) F (by decide) (⟨H.get 3 rfl, H.get 0 rfl, H.get 2 rfl, trivial⟩) (v := u (m0 (rowF n (2 * q)))) (fun W_ hV => x_load1 (Tryd.isAgg113 W_) (F.slot rfl) (bcell hV.2.2.1 (ws_at m0 (by have := rowF_lt n (2 * q); omega)))) (fun a F => ?_)
          refine q1 (o_s 131 (.load 3 (.tmp 130)) 3 (by kernel_rfl)) F (by decide) (⟨H.get 3 rfl, H.get 0 rfl, H.get 2 rfl, trivial⟩) (v := .int .i64 ((rowF n (2 * q + 1) : Nat) : Int)) (fun W_ hV => x_load1 (Tryd.isAgg3 W_) (F.slot rfl) (Tabs.spot (show (Tabs gh h ga gr G 113 3 130) W_ from Foot.now hV.2.1) hn10 (by omega))) (fun a F => ?_)
          refine q0 (o_s 132 (.indexAddr 126 (.tmp 125) (.tmp 131)) 0 (by kernel_rfl)) F (by decide) (v := .pointer (some ⟨g1, (rowF n (2 * q + 1)), none⟩)) (fun W_ => x_ix0 (i := (rowF n (2 * q + 1))) Tryd.underlying126 (Tryd.sizeOf113 W_) (F.slot rfl) (F.slot rfl) rfl (by have := rowF_lt n (2 * q + 1); omega)) (fun a F => ?_)
          refine q1 (o_s 133 (.load 113 (.tmp 132)) 113 (by kernel_rfl)) F (by decide) (⟨H.get 3 rfl, H.get 0 rfl, H.get 2 rfl, trivial⟩) (v := u (m0 (rowF n (2 * q + 1)))) (fun W_ hV => x_load1 (Tryd.isAgg113 W_) (F.slot rfl) (bcell hV.2.2.1 (ws_at m0 (by have := rowF_lt n (2 * q + 1); omega)))) (fun a F => ?_)
          obtain ⟨X, hX⟩ : ∃ Z_, Z_ = mixF (V2 (plF (4 * q))) (V2 (plF (4 * q + 1))) (V2 (plF (4 * q + 2))) (V2 (plF (4 * q + 3))) (m0 (rowF n (2 * q))) (m0 (rowF n (2 * q + 1))) := ⟨_, rfl⟩
          have HK := rmixed (V2 (plF (4 * q))) (V2 (plF (4 * q + 1))) (V2 (plF (4 * q + 2))) (V2 (plF (4 * q + 3))) (m0 (rowF n (2 * q))) (m0 (rowF n (2 * q + 1))) W
          rw [← hX] at HK
          refine sqc (o_s 134 (.call { callee := (.value (.func 126)), args := #[(.tmp 104), (.tmp 108), (.tmp 112), (.tmp 116), (.tmp 124), (.tmp 133)], argTypes := #[113, 113, 113, 113, 113, 113] }) 161 (by kernel_rfl)) trivial F (by decide) (x_call Tryd.func126 (by kernel_rfl) rfl (args_6 (F.slot rfl) (F.slot rfl) (F.slot rfl) (F.slot rfl) (F.slot rfl) (F.slot rfl))) (HK) ?_
          rintro e W ⟨rfl, hB⟩
          refine ⟨_, rfl, fun a F => ?_⟩
          have H := H.below (drawn_below hB)
          refine ⟨(fun _ => ⟨H.get 3 rfl, H.get 0 rfl, H.get 2 rfl, trivial⟩), ?_⟩
          refine q0 (o_s 100 (.move (.tmp 134)) 161 (by kernel_rfl)) F (by decide) (fun W_ => x_move (F.slot rfl)) (fun a F => ?_)
          refine q0 (o_s 135 (.extract (.tmp 100) 0) 113 (by kernel_rfl)) F (by decide) (v := u X.1) (fun W_ => x_extract (F.slot rfl) rfl) (fun a F => ?_)
          refine q0 (o_s 136 (.extract (.tmp 100) 1) 113 (by kernel_rfl)) F (by decide) (v := u X.2.1) (fun W_ => x_extract (F.slot rfl) rfl) (fun a F => ?_)
          refine q0 (o_s 137 (.extract (.tmp 100) 2) 113 (by kernel_rfl)) F (by decide) (v := u X.2.2.1) (fun W_ => x_extract (F.slot rfl) rfl) (fun a F => ?_)
          refine q0 (o_s 138 (.extract (.tmp 100) 3) 113 (by kernel_rfl)) F (by decide) (v := u X.2.2.2) (fun W_ => x_extract (F.slot rfl) rfl) (fun a F => ?_)
          refine q0 (o_s 23 (.assign (.tmp 135)) 113 (by kernel_rfl)) F (by decide) (v := u X.1) (fun W_ => x_assign (F.slot rfl)) (fun a F => ?_)
          refine q0 (o_s 24 (.assign (.tmp 136)) 113 (by kernel_rfl)) F (by decide) (v := u X.2.1) (fun W_ => x_assign (F.slot rfl)) (fun a F => ?_)
          refine q0 (o_s 25 (.assign (.tmp 137)) 113 (by kernel_rfl)) F (by decide) (v := u X.2.2.1) (fun W_ => x_assign (F.slot rfl)) (fun a F => ?_)
          refine q0 (o_s 26 (.assign (.tmp 138)) 113 (by kernel_rfl)) F (by decide) (v := u X.2.2.2) (fun W_ => x_assign (F.slot rfl)) (fun a F => ?_)
          unfold wpSeq
          have F := F.less [(0, .slice (some ⟨gh, 0, none⟩) 8 8), (1, .slice (some ⟨gr, 0, none⟩) 10 10), (2, .slice (some ⟨ga, 0, none⟩) 32 32), (13, .slice (some ⟨g1, 0, none⟩) 16 16), (15, .slice (some ⟨gw, o, none⟩) 16 c6_4), (16, .int .i64 (n : Int)), (65, .int .i64 (n : Int)), (66, .bool true), (69, .slice (some ⟨gr, 0, none⟩) 10 10), (70, .int .i64 (n : Int)), (71, .pointer (some ⟨gr, n, none⟩)), (72, .slice (some ⟨G n, 0, none⟩) 16 16), (17, .slice (some ⟨G n, 0, none⟩) 16 16), (18, .int .i64 (q : Int)), (73, .int .i64 (q : Int)), (74, .bool true), (77, .slice (some ⟨ga, 0, none⟩) 32 32), (78, .int .i64 (q : Int)), (79, .int .i64 ((4 * q : Nat) : Int)), (80, .pointer (some ⟨ga, (4 * q), none⟩)), (82, .slice (some ⟨ga, 0, none⟩) 32 32), (83, .int .i64 (q : Int)), (84, .int .i64 ((4 * q : Nat) : Int)), (85, .int .i64 ((4 * q + 1 : Nat) : Int)), (86, .pointer (some ⟨ga, (4 * q + 1), none⟩)), (88, .slice (some ⟨ga, 0, none⟩) 32 32), (89, .int .i64 (q : Int)), (90, .int .i64 ((4 * q : Nat) : Int)), (91, .int .i64 ((4 * q + 2 : Nat) : Int)), (92, .pointer (some ⟨ga, (4 * q + 2), none⟩)), (94, .slice (some ⟨ga, 0, none⟩) 32 32), (95, .int .i64 (q : Int)), (96, .int .i64 ((4 * q : Nat) : Int)), (97, .int .i64 ((4 * q + 3 : Nat) : Int)), (98, .pointer (some ⟨ga, (4 * q + 3), none⟩)), (81, .int .i64 ((plF (4 * q) : Nat) : Int)), (19, .int .i64 ((plF (4 * q) : Nat) : Int)), (87, .int .i64 ((plF (4 * q + 1) : Nat) : Int)), (20, .int .i64 ((plF (4 * q + 1) : Nat) : Int)), (93, .int .i64 ((plF (4 * q + 2) : Nat) : Int)), (21, .int .i64 ((plF (4 * q + 2) : Nat) : Int)), (99, .int .i64 ((plF (4 * q + 3) : Nat) : Int)), (22, .int .i64 ((plF (4 * q + 3) : Nat) : Int)), (23, u X.1), (24, u X.2.1), (25, u X.2.2.1), (26, u X.2.2.2)] (subc rfl (subc rfl (subc rfl (subc rfl (subc rfl (subc rfl (subc rfl (subc rfl (subc rfl (subc rfl (subc rfl (subc rfl (subc rfl (subc rfl (subc rfl (subc rfl (subc rfl (subc rfl (subc rfl (subc rfl (subc rfl (subc rfl (subc rfl (subc rfl (subc rfl (subc rfl (subc rfl (subc rfl (subc rfl (subc rfl (subc rfl (subc rfl (subc rfl (subc rfl (subc rfl (subc rfl (subc rfl (subc rfl (subc rfl (subc rfl (subc rfl (subc rfl (subc rfl (subc rfl (subc rfl (subc rfl (subc rfl sub0)))))))))))))))))))))))))))))))))))))))))))))))
          refine t_normal ?_
          refine c_seq (by kernel_rfl) ?_
          refine c_text (id := 19) (by kernel_rfl) [(0, 2), (1, 2), (2, 2), (3, 2), (4, 2)] (by kernel_rfl) ?_
          refine q2 (o_s 139 (.move (.tmp 15)) 126 (by kernel_rfl)) F (by decide) (x_move (F.slot rfl)) (fun a F => ?_)
          refine q2 (o_s 140 (.move (.tmp 19)) 3 (by kernel_rfl)) F (by decide) (x_move (F.slot rfl)) (fun a F => ?_)
          refine q2 (o_s 141 (.move (.tmp 23)) 113 (by kernel_rfl)) F (by decide) (x_move (F.slot rfl)) (fun a F => ?_)
          refine q2 (o_s 142 (.indexAddr 126 (.tmp 139) (.tmp 140)) 0 (by kernel_rfl)) F (by decide) (v := .pointer (some ⟨gw, (o + (plF (4 * q))), none⟩)) (x_ixo (i := (plF (4 * q))) Tryd.underlying126 (Tryd.sizeOf113 W) (F.slot rfl) (F.slot rfl) rfl (by have := plF_lt (4 * q); omega)) (fun a F => ?_)
          obtain ⟨w_10, ew_10⟩ : ∃ Z_, Z_ = upd V2 (plF (4 * q)) (X.1) := ⟨_, rfl⟩
          refine sq_put (M := [Asn.ft (Tabs gh h ga gr G 113 3 130) (fun k => k < w.heap.size), Asn.rd kW (fun k => k < w.heap.size) (some ⟨gh, 0, none⟩) 8 ((List.range 8).map h), Asn.blk g1 (wsN 16 m0) 113, Asn.blk gw (mid pre post w_10) 113]) (o_n (.store 113 (.tmp 142) (.tmp 141)) 0 (by kernel_rfl)) trivial F (by rw [ew_10, ← mid_upd hpre (by have := plF_lt (4 * q); omega) X.1]; exact x_store1 H (k := 3) rfl (Tryd.sizeOf113 W) (F.slot rfl) (F.slot rfl) rfl rfl (mid_lt hpre (by have := plF_lt (4 * q); omega))) ?_
          intro W H
          refine ⟨(fun _ => trivial), ?_⟩
          unfold wpSeq
          refine t_normal ?_
          refine c_seq (by kernel_rfl) ?_
          refine c_text (id := 20) (by kernel_rfl) [(0, 2), (1, 2), (2, 2), (3, 2), (4, 2)] (by kernel_rfl) ?_
          refine q2 (o_s 143 (.move (.tmp 15)) 126 (by kernel_rfl)) F (by decide) (x_move (F.slot rfl)) (fun a F => ?_)
          refine q2 (o_s 144 (.move (.tmp 20)) 3 (by kernel_rfl)) F (by decide) (x_move (F.slot rfl)) (fun a F => ?_)
          refine q2 (o_s 145 (.move (.tmp 24)) 113 (by kernel_rfl)) F (by decide) (x_move (F.slot rfl)) (fun a F => ?_)
          refine q2 (o_s 146 (.indexAddr 126 (.tmp 143) (.tmp 144)) 0 (by kernel_rfl)) F (by decide) (v := .pointer (some ⟨gw, (o + (plF (4 * q + 1))), none⟩)) (x_ixo (i := (plF (4 * q + 1))) Tryd.underlying126 (Tryd.sizeOf113 W) (F.slot rfl) (F.slot rfl) rfl (by have := plF_lt (4 * q + 1); omega)) (fun a F => ?_)
          obtain ⟨w_11, ew_11⟩ : ∃ Z_, Z_ = upd w_10 (plF (4 * q + 1)) (X.2.1) := ⟨_, rfl⟩
          refine sq_put (M := [Asn.ft (Tabs gh h ga gr G 113 3 130) (fun k => k < w.heap.size), Asn.rd kW (fun k => k < w.heap.size) (some ⟨gh, 0, none⟩) 8 ((List.range 8).map h), Asn.blk g1 (wsN 16 m0) 113, Asn.blk gw (mid pre post w_11) 113]) (o_n (.store 113 (.tmp 146) (.tmp 145)) 0 (by kernel_rfl)) trivial F (by rw [ew_11, ← mid_upd hpre (by have := plF_lt (4 * q + 1); omega) X.2.1]; exact x_store1 H (k := 3) rfl (Tryd.sizeOf113 W) (F.slot rfl) (F.slot rfl) rfl rfl (mid_lt hpre (by have := plF_lt (4 * q + 1); omega))) ?_
          intro W H
          refine ⟨(fun _ => trivial), ?_⟩
          unfold wpSeq
          refine t_normal ?_
          refine c_seq (by kernel_rfl) ?_
          refine c_text (id := 21) (by kernel_rfl) [(0, 2), (1, 2), (2, 2), (3, 2), (4, 2)] (by kernel_rfl) ?_
          refine q2 (o_s 147 (.move (.tmp 15)) 126 (by kernel_rfl)) F (by decide) (x_move (F.slot rfl)) (fun a F => ?_)
          refine q2 (o_s 148 (.move (.tmp 21)) 3 (by kernel_rfl)) F (by decide) (x_move (F.slot rfl)) (fun a F => ?_)
          refine q2 (o_s 149 (.move (.tmp 25)) 113 (by kernel_rfl)) F (by decide) (x_move (F.slot rfl)) (fun a F => ?_)
          refine q2 (o_s 150 (.indexAddr 126 (.tmp 147) (.tmp 148)) 0 (by kernel_rfl)) F (by decide) (v := .pointer (some ⟨gw, (o + (plF (4 * q + 2))), none⟩)) (x_ixo (i := (plF (4 * q + 2))) Tryd.underlying126 (Tryd.sizeOf113 W) (F.slot rfl) (F.slot rfl) rfl (by have := plF_lt (4 * q + 2); omega)) (fun a F => ?_)
          obtain ⟨w_12, ew_12⟩ : ∃ Z_, Z_ = upd w_11 (plF (4 * q + 2)) (X.2.2.1) := ⟨_, rfl⟩
          refine sq_put (M := [Asn.ft (Tabs gh h ga gr G 113 3 130) (fun k => k < w.heap.size), Asn.rd kW (fun k => k < w.heap.size) (some ⟨gh, 0, none⟩) 8 ((List.range 8).map h), Asn.blk g1 (wsN 16 m0) 113, Asn.blk gw (mid pre post w_12) 113]) (o_n (.store 113 (.tmp 150) (.tmp 149)) 0 (by kernel_rfl)) trivial F (by rw [ew_12, ← mid_upd hpre (by have := plF_lt (4 * q + 2); omega) X.2.2.1]; exact x_store1 H (k := 3) rfl (Tryd.sizeOf113 W) (F.slot rfl) (F.slot rfl) rfl rfl (mid_lt hpre (by have := plF_lt (4 * q + 2); omega))) ?_
          intro W H
          refine ⟨(fun _ => trivial), ?_⟩
          unfold wpSeq
          refine t_normal ?_
          refine c_text (id := 22) (by kernel_rfl) [(0, 2), (1, 2), (2, 2), (3, 2), (4, 2)] (by kernel_rfl) ?_
          refine q2 (o_s 151 (.move (.tmp 15)) 126 (by kernel_rfl)) F (by decide) (x_move (F.slot rfl)) (fun a F => ?_)
          refine q2 (o_s 152 (.move (.tmp 22)) 3 (by kernel_rfl)) F (by decide) (x_move (F.slot rfl)) (fun a F => ?_)
          refine q2 (o_s 153 (.move (.tmp 26)) 113 (by kernel_rfl)) F (by decide) (x_move (F.slot rfl)) (fun a F => ?_)
          refine q2 (o_s 154 (.indexAddr 126 (.tmp 151) (.tmp 152)) 0 (by kernel_rfl)) F (by decide) (v := .pointer (some ⟨gw, (o + (plF (4 * q + 3))), none⟩)) (x_ixo (i := (plF (4 * q + 3))) Tryd.underlying126 (Tryd.sizeOf113 W) (F.slot rfl) (F.slot rfl) rfl (by have := plF_lt (4 * q + 3); omega)) (fun a F => ?_)
          obtain ⟨w_13, ew_13⟩ : ∃ Z_, Z_ = upd w_12 (plF (4 * q + 3)) (X.2.2.2) := ⟨_, rfl⟩
          refine sq_put (M := [Asn.ft (Tabs gh h ga gr G 113 3 130) (fun k => k < w.heap.size), Asn.rd kW (fun k => k < w.heap.size) (some ⟨gh, 0, none⟩) 8 ((List.range 8).map h), Asn.blk g1 (wsN 16 m0) 113, Asn.blk gw (mid pre post w_13) 113]) (o_n (.store 113 (.tmp 154) (.tmp 153)) 0 (by kernel_rfl)) trivial F (by rw [ew_13, ← mid_upd hpre (by have := plF_lt (4 * q + 3); omega) X.2.2.2]; exact x_store1 H (k := 3) rfl (Tryd.sizeOf113 W) (F.slot rfl) (F.slot rfl) rfl rfl (mid_lt hpre (by have := plF_lt (4 * q + 3); omega))) ?_
          intro W H
          refine ⟨(fun _ => trivial), ?_⟩
          unfold wpSeq
          refine b_normal ?_
          refine t_normal ?_
          refine c_text (id := 16) (by kernel_rfl) [(0, 2), (1, 2), (2, 2)] (by kernel_rfl) ?_
          refine q2 (o_s 75 (.move (.tmp 18)) 3 (by kernel_rfl)) F (by decide) (x_move (F.slot rfl)) (fun a F => ?_)
          refine q2 (o_s 76 (.binOp .add 3 (.tmp 75) (.const (.int .i64 1)) 3) 3 (by kernel_rfl)) F (by decide) (v := .int .i64 (IntKind.i64.wrap ((q : Int) + 1))) (x_int (F.slot rfl) rfl rfl) (fun a F => ?_)
          refine q2 (o_s 18 (.assign (.tmp 76)) 3 (by kernel_rfl)) F (by decide) (v := .int .i64 (IntKind.i64.wrap ((q : Int) + 1))) (x_assign (F.slot rfl)) (fun a F => ?_)
          unfold wpSeq
          refine t_normal ?_
          have F_ := F
          rw [show w_13 = qsteps m0 (rowF n) (q + 1) V1 from by rw [ew_13, ew_12, ew_11, ew_10, hX]; exact qsteps_succ m0 (rowF n) q hq8 V1 V2 hV2] at H
          have F := F.at 18 rfl (v' := .int .i64 ((q + 1 : Nat) : Int)) (congrArg (Value.int .i64) ((wrap_i64 _ (by omega) (by omega)).trans (by omega)))
          exact ⟨k - 1, by omega, q + 1, F.less _ (subc rfl (subc rfl (subc rfl (subc rfl (subc rfl (subc rfl (subc rfl (subc rfl (subc rfl (subc rfl (subc rfl (subc rfl (subc rfl (subc rfl sub0)))))))))))))), H, (by omega), (by omega)⟩
        · have hb7d := of_decide_eq_false hb7
          have F := F.at 74 rfl (v' := .bool false) (congrArg Value.bool hb7)
          refine c_no (c := .tmp 74) (by kernel_rfl) (F.slot rfl) ?_
          refine c_exit (id := 4) (by kernel_rfl) ?_
          refine t_exit ?_
          refine t_exit ?_
          refine b_here ?_
          refine b_normal ?_
          refine t_normal ?_
          obtain rfl : q = 8 := by omega
          obtain rfl : k = 0 := by omega
          rw [show qsteps m0 (rowF n) 8 V1 = rounds m0 (n + 1) S0 from by rw [hV1]; rfl] at H
          have H : St w (fun _ => False) (fun _ => True) [Asn.ft (Tabs gh h ga gr G 113 3 130) (fun k => k < w.heap.size), Asn.rd kW (fun k => k < w.heap.size) (some ⟨gh, 0, none⟩) 8 ((List.range 8).map h), Asn.blk g1 (wsN 16 m0) 113, Asn.blk gw (mid pre post (rounds m0 (n + 1) S0)) 113] W := H
          refine c_text (id := 12) (by kernel_rfl) [(0, 2), (1, 2), (2, 2)] (by kernel_rfl) ?_
          refine q2 (o_s 67 (.move (.tmp 16)) 3 (by kernel_rfl)) F (by decide) (x_move (F.slot rfl)) (fun a F => ?_)
          refine q2 (o_s 68 (.binOp .add 3 (.tmp 67) (.const (.int .i64 1)) 3) 3 (by kernel_rfl)) F (by decide) (v := .int .i64 (IntKind.i64.wrap ((n : Int) + 1))) (x_int (F.slot rfl) rfl rfl) (fun a F => ?_)
          refine q2 (o_s 16 (.assign (.tmp 68)) 3 (by kernel_rfl)) F (by decide) (v := .int .i64 (IntKind.i64.wrap ((n : Int) + 1))) (x_assign (F.slot rfl)) (fun a F => ?_)
          unfold wpSeq
          refine t_normal ?_
          have F_ := F
          have F := F.at 16 rfl (v' := .int .i64 ((n + 1 : Nat) : Int)) (congrArg (Value.int .i64) ((wrap_i64 _ (by omega) (by omega)).trans (by omega)))
          exact ⟨k - 1, by omega, n + 1, F.less _ (subc rfl (subc rfl (subc rfl (subc rfl (subc rfl (subc rfl sub0)))))), H, (by omega), (by omega)⟩
      · have hb6d := of_decide_eq_false hb6
        have F := F.at 66 rfl (v' := .bool false) (congrArg Value.bool hb6)
        refine c_no (c := .tmp 66) (by kernel_rfl) (F.slot rfl) ?_
        refine c_exit (id := 2) (by kernel_rfl) ?_
        refine t_exit ?_
        refine t_exit ?_
        refine b_here ?_
        refine t_normal ?_
        refine c_seq (by kernel_rfl) ?_
        obtain rfl : n = 10 := by omega
        obtain ⟨V0, hV0⟩ : ∃ Z_, Z_ = rounds m0 10 S0 := ⟨_, rfl⟩
        rw [← hV0] at H
        have H : St w (fun _ => False) (fun _ => True) [Asn.ft (Tabs gh h ga gr G 113 3 130) (fun k => k < w.heap.size), Asn.rd kW (fun k => k < w.heap.size) (some ⟨gh, 0, none⟩) 8 ((List.range 8).map h), Asn.blk g1 (wsN 16 m0) 113, Asn.blk gw (mid pre post V0) 113] W := H
        refine c_text (id := 23) (by kernel_rfl) [(0, 2), (1, 2)] (by kernel_rfl) ?_
        refine sq_make (q := 8) (o_s 155 (.makeSlice 126 (.const (.int .i64 8)) (.const (.int .i64 8))) 126 (by kernel_rfl)) trivial F (by decide) rfl rfl Tryd.underlying126 (show (Tryd.prog.info? 113).map (fun i => (i.zero, i.size, i.bytes)) = some (some (.int .u32 0), 1, 4) by kernel_rfl) rfl (by decide) (by decide) H ?_
        intro g23 W a hg23 H F
        rw [show List.replicate 8 (Value.int .u32 0) = wsN 8 (part (outW h V0) 0) from rfl] at H
        have H : St w (fun _ => False) (fun _ => True) [Asn.ft (Tabs gh h ga gr G 113 3 130) (fun k => k < w.heap.size), Asn.rd kW (fun k => k < w.heap.size) (some ⟨gh, 0, none⟩) 8 ((List.range 8).map h), Asn.blk g1 (wsN 16 m0) 113, Asn.blk gw (mid pre post V0) 113, Asn.blk g23 (wsN 8 (part (outW h V0) 0)) 113] W := H
        refine ⟨(fun _ => trivial), ?_⟩
        refine q2 (o_s 27 (.assign (.tmp 155)) 126 (by kernel_rfl)) F (by decide) (v := .slice (some ⟨g23, 0, none⟩) 8 8) (x_assign (F.slot rfl)) (fun a F => ?_)
        unfold wpSeq
        refine t_normal ?_
        refine c_seq (by kernel_rfl) ?_
        refine c_seq (by kernel_rfl) ?_
        refine c_text (id := 24) (by kernel_rfl) [(0, 2)] (by kernel_rfl) ?_
        refine q2 (o_s 28 (.assign (.const (.int .i64 0))) 3 (by kernel_rfl)) F (by decide) (v := .int .i64 0) (x_assign rfl) (fun a F => ?_)
        unfold wpSeq
        refine t_normal ?_
        refine c_block (id := 6) (by kernel_rfl) ?_
        refine c_loop (by kernel_rfl) (fun k a W => ∃ (j : Nat), Fr 179 [(0, .slice (some ⟨gh, 0, none⟩) 8 8), (1, .slice (some ⟨gr, 0, none⟩) 10 10), (2, .slice (some ⟨ga, 0, none⟩) 32 32), (13, .slice (some ⟨g1, 0, none⟩) 16 16), (15, .slice (some ⟨gw, o, none⟩) 16 c6_4), (16, .int .i64 (10 : Int)), (65, .int .i64 (10 : Int)), (66, .bool false), (155, .slice (some ⟨g23, 0, none⟩) 8 8), (27, .slice (some ⟨g23, 0, none⟩) 8 8), (28, .int .i64 (j : Int))] a ∧ St w (fun _ => False) (fun _ => True) [Asn.ft (Tabs gh h ga gr G 113 3 130) (fun k => k < w.heap.size), Asn.rd kW (fun k => k < w.heap.size) (some ⟨gh, 0, none⟩) 8 ((List.range 8).map h), Asn.blk g1 (wsN 16 m0) 113, Asn.blk gw (mid pre post V0) 113, Asn.blk g23 (wsN 8 (part (outW h V0) j)) 113] W ∧ (j ≤ 8) ∧ (k + j = 8)) 8 ⟨0, F.less _ (subc rfl (subc rfl (subc rfl (subc rfl (subc rfl (subc rfl (subc rfl (subc rfl (subc rfl (subc rfl (subc rfl sub0))))))))))), H, (by decide), rfl⟩ ?_
        rintro k a W ⟨j, F, H, hj, hkj⟩
        refine c_seq (by kernel_rfl) ?_
        refine c_seq (by kernel_rfl) ?_
        refine c_text (id := 25) (by kernel_rfl) [(0, 2), (1, 2)] (by kernel_rfl) ?_
        refine q2 (o_s 156 (.move (.tmp 28)) 3 (by kernel_rfl)) F (by decide) (x_move (F.slot rfl)) (fun a F => ?_)
        refine q2 (o_s 157 (.binOp .lss 3 (.tmp 156) (.const (.int .i64 8)) 3) 4 (by kernel_rfl)) F (by decide) (v := .bool (decide ((j : Int) < (8 : Int)))) (x_int (F.slot rfl) rfl rfl) (fun a F => ?_)
        unfold wpSeq
        have H : St w (fun _ => False) (fun _ => True) [Asn.ft (Tabs gh h ga gr G 113 3 130) (fun k => k < w.heap.size), Asn.rd kW (fun k => k < w.heap.size) (some ⟨gh, 0, none⟩) 8 ((List.range 8).map h), Asn.blk g1 (wsN 16 m0) 113, Asn.blk gw (mid pre post V0) 113, Asn.blk g23 (wsN 8 (part (outW h V0) j)) 113] W := H
        refine t_normal ?_
        rcases bool_or (decide ((j : Int) < (8 : Int))) with hb14 | hb14
        · have hb14d := of_decide_eq_true hb14
          have F := F.at 157 rfl (v' := .bool true) (congrArg Value.bool hb14)
          refine c_yes (c := .tmp 157) (by kernel_rfl) (F.slot rfl) ?_
          refine c_skip (by kernel_rfl) ?_
          refine t_normal ?_
          refine c_seq (by kernel_rfl) ?_
          refine c_block (id := 7) (by kernel_rfl) ?_
          refine c_drawn (id := 27) (by kernel_rfl) (by kernel_rfl) (Vs [Asn.ft (Tabs gh h ga gr G 113 3 130) (fun k => k < w.heap.size), Asn.blk gw (mid pre post V0) 113]) [0, 0, 0, 0, 12, 28, 0, 0, 192, 448, 1020, 0, 0, 4096, 14336, 30720, 65532, 131071, 262143] [18] [(0, 0), (1, 0), (2, 0), (3, 0), (4, 0), (6, 0), (7, 0), (8, 0), (11, 0), (12, 0), (13, 0), (14, 0), (5, 1), (9, 1), (10, 0), (15, 1), (16, 0), (17, 0), (18, 2)] (by kernel_rfl) (fun _ _ d _ _ h => by cases d <;> exact h) (Vs.drew ⟨H.get 0 rfl, H.get 3 rfl, trivial⟩) ?_
          have H := H.drew
          generalize World.drew W = W at H ⊢
          refine q0 (o_s 160 (.move (.tmp 27)) 126 (by kernel_rfl)) F (by decide) (fun W_ => x_move (F.slot rfl)) (fun a F => ?_)
          refine q0 (o_s 161 (.move (.tmp 28)) 3 (by kernel_rfl)) F (by decide) (fun W_ => x_move (F.slot rfl)) (fun a F => ?_)
          refine q0 (o_s 162 (.move (.tmp 0)) 126 (by kernel_rfl)) F (by decide) (fun W_ => x_move (F.slot rfl)) (fun a F => ?_)
          refine q0 (o_s 163 (.move (.tmp 28)) 3 (by kernel_rfl)) F (by decide) (fun W_ => x_move (F.slot rfl)) (fun a F => ?_)
          refine q0 (o_s 164 (.indexAddr 126 (.tmp 162) (.tmp 163)) 0 (by kernel_rfl)) F (by decide) (v := .pointer (some ⟨gh, j, none⟩)) (fun W_ => x_ix0 (i := j) Tryd.underlying126 (Tryd.sizeOf113 W_) (F.slot rfl) (F.slot rfl) rfl (by omega)) (fun a F => ?_)
          refine q0 (o_s 166 (.move (.tmp 15)) 126 (by kernel_rfl)) F (by decide) (fun W_ => x_move (F.slot rfl)) (fun a F => ?_)
          refine q0 (o_s 167 (.move (.tmp 28)) 3 (by kernel_rfl)) F (by decide) (fun W_ => x_move (F.slot rfl)) (fun a F => ?_)
          refine q0 (o_s 168 (.indexAddr 126 (.tmp 166) (.tmp 167)) 0 (by kernel_rfl)) F (by decide) (v := .pointer (some ⟨gw, (o + j), none⟩)) (fun W_ => x_ixo (i := j) Tryd.underlying126 (Tryd.sizeOf113 W_) (F.slot rfl) (F.slot rfl) rfl (by omega)) (fun a F => ?_)
          refine q0 (o_s 171 (.move (.tmp 15)) 126 (by kernel_rfl)) F (by decide) (fun W_ => x_move (F.slot rfl)) (fun a F => ?_)
          refine q0 (o_s 172 (.move (.tmp 28)) 3 (by kernel_rfl)) F (by decide) (fun W_ => x_move (F.slot rfl)) (fun a F => ?_)
          refine q0 (o_s 173 (.binOp .add 3 (.tmp 172) (.const (.int .i64 8)) 3) 3 (by kernel_rfl)) F (by decide) (v := .int .i64 (IntKind.i64.wrap ((j : Int) + 8))) (fun W_ => x_int (F.slot rfl) rfl rfl) (fun a F => ?_)
          have F := F.conv (v' := .int .i64 ((j + 8 : Nat) : Int)) (congrArg (Value.int .i64) ((wrap_i64 _ (by omega) (by omega)).trans (by omega)))
          refine q0 (o_s 174 (.indexAddr 126 (.tmp 171) (.tmp 173)) 0 (by kernel_rfl)) F (by decide) (v := .pointer (some ⟨gw, (o + (j + 8)), none⟩)) (fun W_ => x_ixo (i := (j + 8)) Tryd.underlying126 (Tryd.sizeOf113 W_) (F.slot rfl) (F.slot rfl) rfl (by omega)) (fun a F => ?_)
          refine q1 (o_s 165 (.load 113 (.tmp 164)) 113 (by kernel_rfl)) F (by decide) (⟨H.get 0 rfl, H.get 3 rfl, trivial⟩) (v := u (h j)) (fun W_ hV => x_load1 (Tryd.isAgg113 W_) (F.slot rfl) (Tabs.word (show (Tabs gh h ga gr G 113 3 130) W_ from Foot.now hV.1) (by omega))) (fun a F => ?_)
          refine q1 (o_s 169 (.load 113 (.tmp 168)) 113 (by kernel_rfl)) F (by decide) (⟨H.get 0 rfl, H.get 3 rfl, trivial⟩) (v := u (V0 j)) (fun W_ hV => x_load1 (Tryd.isAgg113 W_) (F.slot rfl) (bcell hV.2.1 (mid_at hpre (by omega)))) (fun a F => ?_)
          refine q0 (o_s 170 (.binOp .xor 113 (.tmp 165) (.tmp 169) 113) 113 (by kernel_rfl)) F (by decide) (v := u ((h j) ^^^ (V0 j))) (fun W_ => x_xor32 (F.slot rfl) (F.slot rfl)) (fun a F => ?_)
          refine q1 (o_s 175 (.load 113 (.tmp 174)) 113 (by kernel_rfl)) F (by decide) (⟨H.get 0 rfl, H.get 3 rfl, trivial⟩) (v := u (V0 (j + 8))) (fun W_ hV => x_load1 (Tryd.isAgg113 W_) (F.slot rfl) (bcell hV.2.1 (mid_at hpre (by omega)))) (fun a F => ?_)
          refine q0 (o_s 176 (.binOp .xor 113 (.tmp 170) (.tmp 175) 113) 113 (by kernel_rfl)) F (by decide) (v := u (((h j) ^^^ (V0 j)) ^^^ (V0 (j + 8)))) (fun W_ => x_xor32 (F.slot rfl) (F.slot rfl)) (fun a F => ?_)
          refine q0 (o_s 177 (.indexAddr 126 (.tmp 160) (.tmp 161)) 0 (by kernel_rfl)) F (by decide) (v := .pointer (some ⟨g23, j, none⟩)) (fun W_ => x_ix0 (i := j) Tryd.underlying126 (Tryd.sizeOf113 W_) (F.slot rfl) (F.slot rfl) rfl (by omega)) (fun a F => ?_)
          obtain ⟨w_16, ew_16⟩ : ∃ Z_, Z_ = upd (part (outW h V0) j) j (((h j) ^^^ (V0 j)) ^^^ (V0 (j + 8))) := ⟨_, rfl⟩
          refine sq_put (M := [Asn.ft (Tabs gh h ga gr G 113 3 130) (fun k => k < w.heap.size), Asn.rd kW (fun k => k < w.heap.size) (some ⟨gh, 0, none⟩) 8 ((List.range 8).map h), Asn.blk g1 (wsN 16 m0) 113, Asn.blk gw (mid pre post V0) 113, Asn.blk g23 (wsN 8 w_16) 113]) (o_n (.store 113 (.tmp 177) (.tmp 176)) 0 (by kernel_rfl)) trivial F (by rw [ew_16, ← ws_upd (part (outW h V0) j) (by omega) (((h j) ^^^ (V0 j)) ^^^ (V0 (j + 8)))]; exact x_store1 H (k := 4) rfl (Tryd.sizeOf113 W) (F.slot rfl) (F.slot rfl) rfl rfl (by rw [wsN_len]; exact (by omega))) ?_
          intro W H
          refine ⟨(fun h => absurd (by decide) h), ?_⟩
          unfold wpSeq
          refine b_normal ?_
          refine t_normal ?_
          refine c_text (id := 26) (by kernel_rfl) [(0, 2), (1, 2), (2, 2)] (by kernel_rfl) ?_
          refine q2 (o_s 158 (.move (.tmp 28)) 3 (by kernel_rfl)) F (by decide) (x_move (F.slot rfl)) (fun a F => ?_)
          refine q2 (o_s 159 (.binOp .add 3 (.tmp 158) (.const (.int .i64 1)) 3) 3 (by kernel_rfl)) F (by decide) (v := .int .i64 (IntKind.i64.wrap ((j : Int) + 1))) (x_int (F.slot rfl) rfl rfl) (fun a F => ?_)
          refine q2 (o_s 28 (.assign (.tmp 159)) 3 (by kernel_rfl)) F (by decide) (v := .int .i64 (IntKind.i64.wrap ((j : Int) + 1))) (x_assign (F.slot rfl)) (fun a F => ?_)
          unfold wpSeq
          refine t_normal ?_
          have F_ := F
          rw [show w_16 = part (outW h V0) (j + 1) from ew_16.trans (part_succ _ _)] at H
          have F := F.at 28 rfl (v' := .int .i64 ((j + 1 : Nat) : Int)) (congrArg (Value.int .i64) ((wrap_i64 _ (by omega) (by omega)).trans (by omega)))
          exact ⟨k - 1, by omega, j + 1, F.less _ (subc rfl (subc rfl (subc rfl (subc rfl (subc rfl (subc rfl (subc rfl (subc rfl (subc rfl (subc rfl (subc rfl sub0))))))))))), H, (by omega), (by omega)⟩
        · have hb14d := of_decide_eq_false hb14
          have F := F.at 157 rfl (v' := .bool false) (congrArg Value.bool hb14)
          refine c_no (c := .tmp 157) (by kernel_rfl) (F.slot rfl) ?_
          refine c_exit (id := 6) (by kernel_rfl) ?_
          refine t_exit ?_
          refine t_exit ?_
          refine b_here ?_
          refine t_normal ?_
          refine c_seq (by kernel_rfl) ?_
          refine c_text (id := 28) (by kernel_rfl) [(0, 2), (1, 2)] (by kernel_rfl) ?_
          refine q2 (o_s 178 (.move (.tmp 27)) 126 (by kernel_rfl)) F (by decide) (x_move (F.slot rfl)) (fun a F => ?_)
          refine q2 (o_s 12 (.assign (.tmp 178)) 126 (by kernel_rfl)) F (by decide) (v := .slice (some ⟨g23, 0, none⟩) 8 8) (x_assign (F.slot rfl)) (fun a F => ?_)
          unfold wpSeq
          refine t_normal ?_
          refine c_ret (by kernel_rfl) ?_
          refine p_tmp Tryd.results101 F rfl ?_
          obtain rfl : j = 8 := by omega
          have e_ : wsN 8 (part (outW h V0) 8) = wsN 8 (blockF h s.toList t last) := by rw [part_all, hV0, hm0, hS0, outW_block]
          rw [e_] at H
          exact ⟨_, rfl, hg23, H.blk 4 rfl, H.ends⟩
end Go.Proofs.YtndicjikjcifaaaDoor

/- The document's digest: padding, the blocks one after another, the bytes. Plain lemmas. -/
namespace Go.Proofs.YtndicjikjcifaaaDoor
open Go.RowKit Go.Proofs.YtndicjikjcifaaaDoorW.PrintWords Go.Proofs.YtndicjikjcifaaaDoorW.PrintLast Bl
set_option linter.unusedVariables false
set_option linter.unusedSimpArgs false
def Pad (l t : List UInt8) : Prop := (∃ m, t = l ++ List.replicate m 0) ∧ t.length % 64 = 0 ∧ 0 < t.length ∧ (t.length < l.length + 64 ∨ l.length = 0 ∧ t.length = 64)
theorem Pad.more {l : List UInt8} (q : Nat) (hq : q = 64 - l.length % 64) (h : l.length = 0 ∨ l.length % 64 ≠ 0) : Pad l (l ++ List.replicate q 0) := by
  refine ⟨⟨q, rfl⟩, ?_, ?_, ?_⟩ <;> rw [List.length_append, List.length_replicate] <;> omega
theorem Pad.none {l : List UInt8} (h : ¬ (l.length = 0 ∨ l.length % 64 ≠ 0)) : Pad l l := ⟨⟨0, by simp⟩, by omega, by omega, by omega⟩
def Zf (l : List UInt8) : Words := finF l 0 l.length 0 (beginF 0)
def Going (l t : List UInt8) (q : Nat) (h : Words) : Prop := (q < t.length ∧ ∃ f, l.length ≤ q + 64 * f + 64 ∧ finF l 0 f q h = Zf l) ∨ (q = t.length ∧ h = Zf l)
theorem by8_pad (l : List UInt8) (m i : Nat) : by8 (l ++ List.replicate m 0) i = by8 l i := by
  unfold by8
  congr 2
  rw [List.getD_eq_getElem?_getD, List.getD_eq_getElem?_getD]
  by_cases h : i < l.length
  · rw [List.getElem?_append_left h]
  · rw [List.getElem?_append_right (by omega), List.getElem?_eq_none (by omega : l.length ≤ i), List.getElem?_replicate]
    split <;> rfl
theorem loadF_pad (l : List UInt8) (m : Nat) : loadF (l ++ List.replicate m 0) = loadF l := by
  funext j
  unfold loadF
  simp only [by8_pad]
theorem Going.first (l t : List UInt8) (h : Pad l t) : Going l t 0 (beginF 0) := .inl ⟨h.2.2.1, l.length, by omega, rfl⟩
theorem Going.step {l t : List UInt8} {q : Nat} {h : Words} {b : Bool} {n : Int} (hp : Pad l t) (H : Going l t q h) (hq : q < t.length) (h64 : q % 64 = 0) (hb : b = decide (q + 64 = t.length)) (hn : n = min (l.length : Int) ((q + 64 : Nat) : Int)) :
    Going l t (q + 64) (blockF h ((t.drop q).take 64) n b) := by
  obtain ⟨⟨m, hm⟩, p1, p2, p3⟩ := hp
  have hlen : t.length = l.length + m := by rw [hm, List.length_append, List.length_replicate]
  rcases H with ⟨_, f, hf, hz⟩ | ⟨e, _⟩
  · by_cases c : q + 64 = t.length
    · refine .inr ⟨c, ?_⟩
      rw [decide_eq_true c] at hb
      subst hb
      have hn' : n = 0 + (l.length : Int) := by omega
      rw [← hz, fin_end l f q h (by omega), hn']
      have e : (t.drop q).take 64 = l.drop q ++ List.replicate (t.length - q - (l.length - q)) 0 := by
        rw [List.take_of_length_le (by rw [List.length_drop]; omega), hm]
        by_cases hql : q ≤ l.length
        · rw [List.drop_append_of_le_length hql]
          congr 2
          rw [List.length_append, List.length_replicate]; omega
        · omega
      unfold blockF
      rw [e, loadF_pad]
    · refine .inl ⟨by omega, ?_⟩
      rw [decide_eq_false c] at hb
      subst hb
      have hn' : n = 0 + (q : Int) + 64 := by omega
      obtain ⟨k, rfl, hk⟩ := fin_step l f q h (by omega) hf
      refine ⟨k, by omega, ?_⟩
      rw [← hz, hk, hn']
      have e : (t.drop q).take 64 = (l.drop q).take 64 := by
        rw [hm, List.drop_append_of_le_length (by omega), List.take_append_of_le_length (by rw [List.length_drop]; omega)]
      rw [e]
  · omega
theorem Going.last {l t : List UInt8} {h : Words} (H : Going l t t.length h) : h = Zf l := by
  rcases H with ⟨h1, _⟩ | ⟨_, h2⟩
  · omega
  · exact h2
theorem RowsAt.foot {gr : Nat} {G : Nat → Nat} {T TI : TypeId} {W : World} (h : RowsAt gr G T TI W) : Foot (RowsAt gr G T TI) W (fun k => k = gr ∨ ∃ i, i < 10 ∧ k = G i) := fun W' hW =>
  ⟨(hW gr (.inl rfl) (blk_lt h.1)).trans h.1, fun i hi => (hW _ (.inr ⟨i, hi, rfl⟩) (blk_lt (h.2 i hi))).trans (h.2 i hi)⟩
theorem begin_eq (F : Words) (e : F = upd firstsF 0 (firstsF 0 ^^^ 16842784#32 ^^^ BitVec.ofInt 32 0)) : F = beginF 0 := by
  rw [e]; funext j; unfold upd beginF
  by_cases c : j = 0 <;> simp [c]
def kB : Kd UInt8 := Kd.scalar (fun b : UInt8 => .int .u8 (b.toNat : Int)) (fun _ => rfl)
theorem kB_flat : ∀ (W W' : World) (t : UInt8) (c : List Value), kB.K W t c → kB.K W' t c := fun _ _ _ _ h => h
section
variable {P : Program} {a : Act} {W W' w : World} {x y : Operand} {t yt ty T : TypeId} {S R : Nat → Prop} {M : List Asn}
theorem x_quo32 {p c : B32} (n : Nat) (hc : c.toNat = 2 ^ n) (hx : a.eval x = u p) (hy : a.eval y = u c) : (ex a (.binOp .quo t x y yt) ty).run P W = .ok (.value (u (p >>> n))) W := by
  have h0 : 0 < c.toNat := by rw [hc]; exact Nat.two_pow_pos n
  have hne : (c.toNat : Int) ≠ 0 := by omega
  have e : IntKind.u32.wrap (Int.tdiv (p.toNat : Int) (c.toNat : Int)) = ((p >>> n).toNat : Int) := by
    rw [wrap_u, BitVec.toNat_ushiftRight, Nat.shiftRight_eq_div_pow, ← hc]
    have h1 : Int.tdiv (p.toNat : Int) (c.toNat : Int) = ((p.toNat / c.toNat : Nat) : Int) := by
      rw [Int.tdiv_eq_ediv_of_nonneg (Int.natCast_nonneg _)]; rfl
    rw [h1]
    have h2 : p.toNat / c.toNat ≤ p.toNat := Nat.div_le_self _ _
    have := p.isLt
    generalize p.toNat / c.toNat = m at *
    omega
  have := x_int (P := P) (W := W) (t := t) (yt := yt) (ty := ty) (o := .quo) (v := .int .u32 (IntKind.u32.wrap (Int.tdiv (p.toNat : Int) (c.toNat : Int)))) hx hy (by simp [eqGuard, binOp, Op.intDiv, show ¬ c.toNat = 0 by omega])
  rw [e] at this; exact this
theorem x_strQ {s d e : TypeId} {A : Option Addr} {n c : Nat} {l : List UInt8} {ok : Nat → Prop} (hu : P.underlying s = some (.slice e)) (he : P.underlying e = some (.int .u8)) (hd : P.underlying d = some .string)
    (hx : a.eval x = .slice A n c) (hq : Queue kB T (.slice A n c) l ok W) (h0 : 0 < l.length) : (ex a (.convert s d x) ty).run P W = .ok (.value (.string ⟨l.toArray⟩)) W := by
  obtain ⟨rfl, _, hC⟩ := hq.read
  obtain ⟨_, _, h3⟩ := hC
  obtain ⟨ad, rfl, h4⟩ := h3 h0
  have := run_convert_bytes_back (P := P) W s d e ad c l hu he hd (fun j hj => by
    obtain ⟨cs, h6, h5, h7⟩ := h4 j l[j] (List.getElem?_eq_getElem hj)
    have h5' : cs = [.int .u8 (l[j].toNat : Int)] := h5
    subst h5'
    have := h7 0 _ rfl
    rw [show kB.sz = 1 from rfl, Nat.mul_one, Nat.add_zero] at this
    simpa using this)
  simp [ex, execOp, hx, this]
theorem bytes_foot {W : World} {g : Nat} {T : TypeId} (l : List UInt8) (hb : W.heap[g]? = some (.cells (l.map fun b : UInt8 => Value.int .u8 (b.toNat : Int)).toArray T (0, 0))) (hn : l.length ≤ 9223372036854775807) : Foot (fun W => kB.C W (some ⟨g, 0, none⟩) l.length l) W (fun k => k = g) := fun W' hW => by
  have hb' := (hW g rfl (blk_lt hb)).trans hb
  refine ⟨rfl, hn, fun _ => ⟨_, rfl, fun j p hj => ⟨[.int .u8 (p.toNat : Int)], rfl, rfl, fun i v hv => ?_⟩⟩⟩
  rw [addo, blk_cell hb']
  have hi : i = 0 := by have := (List.getElem?_eq_some_iff.1 hv).1; simp at this; omega
  subst hi
  obtain rfl : Value.int .u8 (p.toNat : Int) = v := by simpa using hv
  have hz : kB.sz = 1 := rfl
  simp [hz, hj]
theorem St.blkRd {g : Nat} (H : St w S R M W) (k : Nat) (l : List UInt8) (h : M[k]? = some (Asn.blk g (l.map fun b : UInt8 => Value.int .u8 (b.toNat : Int)) T)) (hn : l.length ≤ 9223372036854775807) : St w S R (M.set k (Asn.rd kB (fun j => j = g) (some ⟨g, 0, none⟩) l.length l)) W :=
  H.upd k h (Only.refl _ _) _ (bytes_foot l (H.blk k h) hn) (fun j hj => by
    rcases hj with hj | hj
    · exact hj.elim
    · exact (show j = g from hj) ▸ blk_lt (H.blk k h)) (fun j hj => hj.elim) (fun j hj => .inl hj)
end
def outB (h : Words) (n : Nat) : List UInt8 := (List.range n).flatMap fun i => byteL (h i)
theorem outB_succ (h : Words) (n : Nat) : outB h n ++ byteL (h n) = outB h (n + 1) := by
  unfold outB
  rw [List.range_succ, List.flatMap_append]
  simp
theorem outB_len (h : Words) (n : Nat) : (outB h n).length = 4 * n := by
  induction n with
  | zero => rfl
  | succ k ih => rw [← outB_succ, List.length_append, ih]; simp [byteL]; omega
theorem zeros_list (q : Nat) : (⟨(List.replicate q (0 : UInt8)).toArray⟩ : ByteArray).toList = List.replicate q 0 := by
  rw [Lib.toList_data]
theorem zeros_size (q : Nat) : (⟨(List.replicate q (0 : UInt8)).toArray⟩ : ByteArray).size = q := by rw [← toList_size, zeros_list, List.length_replicate]
theorem Pad.cat {s : ByteArray} (h : s.size = 0 ∨ s.size % 64 ≠ 0) : Pad s.toList (s ++ ⟨(List.replicate (64 - s.size % 64) (0 : UInt8)).toArray⟩ : ByteArray).toList ∧ (s ++ ⟨(List.replicate (64 - s.size % 64) (0 : UInt8)).toArray⟩ : ByteArray).size ≤ s.size + 64 := by
  have e : (s ++ ⟨(List.replicate (64 - s.size % 64) (0 : UInt8)).toArray⟩ : ByteArray).toList = s.toList ++ List.replicate (64 - s.size % 64) 0 := by
    rw [Lib.toList_data, ByteArray.data_append, Array.toList_append, ← Lib.toList_data]
  rw [← toList_size s] at h ⊢
  refine ⟨?_, ?_⟩
  · rw [toList_size s] at h ⊢
    rw [e]
    exact Pad.more _ (by rw [toList_size]) (by rw [toList_size]; exact h)
  · rw [toList_size s, ByteArray.size_append, zeros_size]; omega
theorem Pad.self {s : ByteArray} (h0 : s.size ≠ 0) (h : s.size % 64 = 0) : Pad s.toList s.toList ∧ s.size ≤ s.size + 64 := ⟨Pad.none (by rw [toList_size]; omega), by omega⟩
theorem end_eq (q : Nat) (t : ByteArray) : (((q + 64 : Nat) : Int) == (t.size : Int)) = decide (q + 64 = t.toList.length) := by
  rw [toList_size, Bool.eq_iff_iff]; simp; omega
theorem zeros_bs (q : Nat) : List.replicate q (Value.int .u8 0) = bsN q (fun _ => 0) := by
  apply List.ext_getElem?
  intro j
  by_cases h : j < q <;> simp [bsN, h, List.getElem?_replicate]
theorem zeros_map (q : Nat) : (List.range q).map (fun _ => (0 : UInt8)) = List.replicate q 0 := by
  apply List.ext_getElem?
  intro j
  by_cases h : j < q <;> simp [h, List.getElem?_replicate]
end Go.Proofs.YtndicjikjcifaaaDoor

/- tuskref02.digest. -/
namespace Go.Proofs.YtndicjikjcifaaaDoor
open Go.RowKit Go.Proofs.YtndicjikjcifaaaDoorW.PrintWords Go.Proofs.YtndicjikjcifaaaDoorW.PrintLast
set_option linter.unusedVariables false
set_option linter.unusedSimpArgs false
set_option maxRecDepth 100000
open Bl
set_option maxHeartbeats 2000000 in
theorem rdigest_calls (s : ByteArray) (hs : s.size < 4611686018427387904) (w : World) : Calls Tryd.prog 88 #[.string s, .int .i64 0] w fun e W => e = .returned (.string ⟨(sumF s.toList).toArray⟩) ∧ Below w.heap.size w W := by
  refine c_enter2 (args := [.string s, .int .i64 0]) (S := (fun _ => False)) (R := (fun _ => True)) (M := []) Tryd.func88 (by kernel_rfl) 99 Tryd.ntmps88 (Nat.le_of_ble_eq_true rfl) (St.first w (fun _ => False) (fun _ => True)) (fun a W F H => ?_)
  have F := F.less [(0, .string s), (1, .int .i64 0)] (subc rfl (subc rfl sub0))
  refine c_seq (by kernel_rfl) ?_
  refine c_text (id := 0) (by kernel_rfl) [(0, 2)] (by kernel_rfl) ?_
  refine q2 (o_s 4 (.assign (.const (.string { data := #[] }))) 9 (by kernel_rfl)) F (by decide) (v := .string ⟨#[]⟩) (x_assign rfl) (fun a F => ?_)
  unfold wpSeq
  have H : St w (fun _ => False) (fun _ => True) [] W := H
  refine t_normal ?_
  refine c_seq (by kernel_rfl) ?_
  refine c_text (id := 1) (by kernel_rfl) [(0, 2), (1, 2)] (by kernel_rfl) ?_
  refine sqc (o_s 13 (.call { callee := (.value (.func 98)), args := #[], argTypes := #[] }) 126 (by kernel_rfl)) trivial F (by decide) (x_call Tryd.func98 (by kernel_rfl) rfl (args_0)) (firsts2_calls W) ?_
  rintro e W ⟨gf, rfl, hgf, hfb, hB⟩
  refine ⟨_, rfl, fun a F => ?_⟩
  have H := H.newBlk hB hgf hfb
  have H : St w (fun _ => False) (fun _ => True) [Asn.blk gf (wsN 8 firstsF) 113] W := H
  refine ⟨(fun _ => trivial), ?_⟩
  refine q2 (o_s 5 (.assign (.tmp 13)) 126 (by kernel_rfl)) F (by decide) (v := .slice (some ⟨gf, 0, none⟩) 8 8) (x_assign (F.slot rfl)) (fun a F => ?_)
  unfold wpSeq
  refine t_normal ?_
  refine c_seq (by kernel_rfl) ?_
  refine c_text (id := 2) (by kernel_rfl) [(0, 2), (1, 2), (2, 2), (3, 2), (4, 2), (5, 2), (6, 2), (7, 2), (8, 2), (9, 2), (10, 2)] (by kernel_rfl) ?_
  refine q2 (o_s 14 (.move (.tmp 5)) 126 (by kernel_rfl)) F (by decide) (x_move (F.slot rfl)) (fun a F => ?_)
  refine q2 (o_s 15 (.move (.tmp 5)) 126 (by kernel_rfl)) F (by decide) (x_move (F.slot rfl)) (fun a F => ?_)
  refine q2 (o_s 16 (.indexAddr 126 (.tmp 15) (.const (.int .i64 0))) 0 (by kernel_rfl)) F (by decide) (v := .pointer (some ⟨gf, 0, none⟩)) (x_ix0 (i := 0) Tryd.underlying126 (Tryd.sizeOf113 W) (F.slot rfl) rfl rfl (by omega)) (fun a F => ?_)
  refine q2 (o_s 17 (.load 113 (.tmp 16)) 113 (by kernel_rfl)) F (by decide) (v := u (firstsF 0)) (x_load1 (Tryd.isAgg113 W) (F.slot rfl) (H.cell 0 rfl (ws_at firstsF (by omega)))) (fun a F => ?_)
  refine q2 (o_s 18 (.binOp .xor 113 (.tmp 17) (.const (.int .u32 16842784)) 113) 113 (by kernel_rfl)) F (by decide) (v := u ((firstsF 0) ^^^ (16842784#32))) (x_xor32 (F.slot rfl) rfl) (fun a F => ?_)
  refine q2 (o_s 19 (.move (.tmp 1)) 3 (by kernel_rfl)) F (by decide) (x_move (F.slot rfl)) (fun a F => ?_)
  refine q2 (o_s 20 (.binOp .mul 3 (.const (.int .i64 256)) (.tmp 19) 3) 3 (by kernel_rfl)) F (by decide) (v := .int .i64 0) (x_int rfl (F.slot rfl) rfl) (fun a F => ?_)
  refine q2 (o_s 21 (.convert 3 113 (.tmp 20)) 113 (by kernel_rfl)) F (by decide) (v := u (BitVec.ofInt 32 0)) (x_toU32 Tryd.underlying3 Tryd.underlying113 (F.slot rfl)) (fun a F => ?_)
  refine q2 (o_s 22 (.binOp .xor 113 (.tmp 18) (.tmp 21) 113) 113 (by kernel_rfl)) F (by decide) (v := u (((firstsF 0) ^^^ (16842784#32)) ^^^ (BitVec.ofInt 32 0))) (x_xor32 (F.slot rfl) (F.slot rfl)) (fun a F => ?_)
  refine q2 (o_s 23 (.indexAddr 126 (.tmp 14) (.const (.int .i64 0))) 0 (by kernel_rfl)) F (by decide) (v := .pointer (some ⟨gf, 0, none⟩)) (x_ix0 (i := 0) Tryd.underlying126 (Tryd.sizeOf113 W) (F.slot rfl) rfl rfl (by omega)) (fun a F => ?_)
  obtain ⟨w_1, ew_1⟩ : ∃ Z_, Z_ = upd firstsF 0 (((firstsF 0) ^^^ (16842784#32)) ^^^ (BitVec.ofInt 32 0)) := ⟨_, rfl⟩
  refine sq_put (M := [Asn.blk gf (wsN 8 w_1) 113]) (o_n (.store 113 (.tmp 23) (.tmp 22)) 0 (by kernel_rfl)) trivial F (by rw [ew_1, ← ws_upd firstsF (by omega) (((firstsF 0) ^^^ (16842784#32)) ^^^ (BitVec.ofInt 32 0))]; exact x_store1 H (k := 0) rfl (Tryd.sizeOf113 W) (F.slot rfl) (F.slot rfl) rfl rfl (by rw [wsN_len]; exact (by omega))) ?_
  intro W H
  refine ⟨(fun _ => trivial), ?_⟩
  unfold wpSeq
  refine t_normal ?_
  refine c_seq (by kernel_rfl) ?_
  rw [show w_1 = beginF 0 from begin_eq _ ew_1] at H
  have H : St w (fun _ => False) (fun _ => True) [Asn.blk gf (wsN 8 (beginF 0)) 113] W := H
  refine c_text (id := 3) (by kernel_rfl) [(0, 2), (1, 2), (2, 2)] (by kernel_rfl) ?_
  refine q2 (o_s 24 (.move (.tmp 0)) 9 (by kernel_rfl)) F (by decide) (x_move (F.slot rfl)) (fun a F => ?_)
  refine q2 (o_s 25 (.call { callee := (.builtin .len), args := #[(.tmp 24)], argTypes := #[9] }) 3 (by kernel_rfl)) F (by decide) (v := .int .i64 (s.size : Int)) (x_lenS Tryd.underlying9 (F.slot rfl)) (fun a F => ?_)
  refine q2 (o_s 6 (.assign (.tmp 25)) 3 (by kernel_rfl)) F (by decide) (v := .int .i64 (s.size : Int)) (x_assign (F.slot rfl)) (fun a F => ?_)
  unfold wpSeq
  refine t_normal ?_
  refine c_seq (by kernel_rfl) ?_
  refine c_text (id := 4) (by kernel_rfl) [(0, 2), (1, 2)] (by kernel_rfl) ?_
  refine q2 (o_s 26 (.move (.tmp 0)) 9 (by kernel_rfl)) F (by decide) (x_move (F.slot rfl)) (fun a F => ?_)
  refine q2 (o_s 7 (.assign (.tmp 26)) 9 (by kernel_rfl)) F (by decide) (v := .string s) (x_assign (F.slot rfl)) (fun a F => ?_)
  unfold wpSeq
  refine t_normal ?_
  skip
  refine c_cut (by kernel_rfl) (fun a W => ∃ tx : ByteArray, Fr 99 [(5, .slice (some ⟨gf, 0, none⟩) 8 8), (6, .int .i64 (s.size : Int)), (7, .string tx)] a ∧ St w (fun _ => False) (fun _ => True) [Asn.blk gf (wsN 8 (beginF 0)) 113] W ∧ Pad s.toList tx.toList ∧ tx.size ≤ s.size + 64) ?_ ?_
  · refine c_seq (by kernel_rfl) ?_
    refine c_text (id := 5) (by kernel_rfl) [(0, 2), (1, 2), (2, 2), (3, 2), (4, 2), (5, 2), (6, 2)] (by kernel_rfl) ?_
    refine q2 (o_s 27 (.move (.tmp 6)) 3 (by kernel_rfl)) F (by decide) (x_move (F.slot rfl)) (fun a F => ?_)
    refine q2 (o_s 28 (.binOp .eql 3 (.tmp 27) (.const (.int .i64 0)) 3) 4 (by kernel_rfl)) F (by decide) (v := .bool ((s.size : Int) == (0 : Int))) (x_int (F.slot rfl) rfl rfl) (fun a F => ?_)
    refine q2 (o_s 29 (.move (.tmp 28)) 4 (by kernel_rfl)) F (by decide) (x_move (F.slot rfl)) (fun a F => ?_)
    rcases bool_or ((s.size : Int) == (0 : Int)) with hb2 | hb2
    · have F := F.at 29 rfl (v' := .bool true) (congrArg Value.bool hb2)
      refine sqoff2 (e := 29) (o_g 30 (.move (.tmp 6)) 3 2 false (by kernel_rfl)) (by kernel_rfl) (.inl rfl) F (by decide) (trivial) (fun a F => ?_)
      refine sqoff2 (e := 29) (o_g 31 (.binOp .rem 3 (.tmp 30) (.const (.int .i64 64)) 3) 3 2 false (by kernel_rfl)) (by kernel_rfl) (.inl rfl) F (by decide) (trivial) (fun a F => ?_)
      refine sqoff2 (e := 29) (o_g 32 (.binOp .neq 3 (.tmp 31) (.const (.int .i64 0)) 3) 4 2 false (by kernel_rfl)) (by kernel_rfl) (.inl rfl) F (by decide) (trivial) (fun a F => ?_)
      refine q2 (o_s 33 (.pick (.tmp 29) (.const (.bool true)) (.tmp 32)) 4 (by kernel_rfl)) F (by decide) (v := .bool true) (x_pickT (F.slot rfl) rfl) (fun a F => ?_)
      unfold wpSeq
      refine t_normal ?_
      refine c_yes (c := .tmp 33) (by kernel_rfl) (F.slot rfl) ?_
      refine c_text (id := 6) (by kernel_rfl) [(0, 2), (1, 2), (2, 2), (3, 2), (4, 2), (5, 2), (6, 2), (7, 2)] (by kernel_rfl) ?_
      refine q2 (o_s 34 (.move (.tmp 0)) 9 (by kernel_rfl)) F (by decide) (x_move (F.slot rfl)) (fun a F => ?_)
      refine q2 (o_s 35 (.move (.tmp 6)) 3 (by kernel_rfl)) F (by decide) (x_move (F.slot rfl)) (fun a F => ?_)
      refine q2 (o_s 36 (.binOp .rem 3 (.tmp 35) (.const (.int .i64 64)) 3) 3 (by kernel_rfl)) F (by decide) (v := .int .i64 (Int.tmod (s.size : Int) 64)) (x_int (F.slot rfl) rfl rfl) (fun a F => ?_)
      have F := F.conv (v' := .int .i64 ((s.size % 64 : Nat) : Int)) (congrArg (Value.int .i64) (by rw [Int.tmod_eq_emod_of_nonneg (by omega)]; omega))
      refine q2 (o_s 37 (.binOp .sub 3 (.const (.int .i64 64)) (.tmp 36) 3) 3 (by kernel_rfl)) F (by decide) (v := .int .i64 (IntKind.i64.wrap (64 - ((s.size % 64 : Nat) : Int)))) (x_int rfl (F.slot rfl) rfl) (fun a F => ?_)
      have F := F.conv (v' := .int .i64 ((64 - s.size % 64 : Nat) : Int)) (congrArg (Value.int .i64) ((wrap_i64 _ (by omega) (by omega)).trans (by omega)))
      refine sq_make (q := (64 - s.size % 64)) (o_s 38 (.makeSlice 104 (.tmp 37) (.tmp 37)) 104 (by kernel_rfl)) trivial F (by decide) (F.slot rfl) (F.slot rfl) Tryd.underlying104 (show (Tryd.prog.info? 5).map (fun i => (i.zero, i.size, i.bytes)) = some (some (.int .u8 0), 1, 1) by kernel_rfl) rfl (by omega) (by decide) H ?_
      intro gz W a hgz H F
      rw [zeros_bs] at H
      have H : St w (fun _ => False) (fun _ => True) [Asn.blk gf (wsN 8 (beginF 0)) 113, Asn.blk gz (bsN (64 - s.size % 64) (fun _ => 0)) 5] W := H
      refine ⟨(fun _ => trivial), ?_⟩
      refine q2 (o_s 39 (.convert 104 9 (.tmp 38)) 9 (by kernel_rfl)) F (by decide) (v := .string ⟨(List.replicate (64 - s.size % 64) (0 : UInt8)).toArray⟩) (x_bytes Tryd.underlying104 Tryd.underlying5 Tryd.underlying9 (F.slot rfl) (H.blk 1 rfl) (zeros_map _)) (fun a F => ?_)
      refine q2 (o_s 40 (.binOp .add 9 (.tmp 34) (.tmp 39) 9) 9 (by kernel_rfl)) F (by decide) (v := .string (s ++ ⟨(List.replicate (64 - s.size % 64) (0 : UInt8)).toArray⟩)) (x_cat (F.slot rfl) (F.slot rfl) (by rw [zeros_size]; omega)) (fun a F => ?_)
      refine q2 (o_s 7 (.assign (.tmp 40)) 9 (by kernel_rfl)) F (by decide) (v := .string (s ++ ⟨(List.replicate (64 - s.size % 64) (0 : UInt8)).toArray⟩)) (x_assign (F.slot rfl)) (fun a F => ?_)
      unfold wpSeq
      refine t_normal ?_
      have h_hb2 := eq_of_beq hb2
      have hP := Pad.cat (s := s) (by omega)
      exact ⟨_, F.less _ (subc rfl (subc rfl (subc rfl sub0))), H.front 1, hP.1, hP.2⟩
    · have F := F.at 29 rfl (v' := .bool false) (congrArg Value.bool hb2)
      refine sq2 (W' := W) (o_g 30 (.move (.tmp 6)) 3 2 false (by kernel_rfl)) ⟨29, by kernel_rfl, rfl⟩ F (by decide) (v := .int .i64 (s.size : Int)) (x_move (F.slot rfl)) (fun _ => trivial) (fun a F => ?_)
      refine sq2 (W' := W) (o_g 31 (.binOp .rem 3 (.tmp 30) (.const (.int .i64 64)) 3) 3 2 false (by kernel_rfl)) ⟨29, by kernel_rfl, rfl⟩ F (by decide) (v := .int .i64 (Int.tmod (s.size : Int) 64)) (x_int (F.slot rfl) rfl rfl) (fun _ => trivial) (fun a F => ?_)
      have F := F.conv (v' := .int .i64 ((s.size % 64 : Nat) : Int)) (congrArg (Value.int .i64) (by rw [Int.tmod_eq_emod_of_nonneg (by omega)]; omega))
      refine sq2 (W' := W) (o_g 32 (.binOp .neq 3 (.tmp 31) (.const (.int .i64 0)) 3) 4 2 false (by kernel_rfl)) ⟨29, by kernel_rfl, rfl⟩ F (by decide) (v := .bool (((s.size % 64 : Nat) : Int) != (0 : Int))) (x_int (F.slot rfl) rfl rfl) (fun _ => trivial) (fun a F => ?_)
      refine q2 (o_s 33 (.pick (.tmp 29) (.const (.bool true)) (.tmp 32)) 4 (by kernel_rfl)) F (by decide) (v := .bool (((s.size % 64 : Nat) : Int) != (0 : Int))) (x_pickF (F.slot rfl) (F.slot rfl)) (fun a F => ?_)
      unfold wpSeq
      refine t_normal ?_
      rcases bool_or (((s.size % 64 : Nat) : Int) != (0 : Int)) with hb3 | hb3
      · have F := F.at 33 rfl (v' := .bool true) (congrArg Value.bool hb3)
        refine c_yes (c := .tmp 33) (by kernel_rfl) (F.slot rfl) ?_
        refine c_text (id := 6) (by kernel_rfl) [(0, 2), (1, 2), (2, 2), (3, 2), (4, 2), (5, 2), (6, 2), (7, 2)] (by kernel_rfl) ?_
        refine q2 (o_s 34 (.move (.tmp 0)) 9 (by kernel_rfl)) F (by decide) (x_move (F.slot rfl)) (fun a F => ?_)
        refine q2 (o_s 35 (.move (.tmp 6)) 3 (by kernel_rfl)) F (by decide) (x_move (F.slot rfl)) (fun a F => ?_)
        refine q2 (o_s 36 (.binOp .rem 3 (.tmp 35) (.const (.int .i64 64)) 3) 3 (by kernel_rfl)) F (by decide) (v := .int .i64 (Int.tmod (s.size : Int) 64)) (x_int (F.slot rfl) rfl rfl) (fun a F => ?_)
        have F := F.conv (v' := .int .i64 ((s.size % 64 : Nat) : Int)) (congrArg (Value.int .i64) (by rw [Int.tmod_eq_emod_of_nonneg (by omega)]; omega))
        refine q2 (o_s 37 (.binOp .sub 3 (.const (.int .i64 64)) (.tmp 36) 3) 3 (by kernel_rfl)) F (by decide) (v := .int .i64 (IntKind.i64.wrap (64 - ((s.size % 64 : Nat) : Int)))) (x_int rfl (F.slot rfl) rfl) (fun a F => ?_)
        have F := F.conv (v' := .int .i64 ((64 - s.size % 64 : Nat) : Int)) (congrArg (Value.int .i64) ((wrap_i64 _ (by omega) (by omega)).trans (by omega)))
        refine sq_make (q := (64 - s.size % 64)) (o_s 38 (.makeSlice 104 (.tmp 37) (.tmp 37)) 104 (by kernel_rfl)) trivial F (by decide) (F.slot rfl) (F.slot rfl) Tryd.underlying104 (show (Tryd.prog.info? 5).map (fun i => (i.zero, i.size, i.bytes)) = some (some (.int .u8 0), 1, 1) by kernel_rfl) rfl (by omega) (by decide) H ?_
        intro gz W a hgz H F
        rw [zeros_bs] at H
        have H : St w (fun _ => False) (fun _ => True) [Asn.blk gf (wsN 8 (beginF 0)) 113, Asn.blk gz (bsN (64 - s.size % 64) (fun _ => 0)) 5] W := H
        refine ⟨(fun _ => trivial), ?_⟩
        refine q2 (o_s 39 (.convert 104 9 (.tmp 38)) 9 (by kernel_rfl)) F (by decide) (v := .string ⟨(List.replicate (64 - s.size % 64) (0 : UInt8)).toArray⟩) (x_bytes Tryd.underlying104 Tryd.underlying5 Tryd.underlying9 (F.slot rfl) (H.blk 1 rfl) (zeros_map _)) (fun a F => ?_)
        refine q2 (o_s 40 (.binOp .add 9 (.tmp 34) (.tmp 39) 9) 9 (by kernel_rfl)) F (by decide) (v := .string (s ++ ⟨(List.replicate (64 - s.size % 64) (0 : UInt8)).toArray⟩)) (x_cat (F.slot rfl) (F.slot rfl) (by rw [zeros_size]; omega)) (fun a F => ?_)
        refine q2 (o_s 7 (.assign (.tmp 40)) 9 (by kernel_rfl)) F (by decide) (v := .string (s ++ ⟨(List.replicate (64 - s.size % 64) (0 : UInt8)).toArray⟩)) (x_assign (F.slot rfl)) (fun a F => ?_)
        unfold wpSeq
        refine t_normal ?_
        have h_hb2 := beq_eq_false_iff_ne.1 hb2
        have h_hb3 := bne_iff_ne.1 hb3
        have hP := Pad.cat (s := s) (by omega)
        exact ⟨_, F.less _ (subc rfl (subc rfl (subc rfl sub0))), H.front 1, hP.1, hP.2⟩
      · have F := F.at 33 rfl (v' := .bool false) (congrArg Value.bool hb3)
        refine c_no (c := .tmp 33) (by kernel_rfl) (F.slot rfl) ?_
        refine c_skip (by kernel_rfl) ?_
        refine t_normal ?_
        have h_hb2 := beq_eq_false_iff_ne.1 hb2
        have h_hb3 := bne_eq_false_iff_eq.1 hb3
        have hP := Pad.self (s := s) (by omega) (by omega)
        exact ⟨_, F.less _ (subc rfl (subc rfl (subc rfl sub0))), H.front 1, hP.1, hP.2⟩
  · rintro a W ⟨tx, F, H, hpad, htx⟩
    have htl := toList_size tx
    have hp64 : tx.size % 64 = 0 := by rw [← htl]; exact hpad.2.1
    refine c_seq (by kernel_rfl) ?_
    refine c_text (id := 7) (by kernel_rfl) [(0, 2), (1, 2), (2, 2), (3, 2)] (by kernel_rfl) ?_
    refine sqc (o_s 41 (.call { callee := (.value (.func 99)), args := #[], argTypes := #[] }) 128 (by kernel_rfl)) trivial F (by decide) (x_call Tryd.func99 (by kernel_rfl) rfl (args_0)) (rows2_calls W) ?_
    rintro e W ⟨gr, G, rfl, hgr, hG, hR, hB⟩
    refine ⟨_, rfl, fun a F => ?_⟩
    have H := H.freshF hB _ _ hR.foot (fun k hk => by rcases hk with hk | ⟨i, hi, hk⟩; exact hk ▸ hgr; exact hk ▸ hG i hi)
    obtain ⟨b1, hb1⟩ : ∃ b, b = W.heap.size := ⟨_, rfl⟩
    rw [← hb1] at H
    have H : St w (fun _ => False) (fun _ => True) [Asn.blk gf (wsN 8 (beginF 0)) 113, Asn.ft (RowsAt gr G 130 3) (fun k => (k = gr ∨ ∃ i, i < 10 ∧ k = G i) ∧ k < b1)] W := H
    refine ⟨(fun _ => trivial), ?_⟩
    refine sqc (o_s 42 (.call { callee := (.value (.func 100)), args := #[], argTypes := #[] }) 130 (by kernel_rfl)) trivial F (by decide) (x_call Tryd.func100 (by kernel_rfl) rfl (args_0)) (places2_calls W) ?_
    rintro e W ⟨ga, rfl, hga, hpb, hB⟩
    refine ⟨_, rfl, fun a F => ?_⟩
    have H := H.newBlk hB hga hpb
    have H : St w (fun _ => False) (fun _ => True) [Asn.blk gf (wsN 8 (beginF 0)) 113, Asn.ft (RowsAt gr G 130 3) (fun k => (k = gr ∨ ∃ i, i < 10 ∧ k = G i) ∧ k < b1), Asn.blk ga plV 3] W := H
    refine ⟨(fun _ => trivial), ?_⟩
    refine q2 (o_s 8 (.assign (.tmp 41)) 128 (by kernel_rfl)) F (by decide) (v := .slice (some ⟨gr, 0, none⟩) 10 10) (x_assign (F.slot rfl)) (fun a F => ?_)
    refine q2 (o_s 9 (.assign (.tmp 42)) 130 (by kernel_rfl)) F (by decide) (v := .slice (some ⟨ga, 0, none⟩) 32 32) (x_assign (F.slot rfl)) (fun a F => ?_)
    unfold wpSeq
    refine t_normal ?_
    refine c_seq (by kernel_rfl) ?_
    refine c_seq (by kernel_rfl) ?_
    refine c_text (id := 8) (by kernel_rfl) [(0, 2)] (by kernel_rfl) ?_
    refine q2 (o_s 10 (.assign (.const (.int .i64 0))) 3 (by kernel_rfl)) F (by decide) (v := .int .i64 0) (x_assign rfl) (fun a F => ?_)
    unfold wpSeq
    refine t_normal ?_
    refine c_block (id := 0) (by kernel_rfl) ?_
    refine c_loop (by kernel_rfl) (fun k a W => ∃ (q : Nat) (gh : Nat) (h1 : Words), Fr 99 [(6, .int .i64 (s.size : Int)), (7, .string tx), (41, .slice (some ⟨gr, 0, none⟩) 10 10), (42, .slice (some ⟨ga, 0, none⟩) 32 32), (8, .slice (some ⟨gr, 0, none⟩) 10 10), (9, .slice (some ⟨ga, 0, none⟩) 32 32), (10, .int .i64 (q : Int)), (5, .slice (some ⟨gh, 0, none⟩) 8 8)] a ∧ St w (fun _ => False) (fun _ => True) [Asn.blk gh (wsN 8 h1) 113, Asn.ft (RowsAt gr G 130 3) (fun k => (k = gr ∨ ∃ i, i < 10 ∧ k = G i) ∧ k < b1), Asn.blk ga plV 3] W ∧ (q % 64 = 0) ∧ (q + 64 * k = tx.size) ∧ (Going s.toList tx.toList q h1)) (tx.size / 64) ⟨0, gf, (beginF 0), F.less _ (subc rfl (subc rfl (subc rfl (subc rfl (subc rfl (subc rfl (subc rfl (subc rfl sub0)))))))), H, rfl, (by omega), (Going.first _ _ hpad)⟩ ?_
    rintro k a W ⟨q, gh, h1, F, H, hq64, hqk, hgo⟩
    refine c_seq (by kernel_rfl) ?_
    refine c_seq (by kernel_rfl) ?_
    refine c_text (id := 9) (by kernel_rfl) [(0, 2), (1, 2), (2, 2), (3, 2)] (by kernel_rfl) ?_
    refine q2 (o_s 43 (.move (.tmp 10)) 3 (by kernel_rfl)) F (by decide) (x_move (F.slot rfl)) (fun a F => ?_)
    refine q2 (o_s 44 (.move (.tmp 7)) 9 (by kernel_rfl)) F (by decide) (x_move (F.slot rfl)) (fun a F => ?_)
    refine q2 (o_s 45 (.call { callee := (.builtin .len), args := #[(.tmp 44)], argTypes := #[9] }) 3 (by kernel_rfl)) F (by decide) (v := .int .i64 (tx.size : Int)) (x_lenS Tryd.underlying9 (F.slot rfl)) (fun a F => ?_)
    refine q2 (o_s 46 (.binOp .lss 3 (.tmp 43) (.tmp 45) 3) 4 (by kernel_rfl)) F (by decide) (v := .bool (decide ((q : Int) < (tx.size : Int)))) (x_int (F.slot rfl) (F.slot rfl) rfl) (fun a F => ?_)
    unfold wpSeq
    have H : St w (fun _ => False) (fun _ => True) [Asn.blk gh (wsN 8 h1) 113, Asn.ft (RowsAt gr G 130 3) (fun k => (k = gr ∨ ∃ i, i < 10 ∧ k = G i) ∧ k < b1), Asn.blk ga plV 3] W := H
    refine t_normal ?_
    rcases bool_or (decide ((q : Int) < (tx.size : Int))) with hb4 | hb4
    · have hb4d := of_decide_eq_true hb4
      have F := F.at 46 rfl (v' := .bool true) (congrArg Value.bool hb4)
      refine c_yes (c := .tmp 46) (by kernel_rfl) (F.slot rfl) ?_
      refine c_skip (by kernel_rfl) ?_
      refine t_normal ?_
      refine c_seq (by kernel_rfl) ?_
      refine c_block (id := 1) (by kernel_rfl) ?_
      refine c_text (id := 11) (by kernel_rfl) [(0, 2), (1, 2), (2, 2), (3, 2), (4, 2), (5, 2), (6, 2), (7, 2), (8, 2), (9, 2), (10, 2), (11, 2), (12, 2), (13, 2), (14, 2), (15, 2), (16, 2), (17, 2), (18, 2)] (by kernel_rfl) ?_
      refine q2 (o_s 49 (.move (.tmp 5)) 126 (by kernel_rfl)) F (by decide) (x_move (F.slot rfl)) (fun a F => ?_)
      refine q2 (o_s 50 (.move (.tmp 8)) 128 (by kernel_rfl)) F (by decide) (x_move (F.slot rfl)) (fun a F => ?_)
      refine q2 (o_s 51 (.move (.tmp 9)) 130 (by kernel_rfl)) F (by decide) (x_move (F.slot rfl)) (fun a F => ?_)
      refine q2 (o_s 52 (.move (.tmp 7)) 9 (by kernel_rfl)) F (by decide) (x_move (F.slot rfl)) (fun a F => ?_)
      refine q2 (o_s 53 (.move (.tmp 10)) 3 (by kernel_rfl)) F (by decide) (x_move (F.slot rfl)) (fun a F => ?_)
      refine q2 (o_s 54 (.move (.tmp 10)) 3 (by kernel_rfl)) F (by decide) (x_move (F.slot rfl)) (fun a F => ?_)
      refine q2 (o_s 55 (.binOp .add 3 (.tmp 54) (.const (.int .i64 64)) 3) 3 (by kernel_rfl)) F (by decide) (v := .int .i64 (IntKind.i64.wrap ((q : Int) + 64))) (x_int (F.slot rfl) rfl rfl) (fun a F => ?_)
      have F := F.conv (v' := .int .i64 ((q + 64 : Nat) : Int)) (congrArg (Value.int .i64) ((wrap_i64 _ (by omega) (by omega)).trans (by omega)))
      refine q2 (o_s 56 (.slice 9 (.tmp 52) (some (.tmp 53)) (some (.tmp 55)) none) 9 (by kernel_rfl)) F (by decide) (v := .string (tx.extract q (q + 64))) ((x_sliceSS Tryd.underlying9 (F.slot rfl) (F.slot rfl) (F.slot rfl) (by omega) (by omega) (by omega)).trans (by rw [Int.toNat_natCast, Int.toNat_natCast])) (fun a F => ?_)
      refine q2 (o_s 57 (.move (.tmp 6)) 3 (by kernel_rfl)) F (by decide) (x_move (F.slot rfl)) (fun a F => ?_)
      refine q2 (o_s 58 (.move (.tmp 10)) 3 (by kernel_rfl)) F (by decide) (x_move (F.slot rfl)) (fun a F => ?_)
      refine q2 (o_s 59 (.binOp .add 3 (.tmp 58) (.const (.int .i64 64)) 3) 3 (by kernel_rfl)) F (by decide) (v := .int .i64 (IntKind.i64.wrap ((q : Int) + 64))) (x_int (F.slot rfl) rfl rfl) (fun a F => ?_)
      have F := F.conv (v' := .int .i64 ((q + 64 : Nat) : Int)) (congrArg (Value.int .i64) ((wrap_i64 _ (by omega) (by omega)).trans (by omega)))
      refine q2 (o_s 60 (.call { callee := (.builtin .min), args := #[(.tmp 57), (.tmp 59)], argTypes := #[3, 3] }) 3 (by kernel_rfl)) F (by decide) (v := .int .i64 (min (s.size : Int) ((q + 64 : Nat) : Int))) (x_min (F.slot rfl) (F.slot rfl)) (fun a F => ?_)
      refine q2 (o_s 61 (.move (.tmp 10)) 3 (by kernel_rfl)) F (by decide) (x_move (F.slot rfl)) (fun a F => ?_)
      refine q2 (o_s 62 (.binOp .add 3 (.tmp 61) (.const (.int .i64 64)) 3) 3 (by kernel_rfl)) F (by decide) (v := .int .i64 (IntKind.i64.wrap ((q : Int) + 64))) (x_int (F.slot rfl) rfl rfl) (fun a F => ?_)
      have F := F.conv (v' := .int .i64 ((q + 64 : Nat) : Int)) (congrArg (Value.int .i64) ((wrap_i64 _ (by omega) (by omega)).trans (by omega)))
      refine q2 (o_s 63 (.move (.tmp 7)) 9 (by kernel_rfl)) F (by decide) (x_move (F.slot rfl)) (fun a F => ?_)
      refine q2 (o_s 64 (.call { callee := (.builtin .len), args := #[(.tmp 63)], argTypes := #[9] }) 3 (by kernel_rfl)) F (by decide) (v := .int .i64 (tx.size : Int)) (x_lenS Tryd.underlying9 (F.slot rfl)) (fun a F => ?_)
      refine q2 (o_s 65 (.binOp .eql 3 (.tmp 62) (.tmp 64) 3) 4 (by kernel_rfl)) F (by decide) (v := .bool (((q + 64 : Nat) : Int) == (tx.size : Int))) (x_int (F.slot rfl) (F.slot rfl) rfl) (fun a F => ?_)
      have hx : (tx.extract q (q + 64)).toList = (tx.toList.drop q).take 64 := by rw [Lib.extract_toList, ← Lib.toList_data, Nat.add_sub_cancel_left]
      have HK := rblock_calls gh ga gr G h1 (tx.extract q (q + 64)) (by simp only [ByteArray.size_extract]; omega) (min (s.size : Int) ((q + 64 : Nat) : Int)) (((q + 64 : Nat) : Int) == (tx.size : Int)) W ⟨H.blk 0 rfl, H.blk 2 rfl, H.rd 1 rfl⟩
      rw [hx] at HK
      refine sqc (o_s 66 (.call { callee := (.value (.func 101)), args := #[(.tmp 49), (.tmp 50), (.tmp 51), (.tmp 56), (.tmp 60), (.tmp 65)], argTypes := #[126, 128, 130, 9, 3, 4] }) 126 (by kernel_rfl)) trivial F (by decide) (x_call Tryd.func101 (by kernel_rfl) rfl (args_6 (F.slot rfl) (F.slot rfl) (F.slot rfl) (F.slot rfl) (F.slot rfl) (F.slot rfl))) (HK) ?_
      rintro e W ⟨g2, rfl, hg2, hb2, hB⟩
      refine ⟨_, rfl, fun a F => ?_⟩
      have H := H.newBlk hB hg2 hb2
      have H : St w (fun _ => False) (fun _ => True) [Asn.blk gh (wsN 8 h1) 113, Asn.ft (RowsAt gr G 130 3) (fun k => (k = gr ∨ ∃ i, i < 10 ∧ k = G i) ∧ k < b1), Asn.blk ga plV 3, Asn.blk g2 (wsN 8 (blockF h1 ((tx.toList.drop q).take 64) (min (s.size : Int) ((q + 64 : Nat) : Int)) (((q + 64 : Nat) : Int) == (tx.size : Int)))) 113] W := H
      refine ⟨(fun _ => trivial), ?_⟩
      refine q2 (o_s 5 (.assign (.tmp 66)) 126 (by kernel_rfl)) F (by decide) (v := .slice (some ⟨g2, 0, none⟩) 8 8) (x_assign (F.slot rfl)) (fun a F => ?_)
      unfold wpSeq
      refine b_normal ?_
      refine t_normal ?_
      refine c_text (id := 10) (by kernel_rfl) [(0, 2), (1, 2), (2, 2)] (by kernel_rfl) ?_
      refine q2 (o_s 47 (.move (.tmp 10)) 3 (by kernel_rfl)) F (by decide) (x_move (F.slot rfl)) (fun a F => ?_)
      refine q2 (o_s 48 (.binOp .add 3 (.tmp 47) (.const (.int .i64 64)) 3) 3 (by kernel_rfl)) F (by decide) (v := .int .i64 (IntKind.i64.wrap ((q : Int) + 64))) (x_int (F.slot rfl) rfl rfl) (fun a F => ?_)
      refine q2 (o_s 10 (.assign (.tmp 48)) 3 (by kernel_rfl)) F (by decide) (v := .int .i64 (IntKind.i64.wrap ((q : Int) + 64))) (x_assign (F.slot rfl)) (fun a F => ?_)
      unfold wpSeq
      refine t_normal ?_
      have F_ := F
      have H : St w (fun _ => False) (fun _ => True) [Asn.blk g2 (wsN 8 (blockF h1 ((tx.toList.drop q).take 64) (min (s.size : Int) ((q + 64 : Nat) : Int)) (((q + 64 : Nat) : Int) == (tx.size : Int)))) 113, Asn.ft (RowsAt gr G 130 3) (fun k => (k = gr ∨ ∃ i, i < 10 ∧ k = G i) ∧ k < b1), Asn.blk ga plV 3] W := H.perm [3, 1, 2] rfl (by decide)
      have F := F.at 10 rfl (v' := .int .i64 ((q + 64 : Nat) : Int)) (congrArg (Value.int .i64) ((wrap_i64 _ (by omega) (by omega)).trans (by omega)))
      exact ⟨k - 1, by omega, q + 64, g2, _, F.less _ (subc rfl (subc rfl (subc rfl (subc rfl (subc rfl (subc rfl (subc rfl (subc rfl sub0)))))))), H, (by omega), (by omega), (Going.step hpad hgo (by rw [htl]; omega) hq64 (end_eq q tx) (by rw [toList_size]))⟩
    · have hb4d := of_decide_eq_false hb4
      have F := F.at 46 rfl (v' := .bool false) (congrArg Value.bool hb4)
      refine c_no (c := .tmp 46) (by kernel_rfl) (F.slot rfl) ?_
      refine c_exit (id := 0) (by kernel_rfl) ?_
      refine t_exit ?_
      refine t_exit ?_
      refine b_here ?_
      refine t_normal ?_
      refine c_seq (by kernel_rfl) ?_
      have hqe : q = tx.toList.length := by rw [htl]; omega
      rw [hqe] at hgo
      have hz1 := hgo.last
      refine c_text (id := 12) (by kernel_rfl) [(0, 2)] (by kernel_rfl) ?_
      refine q2 (o_s 11 (.assign (.const (.slice none 0 0))) 104 (by kernel_rfl)) F (by decide) (v := .slice none 0 0) (x_assign rfl) (fun a F => ?_)
      unfold wpSeq
      refine t_normal ?_
      refine c_seq (by kernel_rfl) ?_
      refine c_seq (by kernel_rfl) ?_
      have H := H.quNil kB 5
      have H : St w (fun _ => False) (fun _ => True) [Asn.blk gh (wsN 8 h1) 113, Asn.ft (RowsAt gr G 130 3) (fun k => (k = gr ∨ ∃ i, i < 10 ∧ k = G i) ∧ k < b1), Asn.blk ga plV 3, Asn.qu kB 5 (.slice none 0 0) ([] : List UInt8) (fun _ => False)] W := H
      refine c_text (id := 13) (by kernel_rfl) [(0, 2)] (by kernel_rfl) ?_
      refine q2 (o_s 12 (.assign (.const (.int .i64 0))) 3 (by kernel_rfl)) F (by decide) (v := .int .i64 0) (x_assign rfl) (fun a F => ?_)
      unfold wpSeq
      refine t_normal ?_
      refine c_block (id := 2) (by kernel_rfl) ?_
      refine c_loop (by kernel_rfl) (fun k a W => ∃ (j : Nat) (B1 : Option Addr) (d1 : Nat), Fr 99 [(6, .int .i64 (s.size : Int)), (7, .string tx), (41, .slice (some ⟨gr, 0, none⟩) 10 10), (42, .slice (some ⟨ga, 0, none⟩) 32 32), (8, .slice (some ⟨gr, 0, none⟩) 10 10), (9, .slice (some ⟨ga, 0, none⟩) 32 32), (10, .int .i64 (q : Int)), (5, .slice (some ⟨gh, 0, none⟩) 8 8), (43, .int .i64 (q : Int)), (44, .string tx), (45, .int .i64 (tx.size : Int)), (46, .bool false), (12, .int .i64 (j : Int)), (11, .slice B1 ((outB h1 j).length) d1)] a ∧ St w (fun _ => False) (fun _ => True) [Asn.blk gh (wsN 8 h1) 113, Asn.ft (RowsAt gr G 130 3) (fun k => (k = gr ∨ ∃ i, i < 10 ∧ k = G i) ∧ k < b1), Asn.blk ga plV 3, Asn.qu kB 5 (.slice B1 ((outB h1 j).length) d1) (outB h1 j) (fun _ => False)] W ∧ (j ≤ 8) ∧ (k + j = 8)) 8 ⟨0, none, 0, F.less _ (subc rfl (subc rfl (subc rfl (subc rfl (subc rfl (subc rfl (subc rfl (subc rfl (subc rfl (subc rfl (subc rfl (subc rfl (subc rfl (subc rfl sub0)))))))))))))), H, (by decide), rfl⟩ ?_
      rintro k a W ⟨j, B1, d1, F, H, hj, hkj⟩
      refine c_seq (by kernel_rfl) ?_
      refine c_seq (by kernel_rfl) ?_
      refine c_text (id := 14) (by kernel_rfl) [(0, 2), (1, 2)] (by kernel_rfl) ?_
      refine q2 (o_s 67 (.move (.tmp 12)) 3 (by kernel_rfl)) F (by decide) (x_move (F.slot rfl)) (fun a F => ?_)
      refine q2 (o_s 68 (.binOp .lss 3 (.tmp 67) (.const (.int .i64 8)) 3) 4 (by kernel_rfl)) F (by decide) (v := .bool (decide ((j : Int) < (8 : Int)))) (x_int (F.slot rfl) rfl rfl) (fun a F => ?_)
      unfold wpSeq
      have H : St w (fun _ => False) (fun _ => True) [Asn.blk gh (wsN 8 h1) 113, Asn.ft (RowsAt gr G 130 3) (fun k => (k = gr ∨ ∃ i, i < 10 ∧ k = G i) ∧ k < b1), Asn.blk ga plV 3, Asn.qu kB 5 (.slice B1 ((outB h1 j).length) d1) (outB h1 j) (fun _ => False)] W := H
      refine t_normal ?_
      rcases bool_or (decide ((j : Int) < (8 : Int))) with hb5 | hb5
      · have hb5d := of_decide_eq_true hb5
        have F := F.at 68 rfl (v' := .bool true) (congrArg Value.bool hb5)
        refine c_yes (c := .tmp 68) (by kernel_rfl) (F.slot rfl) ?_
        refine c_skip (by kernel_rfl) ?_
        refine t_normal ?_
        refine c_seq (by kernel_rfl) ?_
        refine c_block (id := 3) (by kernel_rfl) ?_
        refine c_drawn (id := 16) (by kernel_rfl) (by kernel_rfl) (Vs [Asn.blk gh (wsN 8 h1) 113]) [0, 0, 0, 6, 14, 30, 0, 0, 192, 448, 960, 1984, 0, 0, 12288, 28672, 61440, 126976, 0, 0, 786432, 1835008, 3932160, 8126464, 16777214, 33554431, 67108863] [] [(0, 0), (1, 0), (2, 0), (3, 0), (6, 0), (7, 0), (8, 0), (12, 0), (13, 0), (14, 0), (18, 0), (19, 0), (20, 0), (4, 1), (5, 0), (9, 1), (10, 0), (11, 0), (15, 1), (16, 0), (17, 0), (21, 1), (22, 0), (23, 0), (24, 2), (25, 2), (26, 0)] (by kernel_rfl) (fun _ _ d _ _ h => by cases d <;> exact h) (Vs.drew ⟨H.get 0 rfl, trivial⟩) ?_
        have H := H.drew
        generalize World.drew W = W at H ⊢
        refine q0 (o_s 71 (.move (.tmp 11)) 104 (by kernel_rfl)) F (by decide) (fun W_ => x_move (F.slot rfl)) (fun a F => ?_)
        refine q0 (o_s 72 (.move (.tmp 5)) 126 (by kernel_rfl)) F (by decide) (fun W_ => x_move (F.slot rfl)) (fun a F => ?_)
        refine q0 (o_s 73 (.move (.tmp 12)) 3 (by kernel_rfl)) F (by decide) (fun W_ => x_move (F.slot rfl)) (fun a F => ?_)
        refine q0 (o_s 74 (.indexAddr 126 (.tmp 72) (.tmp 73)) 0 (by kernel_rfl)) F (by decide) (v := .pointer (some ⟨gh, j, none⟩)) (fun W_ => x_ix0 (i := j) Tryd.underlying126 (Tryd.sizeOf113 W_) (F.slot rfl) (F.slot rfl) rfl (by omega)) (fun a F => ?_)
        refine q0 (o_s 77 (.move (.tmp 5)) 126 (by kernel_rfl)) F (by decide) (fun W_ => x_move (F.slot rfl)) (fun a F => ?_)
        refine q0 (o_s 78 (.move (.tmp 12)) 3 (by kernel_rfl)) F (by decide) (fun W_ => x_move (F.slot rfl)) (fun a F => ?_)
        refine q0 (o_s 79 (.indexAddr 126 (.tmp 77) (.tmp 78)) 0 (by kernel_rfl)) F (by decide) (v := .pointer (some ⟨gh, j, none⟩)) (fun W_ => x_ix0 (i := j) Tryd.underlying126 (Tryd.sizeOf113 W_) (F.slot rfl) (F.slot rfl) rfl (by omega)) (fun a F => ?_)
        refine q0 (o_s 83 (.move (.tmp 5)) 126 (by kernel_rfl)) F (by decide) (fun W_ => x_move (F.slot rfl)) (fun a F => ?_)
        refine q0 (o_s 84 (.move (.tmp 12)) 3 (by kernel_rfl)) F (by decide) (fun W_ => x_move (F.slot rfl)) (fun a F => ?_)
        refine q0 (o_s 85 (.indexAddr 126 (.tmp 83) (.tmp 84)) 0 (by kernel_rfl)) F (by decide) (v := .pointer (some ⟨gh, j, none⟩)) (fun W_ => x_ix0 (i := j) Tryd.underlying126 (Tryd.sizeOf113 W_) (F.slot rfl) (F.slot rfl) rfl (by omega)) (fun a F => ?_)
        refine q0 (o_s 89 (.move (.tmp 5)) 126 (by kernel_rfl)) F (by decide) (fun W_ => x_move (F.slot rfl)) (fun a F => ?_)
        refine q0 (o_s 90 (.move (.tmp 12)) 3 (by kernel_rfl)) F (by decide) (fun W_ => x_move (F.slot rfl)) (fun a F => ?_)
        refine q0 (o_s 91 (.indexAddr 126 (.tmp 89) (.tmp 90)) 0 (by kernel_rfl)) F (by decide) (v := .pointer (some ⟨gh, j, none⟩)) (fun W_ => x_ix0 (i := j) Tryd.underlying126 (Tryd.sizeOf113 W_) (F.slot rfl) (F.slot rfl) rfl (by omega)) (fun a F => ?_)
        refine q1 (o_s 75 (.load 113 (.tmp 74)) 113 (by kernel_rfl)) F (by decide) (⟨H.get 0 rfl, trivial⟩) (v := u (h1 j)) (fun W_ hV => x_load1 (Tryd.isAgg113 W_) (F.slot rfl) (bcell hV.1 (ws_at h1 (by omega)))) (fun a F => ?_)
        refine q0 (o_s 76 (.convert 113 5 (.tmp 75)) 5 (by kernel_rfl)) F (by decide) (v := .int .u8 ((UInt8.ofNat (h1 j).toNat).toNat : Int)) (fun W_ => x_toU8 Tryd.underlying113 Tryd.underlying5 (F.slot rfl)) (fun a F => ?_)
        refine q1 (o_s 80 (.load 113 (.tmp 79)) 113 (by kernel_rfl)) F (by decide) (⟨H.get 0 rfl, trivial⟩) (v := u (h1 j)) (fun W_ hV => x_load1 (Tryd.isAgg113 W_) (F.slot rfl) (bcell hV.1 (ws_at h1 (by omega)))) (fun a F => ?_)
        refine q0 (o_s 81 (.binOp .quo 113 (.tmp 80) (.const (.int .u32 256)) 113) 113 (by kernel_rfl)) F (by decide) (v := u (h1 j >>> 8)) (fun W_ => x_quo32 (p := h1 j) (c := 256#32) 8 (by decide) (F.slot rfl) rfl) (fun a F => ?_)
        refine q0 (o_s 82 (.convert 113 5 (.tmp 81)) 5 (by kernel_rfl)) F (by decide) (v := .int .u8 ((UInt8.ofNat (h1 j >>> 8).toNat).toNat : Int)) (fun W_ => x_toU8 Tryd.underlying113 Tryd.underlying5 (F.slot rfl)) (fun a F => ?_)
        refine q1 (o_s 86 (.load 113 (.tmp 85)) 113 (by kernel_rfl)) F (by decide) (⟨H.get 0 rfl, trivial⟩) (v := u (h1 j)) (fun W_ hV => x_load1 (Tryd.isAgg113 W_) (F.slot rfl) (bcell hV.1 (ws_at h1 (by omega)))) (fun a F => ?_)
        refine q0 (o_s 87 (.binOp .quo 113 (.tmp 86) (.const (.int .u32 65536)) 113) 113 (by kernel_rfl)) F (by decide) (v := u (h1 j >>> 16)) (fun W_ => x_quo32 (p := h1 j) (c := 65536#32) 16 (by decide) (F.slot rfl) rfl) (fun a F => ?_)
        refine q0 (o_s 88 (.convert 113 5 (.tmp 87)) 5 (by kernel_rfl)) F (by decide) (v := .int .u8 ((UInt8.ofNat (h1 j >>> 16).toNat).toNat : Int)) (fun W_ => x_toU8 Tryd.underlying113 Tryd.underlying5 (F.slot rfl)) (fun a F => ?_)
        refine q1 (o_s 92 (.load 113 (.tmp 91)) 113 (by kernel_rfl)) F (by decide) (⟨H.get 0 rfl, trivial⟩) (v := u (h1 j)) (fun W_ hV => x_load1 (Tryd.isAgg113 W_) (F.slot rfl) (bcell hV.1 (ws_at h1 (by omega)))) (fun a F => ?_)
        refine q0 (o_s 93 (.binOp .quo 113 (.tmp 92) (.const (.int .u32 16777216)) 113) 113 (by kernel_rfl)) F (by decide) (v := u (h1 j >>> 24)) (fun W_ => x_quo32 (p := h1 j) (c := 16777216#32) 24 (by decide) (F.slot rfl) rfl) (fun a F => ?_)
        refine q0 (o_s 94 (.convert 113 5 (.tmp 93)) 5 (by kernel_rfl)) F (by decide) (v := .int .u8 ((UInt8.ofNat (h1 j >>> 24).toNat).toNat : Int)) (fun W_ => x_toU8 Tryd.underlying113 Tryd.underlying5 (F.slot rfl)) (fun a F => ?_)
        refine sq_lit [.int .u8 ((UInt8.ofNat (h1 j).toNat).toNat : Int), .int .u8 ((UInt8.ofNat (h1 j >>> 8).toNat).toNat : Int), .int .u8 ((UInt8.ofNat (h1 j >>> 16).toNat).toNat : Int), .int .u8 ((UInt8.ofNat (h1 j >>> 24).toNat).toNat : Int)] (o_s 95 (.buildSlice 104 4 #[(0, (.tmp 76)), (1, (.tmp 82)), (2, (.tmp 88)), (3, (.tmp 94))]) 104 (by kernel_rfl)) trivial F (by decide) rfl Tryd.underlying104 (show (Tryd.prog.info? 5).map (fun i => (i.zero, i.size, i.bytes)) = some (some (.int .u8 0), 1, 1) by kernel_rfl) rfl (by simp [Value.cells]) (by simp) (by simp) (by simp [Act.eval, F.ev 76 _ rfl, F.ev 82 _ rfl, F.ev 88 _ rfl, F.ev 94 _ rfl]) H ?_
        intro g7 W a hg7 H F
        refine ⟨(fun _ => ⟨H.get 0 rfl, trivial⟩), ?_⟩
        have H := H.blkRd 4 (byteL (h1 j)) rfl (by simp [byteL])
        have H : St w (fun _ => False) (fun _ => True) [Asn.blk gh (wsN 8 h1) 113, Asn.ft (RowsAt gr G 130 3) (fun k => (k = gr ∨ ∃ i, i < 10 ∧ k = G i) ∧ k < b1), Asn.blk ga plV 3, Asn.qu kB 5 (.slice B1 ((outB h1 j).length) d1) (outB h1 j) (fun _ => False), Asn.rd kB (fun j => j = g7) (some ⟨g7, 0, none⟩) 4 (byteL (h1 j))] W := H
        refine sq_rapp kB 3 4 (by decide) (o_s 96 (.call { callee := (.builtin .append), args := #[(.tmp 71), (.tmp 95)], argTypes := #[104, 104] }) 104 (by kernel_rfl)) trivial F (by decide) (F.slot rfl) (F.slot rfl) (rfl) Tryd.underlying104 (show (Tryd.prog.info? 5).map (fun i => (i.zero, i.size, i.bytes)) = some (some (.int .u8 0), 1, 1) by kernel_rfl) rfl (by decide) (by decide) H rfl rfl (by have := outB_len h1 j; have : (byteL (h1 j)).length = 4 := rfl; omega) ?_
        intro v_ W a H F
        have H := H.quFlat 3 kB_flat rfl
        obtain ⟨A16_25, c16_25, rfl, hc16_25⟩ := (H.qu 3 rfl).form
        have H : St w (fun _ => False) (fun _ => True) [Asn.blk gh (wsN 8 h1) 113, Asn.ft (RowsAt gr G 130 3) (fun k => (k = gr ∨ ∃ i, i < 10 ∧ k = G i) ∧ k < b1), Asn.blk ga plV 3, Asn.qu kB 5 (.slice A16_25 ((((outB h1 j) ++ (byteL (h1 j)))).length) c16_25) ((outB h1 j) ++ (byteL (h1 j))) (fun _ => False), Asn.rd kB (fun j => j = g7) (some ⟨g7, 0, none⟩) 4 (byteL (h1 j))] W := H
        refine ⟨(fun _ => ⟨H.get 0 rfl, trivial⟩), ?_⟩
        refine q0 (o_s 11 (.assign (.tmp 96)) 104 (by kernel_rfl)) F (by decide) (v := .slice A16_25 ((((outB h1 j) ++ (byteL (h1 j)))).length) c16_25) (fun W_ => x_assign (F.slot rfl)) (fun a F => ?_)
        unfold wpSeq
        have F := F.less [(6, .int .i64 (s.size : Int)), (7, .string tx), (41, .slice (some ⟨gr, 0, none⟩) 10 10), (42, .slice (some ⟨ga, 0, none⟩) 32 32), (8, .slice (some ⟨gr, 0, none⟩) 10 10), (9, .slice (some ⟨ga, 0, none⟩) 32 32), (10, .int .i64 (q : Int)), (5, .slice (some ⟨gh, 0, none⟩) 8 8), (43, .int .i64 (q : Int)), (44, .string tx), (45, .int .i64 (tx.size : Int)), (46, .bool false), (12, .int .i64 (j : Int)), (11, .slice A16_25 ((((outB h1 j) ++ (byteL (h1 j)))).length) c16_25), (67, .int .i64 (j : Int)), (68, .bool true)] (subc rfl (subc rfl (subc rfl (subc rfl (subc rfl (subc rfl (subc rfl (subc rfl (subc rfl (subc rfl (subc rfl (subc rfl (subc rfl (subc rfl (subc rfl (subc rfl sub0))))))))))))))))
        refine b_normal ?_
        refine t_normal ?_
        refine c_text (id := 15) (by kernel_rfl) [(0, 2), (1, 2), (2, 2)] (by kernel_rfl) ?_
        refine q2 (o_s 69 (.move (.tmp 12)) 3 (by kernel_rfl)) F (by decide) (x_move (F.slot rfl)) (fun a F => ?_)
        refine q2 (o_s 70 (.binOp .add 3 (.tmp 69) (.const (.int .i64 1)) 3) 3 (by kernel_rfl)) F (by decide) (v := .int .i64 (IntKind.i64.wrap ((j : Int) + 1))) (x_int (F.slot rfl) rfl rfl) (fun a F => ?_)
        refine q2 (o_s 12 (.assign (.tmp 70)) 3 (by kernel_rfl)) F (by decide) (v := .int .i64 (IntKind.i64.wrap ((j : Int) + 1))) (x_assign (F.slot rfl)) (fun a F => ?_)
        unfold wpSeq
        refine t_normal ?_
        have F_ := F
        rw [outB_succ] at H F
        have H := H.front 4
        have F := F.at 12 rfl (v' := .int .i64 ((j + 1 : Nat) : Int)) (congrArg (Value.int .i64) ((wrap_i64 _ (by omega) (by omega)).trans (by omega)))
        exact ⟨k - 1, by omega, j + 1, _, _, F.less _ (subc rfl (subc rfl (subc rfl (subc rfl (subc rfl (subc rfl (subc rfl (subc rfl (subc rfl (subc rfl (subc rfl (subc rfl (subc rfl (subc rfl sub0)))))))))))))), H, (by omega), (by omega)⟩
      · have hb5d := of_decide_eq_false hb5
        have F := F.at 68 rfl (v' := .bool false) (congrArg Value.bool hb5)
        refine c_no (c := .tmp 68) (by kernel_rfl) (F.slot rfl) ?_
        refine c_exit (id := 2) (by kernel_rfl) ?_
        refine t_exit ?_
        refine t_exit ?_
        refine b_here ?_
        refine t_normal ?_
        refine c_seq (by kernel_rfl) ?_
        refine c_text (id := 17) (by kernel_rfl) [(0, 2), (1, 2), (2, 2)] (by kernel_rfl) ?_
        refine q2 (o_s 97 (.move (.tmp 11)) 104 (by kernel_rfl)) F (by decide) (x_move (F.slot rfl)) (fun a F => ?_)
        obtain rfl : j = 8 := by omega
        refine q2 (o_s 98 (.convert 104 9 (.tmp 97)) 9 (by kernel_rfl)) F (by decide) (v := .string ⟨(outB h1 8).toArray⟩) (x_strQ Tryd.underlying104 Tryd.underlying5 Tryd.underlying9 (F.slot rfl) (H.qu 3 rfl) (by rw [outB_len]; decide)) (fun a F => ?_)
        refine q2 (o_s 4 (.assign (.tmp 98)) 9 (by kernel_rfl)) F (by decide) (v := .string ⟨(outB h1 8).toArray⟩) (x_assign (F.slot rfl)) (fun a F => ?_)
        unfold wpSeq
        have H : St w (fun _ => False) (fun _ => True) [Asn.blk gh (wsN 8 h1) 113, Asn.ft (RowsAt gr G 130 3) (fun k => (k = gr ∨ ∃ i, i < 10 ∧ k = G i) ∧ k < b1), Asn.blk ga plV 3, Asn.qu kB 5 (.slice B1 ((outB h1 8).length) d1) (outB h1 8) (fun _ => False)] W := H
        refine t_normal ?_
        refine c_ret (by kernel_rfl) ?_
        refine p_tmp Tryd.results88 F rfl ?_
        have e_ : outB h1 8 = sumF s.toList := by rw [hz1]; rfl
        exact ⟨by rw [e_], H.ends⟩
theorem rsum_calls (s : ByteArray) (hs : s.size < 4611686018427387904) (w : World) : Calls Tryd.prog 67 #[.string s] w fun e W => e = .returned (.string ⟨(sumF s.toList).toArray⟩) ∧ Below w.heap.size w W := by
  refine c_enter2 (args := [.string s]) (S := (fun _ => False)) (R := (fun _ => True)) (M := []) Tryd.func67 (by kernel_rfl) 5 Tryd.ntmps67 (Nat.le_of_ble_eq_true rfl) (St.first w (fun _ => False) (fun _ => True)) (fun a W F H => ?_)
  have F := F.less [(0, .string s)] (subc rfl sub0)
  refine c_seq (by kernel_rfl) ?_
  refine c_text (id := 0) (by kernel_rfl) [(0, 2)] (by kernel_rfl) ?_
  refine q2 (o_s 2 (.assign (.const (.string { data := #[] }))) 9 (by kernel_rfl)) F (by decide) (v := .string ⟨#[]⟩) (x_assign rfl) (fun a F => ?_)
  unfold wpSeq
  have H : St w (fun _ => False) (fun _ => True) [] W := H
  refine t_normal ?_
  refine c_seq (by kernel_rfl) ?_
  refine c_text (id := 1) (by kernel_rfl) [(0, 2), (1, 2), (2, 2)] (by kernel_rfl) ?_
  refine q2 (o_s 3 (.move (.tmp 0)) 9 (by kernel_rfl)) F (by decide) (x_move (F.slot rfl)) (fun a F => ?_)
  refine sqc (o_s 4 (.call { callee := (.value (.func 88)), args := #[(.tmp 3), (.const (.int .i64 0))], argTypes := #[9, 3] }) 9 (by kernel_rfl)) trivial F (by decide) (x_call Tryd.func88 (by kernel_rfl) rfl (args_2 (F.slot rfl) rfl)) (rdigest_calls s hs W) ?_
  rintro e W ⟨rfl, hB⟩
  refine ⟨_, rfl, fun a F => ?_⟩
  have H := H.below hB
  refine ⟨(fun _ => trivial), ?_⟩
  refine q2 (o_s 2 (.assign (.tmp 4)) 9 (by kernel_rfl)) F (by decide) (v := .string ⟨(sumF s.toList).toArray⟩) (x_assign (F.slot rfl)) (fun a F => ?_)
  unfold wpSeq
  refine t_normal ?_
  refine c_ret (by kernel_rfl) ?_
  refine p_tmp Tryd.results67 F rfl ?_
  exact ⟨rfl, H.ends⟩
end Go.Proofs.YtndicjikjcifaaaDoor

/- The regions of mix.columns and mix.diagonals, by kind. -/
namespace Go.Proofs.YtndicjikjcifaaaDoor
open Go.RowKit Go.Proofs.YtndicjikjcifaaaDoorW.PrintWords Go.Proofs.YtndicjikjcifaaaDoorW.PrintLast
set_option linter.unusedVariables false
set_option linter.unusedSimpArgs false
set_option maxRecDepth 100000
open Bl
theorem k1 (t k : Nat) : (t == t + (k + 1)) = false := beq_false_of_ne (by omega)
theorem k2 (t k : Nat) : (t + (k + 1) == t) = false := beq_false_of_ne (by omega)
theorem hi_of {ops : Array Oper} {l : List (Option Tmp × Op × TypeId × Option (Nat × Bool))} (h : ops.toList.map sk = l) (i : Nat) {x : Option Tmp × Op × TypeId × Option (Nat × Bool)} (hx : l[i]? = some x) : (ops[i]?).map sk = some x := by
  subst h
  simpa using hx
def opsA (t : Nat) (p q c : Nat) : List (Option Tmp × Op × TypeId × Option (Nat × Bool)) := [(some (t + 3), .move (.tmp 0), 158, none), (some (t + 4), .nilCheck (.tmp (t + 3)), 0, none), (some (t + 5), .indexAddr 154 (.tmp (t + 4)) (.const (.int .i64 (p : Int))), 0, none), (some (t + 6), .load 113 (.tmp (t + 5)), 113, none), (some (t + 7), .move (.tmp 0), 158, none), (some (t + 8), .nilCheck (.tmp (t + 7)), 0, none), (some (t + 9), .indexAddr 154 (.tmp (t + 8)) (.const (.int .i64 (q : Int))), 0, none), (some (t + 10), .load 113 (.tmp (t + 9)), 113, none), (some (t + 11), .move (.tmp 1), 158, none), (some (t + 12), .move (.tmp 2), 159, none), (some (t + 13), .nilCheck (.tmp (t + 12)), 0, none), (some (t + 14), .indexAddr 155 (.tmp (t + 13)) (.const (.int .i64 (c : Int))), 0, none), (some (t + 15), .load 3 (.tmp (t + 14)), 3, none), (some (t + 16), .nilCheck (.tmp (t + 11)), 0, none), (some (t + 17), .indexAddr 154 (.tmp (t + 16)) (.tmp (t + 15)), 0, none), (some (t + 18), .load 113 (.tmp (t + 17)), 113, none), (some (t + 19), .binOp .add 113 (.tmp (t + 10)) (.tmp (t + 18)) 113, 113, none), (some (t + 20), .binOp .add 113 (.tmp (t + 6)) (.tmp (t + 19)) 113, 113, none), (some (t + 21), .nilCheck (.tmp (t + 3)), 0, none), (some (t + 22), .indexAddr 154 (.tmp (t + 21)) (.const (.int .i64 (p : Int))), 0, none), (none, .store 113 (.tmp (t + 22)) (.tmp (t + 20)), 0, none)]
def opsB (t : Nat) (p q : Nat) (s : Int) : List (Option Tmp × Op × TypeId × Option (Nat × Bool)) := [(some (t + 3), .move (.tmp 0), 158, none), (some (t + 4), .move (.tmp 0), 158, none), (some (t + 5), .nilCheck (.tmp (t + 4)), 0, none), (some (t + 6), .indexAddr 154 (.tmp (t + 5)) (.const (.int .i64 (p : Int))), 0, none), (some (t + 7), .load 113 (.tmp (t + 6)), 113, none), (some (t + 8), .move (.tmp 0), 158, none), (some (t + 9), .nilCheck (.tmp (t + 8)), 0, none), (some (t + 10), .indexAddr 154 (.tmp (t + 9)) (.const (.int .i64 (q : Int))), 0, none), (some (t + 11), .load 113 (.tmp (t + 10)), 113, none), (some (t + 12), .binOp .xor 113 (.tmp (t + 7)) (.tmp (t + 11)) 113, 113, none), (some (t + 13), .call { callee := .value (.func 139), args := #[.tmp (t + 12), .const (.int .i64 s)], argTypes := #[113, 3] }, 113, none), (some (t + 14), .nilCheck (.tmp (t + 3)), 0, none), (some (t + 15), .indexAddr 154 (.tmp (t + 14)) (.const (.int .i64 (p : Int))), 0, none), (none, .store 113 (.tmp (t + 15)) (.tmp (t + 13)), 0, none)]
def opsC (t : Nat) (p q : Nat) : List (Option Tmp × Op × TypeId × Option (Nat × Bool)) := [(some (t + 3), .move (.tmp 0), 158, none), (some (t + 4), .nilCheck (.tmp (t + 3)), 0, none), (some (t + 5), .indexAddr 154 (.tmp (t + 4)) (.const (.int .i64 (p : Int))), 0, none), (some (t + 6), .load 113 (.tmp (t + 5)), 113, none), (some (t + 7), .move (.tmp 0), 158, none), (some (t + 8), .nilCheck (.tmp (t + 7)), 0, none), (some (t + 9), .indexAddr 154 (.tmp (t + 8)) (.const (.int .i64 (q : Int))), 0, none), (some (t + 10), .load 113 (.tmp (t + 9)), 113, none), (some (t + 11), .binOp .add 113 (.tmp (t + 6)) (.tmp (t + 10)) 113, 113, none), (some (t + 12), .nilCheck (.tmp (t + 3)), 0, none), (some (t + 13), .indexAddr 154 (.tmp (t + 12)) (.const (.int .i64 (p : Int))), 0, none), (none, .store 113 (.tmp (t + 13)) (.tmp (t + 11)), 0, none)]
set_option maxHeartbeats 2000000 in
theorem regA {b : Code} {pt : List Nat} {id : Nat} {Q : Exit → Act → World → Prop} {w W : World} {Sf Rf : Nat → Prop} {a : Act} {g m k : Nat} {V m0 : Words} {r : Nat → Nat} (hr : ∀ i, r i < 16) (t : Nat) (p q c : Nat) (hn : t + 22 < 462) (hp : p < 16) (hq : q < 16) (hc : c < 16)
    (hk : ck (cd b pt) = .region id true) (hops : (rops (cd b pt)).toList.map sk = opsA t p q c) (hs : seqOk (rops (cd b pt)) [0, 1, 3, 7, 0, 16, 48, 112, 0, 0, 512, 1536, 3584, 256, 16128, 32512, 65520, 131071, 1, 524287, 1048575] [20] [(0, 0), (1, 0), (2, 0), (4, 0), (5, 0), (6, 0), (8, 0), (9, 0), (10, 0), (11, 0), (13, 0), (18, 0), (3, 1), (7, 1), (12, 1), (14, 0), (15, 1), (16, 0), (17, 0), (19, 0), (20, 2)] = true) (hQ : ∀ c a d v w, Q (.panic c) (Act.put a d v) w → Q (.panic c) a w)
    (F : Fr 462 [(0, .pointer (some ⟨g, 0, none⟩)), (1, .pointer (some ⟨m, 0, none⟩)), (2, .pointer (some ⟨k, 0, none⟩))] a) (H : St w Sf Rf [Asn.blk g (wsN 16 V) 154, Asn.blk m (wsN 16 m0) 154, Asn.blk k (rs r) 155] W) (h : ∀ a W, Fr 462 [(0, .pointer (some ⟨g, 0, none⟩)), (1, .pointer (some ⟨m, 0, none⟩)), (2, .pointer (some ⟨k, 0, none⟩))] a → St w Sf Rf [Asn.blk g (wsN 16 (upd V p (V p + (V q + m0 (r c))))) 154, Asn.blk m (wsN 16 m0) 154, Asn.blk k (rs r) 155] W → Q .normal a W) : (cd b pt).wp Tryd.prog Q a W := by
  refine c_drawn hk (by kernel_rfl) (Vs [Asn.blk g (wsN 16 V) 154, Asn.blk m (wsN 16 m0) 154, Asn.blk k (rs r) 155]) [0, 1, 3, 7, 0, 16, 48, 112, 0, 0, 512, 1536, 3584, 256, 16128, 32512, 65520, 131071, 1, 524287, 1048575] [20] [(0, 0), (1, 0), (2, 0), (4, 0), (5, 0), (6, 0), (8, 0), (9, 0), (10, 0), (11, 0), (13, 0), (18, 0), (3, 1), (7, 1), (12, 1), (14, 0), (15, 1), (16, 0), (17, 0), (19, 0), (20, 2)] hs hQ (Vs.drew ⟨H.get 0 rfl, H.get 1 rfl, H.get 2 rfl, trivial⟩) ?_
  have H := H.drew
  generalize World.drew W = W at H ⊢
  refine q0 (hi_of hops 0 rfl) F (by omega) (v := .pointer (some ⟨g, 0, none⟩)) (fun W_ => x_move (F.slot (by simp [List.lookup, k1, k2]))) (fun a F => ?_)
  refine q0 (hi_of hops 1 rfl) F (by omega) (v := .pointer (some ⟨g, 0, none⟩)) (fun W_ => x_nil (F.slot (by simp [List.lookup, k1, k2]))) (fun a F => ?_)
  refine q0 (hi_of hops 2 rfl) F (by omega) (v := .pointer (some ⟨g, p, none⟩)) (fun W_ => x_ixc Tryd.underlying154 (Tryd.sizeOf113 W_) (F.slot (by simp [List.lookup, k1, k2])) rfl hp) (fun a F => ?_)
  refine q0 (hi_of hops 4 rfl) F (by omega) (v := .pointer (some ⟨g, 0, none⟩)) (fun W_ => x_move (F.slot (by simp [List.lookup, k1, k2]))) (fun a F => ?_)
  refine q0 (hi_of hops 5 rfl) F (by omega) (v := .pointer (some ⟨g, 0, none⟩)) (fun W_ => x_nil (F.slot (by simp [List.lookup, k1, k2]))) (fun a F => ?_)
  refine q0 (hi_of hops 6 rfl) F (by omega) (v := .pointer (some ⟨g, q, none⟩)) (fun W_ => x_ixc Tryd.underlying154 (Tryd.sizeOf113 W_) (F.slot (by simp [List.lookup, k1, k2])) rfl hq) (fun a F => ?_)
  refine q0 (hi_of hops 8 rfl) F (by omega) (v := .pointer (some ⟨m, 0, none⟩)) (fun W_ => x_move (F.slot (by simp [List.lookup, k1, k2]))) (fun a F => ?_)
  refine q0 (hi_of hops 9 rfl) F (by omega) (v := .pointer (some ⟨k, 0, none⟩)) (fun W_ => x_move (F.slot (by simp [List.lookup, k1, k2]))) (fun a F => ?_)
  refine q0 (hi_of hops 10 rfl) F (by omega) (v := .pointer (some ⟨k, 0, none⟩)) (fun W_ => x_nil (F.slot (by simp [List.lookup, k1, k2]))) (fun a F => ?_)
  refine q0 (hi_of hops 11 rfl) F (by omega) (v := .pointer (some ⟨k, c, none⟩)) (fun W_ => x_ixc Tryd.underlying155 (Tryd.sizeOf3 W_) (F.slot (by simp [List.lookup, k1, k2])) rfl hc) (fun a F => ?_)
  refine q0 (hi_of hops 13 rfl) F (by omega) (v := .pointer (some ⟨m, 0, none⟩)) (fun W_ => x_nil (F.slot (by simp [List.lookup, k1, k2]))) (fun a F => ?_)
  refine q0 (hi_of hops 18 rfl) F (by omega) (v := .pointer (some ⟨g, 0, none⟩)) (fun W_ => x_nil (F.slot (by simp [List.lookup, k1, k2]))) (fun a F => ?_)
  refine q1 (hi_of hops 3 rfl) F (by omega) ⟨H.get 0 rfl, H.get 1 rfl, H.get 2 rfl, trivial⟩ (v := u (V p)) (fun W_ hV => x_load1 (Tryd.isAgg113 W_) (F.slot (by simp [List.lookup, k1, k2])) (bcell hV.1 (ws_at V hp))) (fun a F => ?_)
  refine q1 (hi_of hops 7 rfl) F (by omega) ⟨H.get 0 rfl, H.get 1 rfl, H.get 2 rfl, trivial⟩ (v := u (V q)) (fun W_ hV => x_load1 (Tryd.isAgg113 W_) (F.slot (by simp [List.lookup, k1, k2])) (bcell hV.1 (ws_at V hq))) (fun a F => ?_)
  refine q1 (hi_of hops 12 rfl) F (by omega) ⟨H.get 0 rfl, H.get 1 rfl, H.get 2 rfl, trivial⟩ (v := .int .i64 (r c : Int)) (fun W_ hV => x_load1 (Tryd.isAgg3 W_) (F.slot (by simp [List.lookup, k1, k2])) (bcell hV.2.2.1 (rs_at r hc))) (fun a F => ?_)
  refine q0 (hi_of hops 14 rfl) F (by omega) (v := .pointer (some ⟨m, r c, none⟩)) (fun W_ => (x_indexAr (k := .i64) (i := (r c : Int)) (ad := ⟨m, 0, none⟩) Tryd.underlying154 (Tryd.sizeOf113 W_) (F.slot (by simp [List.lookup, k1, k2])) (F.slot (by simp [List.lookup, k1, k2])) (Int.natCast_nonneg _) (by have := hr c; omega)).trans (by rw [addo]; simp)) (fun a F => ?_)
  refine q1 (hi_of hops 15 rfl) F (by omega) ⟨H.get 0 rfl, H.get 1 rfl, H.get 2 rfl, trivial⟩ (v := u (m0 (r c))) (fun W_ hV => x_load1 (Tryd.isAgg113 W_) (F.slot (by simp [List.lookup, k1, k2])) (bcell hV.2.1 (ws_at m0 (hr c)))) (fun a F => ?_)
  refine q0 (hi_of hops 16 rfl) F (by omega) (v := u (V q + (m0 (r c)))) (fun W_ => x_add32 (F.slot (by simp [List.lookup, k1, k2])) (F.slot (by simp [List.lookup, k1, k2]))) (fun a F => ?_)
  refine q0 (hi_of hops 17 rfl) F (by omega) (v := u (V p + (V q + (m0 (r c))))) (fun W_ => x_add32 (F.slot (by simp [List.lookup, k1, k2])) (F.slot (by simp [List.lookup, k1, k2]))) (fun a F => ?_)
  refine q0 (hi_of hops 19 rfl) F (by omega) (v := .pointer (some ⟨g, p, none⟩)) (fun W_ => x_ixc Tryd.underlying154 (Tryd.sizeOf113 W_) (F.slot (by simp [List.lookup, k1, k2])) rfl hp) (fun a F => ?_)
  refine sq_put (M := [Asn.blk g (wsN 16 (upd V p (V p + (V q + (m0 (r c)))))) 154, Asn.blk m (wsN 16 m0) 154, Asn.blk k (rs r) 155]) (hi_of hops 20 rfl) trivial F (by rw [← ws_upd V hp (V p + (V q + (m0 (r c))))]; exact x_store1 H (k := 0) rfl (Tryd.sizeOf113 W) (F.slot (by simp [List.lookup, k1, k2])) (F.slot (by simp [List.lookup, k1, k2])) rfl rfl (by rw [wsN_len]; exact hp)) ?_
  intro W H
  refine ⟨fun h => absurd (by decide) h, ?_⟩
  unfold wpSeq
  refine h _ _ (F.less _ ?_) H
  exact ⟨(by simp [List.lookup, k1, k2]), (by simp [List.lookup, k1, k2]), (by simp [List.lookup, k1, k2]), trivial⟩
set_option maxHeartbeats 2000000 in
theorem regB {b : Code} {pt : List Nat} {id : Nat} {Q : Exit → Act → World → Prop} {w W : World} {Sf Rf : Nat → Prop} {a : Act} {g m k : Nat} {V m0 : Words} {r : Nat → Nat} (hr : ∀ i, r i < 16) (t : Nat) (p q : Nat) (s : Int) (m1 : Nat) (hn : t + 15 < 462) (hp : p < 16) (hq : q < 16) (hrot : ∀ (x : B32) (w : World), Calls Tryd.prog 139 #[u x, .int .i64 s] w fun e W => e = .returned (u (rotr x m1)) ∧ Below w.heap.size w W)
    (hk : ck (cd b pt) = .region id true) (hops : (rops (cd b pt)).toList.map sk = opsB t p q s) (hs : seqOk (rops (cd b pt)) [0, 0, 2, 6, 14, 0, 32, 96, 224, 510, 1022, 1, 4095, 8191] [13] [(0, 0), (1, 0), (2, 0), (3, 0), (5, 0), (6, 0), (7, 0), (11, 0), (4, 1), (8, 1), (9, 0), (10, 2), (12, 0), (13, 2)] = true) (hQ : ∀ c a d v w, Q (.panic c) (Act.put a d v) w → Q (.panic c) a w)
    (F : Fr 462 [(0, .pointer (some ⟨g, 0, none⟩)), (1, .pointer (some ⟨m, 0, none⟩)), (2, .pointer (some ⟨k, 0, none⟩))] a) (H : St w Sf Rf [Asn.blk g (wsN 16 V) 154, Asn.blk m (wsN 16 m0) 154, Asn.blk k (rs r) 155] W) (h : ∀ a W, Fr 462 [(0, .pointer (some ⟨g, 0, none⟩)), (1, .pointer (some ⟨m, 0, none⟩)), (2, .pointer (some ⟨k, 0, none⟩))] a → St w Sf Rf [Asn.blk g (wsN 16 (upd V p (rotr (V p ^^^ V q) m1))) 154, Asn.blk m (wsN 16 m0) 154, Asn.blk k (rs r) 155] W → Q .normal a W) : (cd b pt).wp Tryd.prog Q a W := by
  refine c_drawn hk (by kernel_rfl) (Vs [Asn.blk g (wsN 16 V) 154, Asn.blk m (wsN 16 m0) 154, Asn.blk k (rs r) 155]) [0, 0, 2, 6, 14, 0, 32, 96, 224, 510, 1022, 1, 4095, 8191] [13] [(0, 0), (1, 0), (2, 0), (3, 0), (5, 0), (6, 0), (7, 0), (11, 0), (4, 1), (8, 1), (9, 0), (10, 2), (12, 0), (13, 2)] hs hQ (Vs.drew ⟨H.get 0 rfl, H.get 1 rfl, H.get 2 rfl, trivial⟩) ?_
  have H := H.drew
  generalize World.drew W = W at H ⊢
  refine q0 (hi_of hops 0 rfl) F (by omega) (v := .pointer (some ⟨g, 0, none⟩)) (fun W_ => x_move (F.slot (by simp [List.lookup, k1, k2]))) (fun a F => ?_)
  refine q0 (hi_of hops 1 rfl) F (by omega) (v := .pointer (some ⟨g, 0, none⟩)) (fun W_ => x_move (F.slot (by simp [List.lookup, k1, k2]))) (fun a F => ?_)
  refine q0 (hi_of hops 2 rfl) F (by omega) (v := .pointer (some ⟨g, 0, none⟩)) (fun W_ => x_nil (F.slot (by simp [List.lookup, k1, k2]))) (fun a F => ?_)
  refine q0 (hi_of hops 3 rfl) F (by omega) (v := .pointer (some ⟨g, p, none⟩)) (fun W_ => x_ixc Tryd.underlying154 (Tryd.sizeOf113 W_) (F.slot (by simp [List.lookup, k1, k2])) rfl hp) (fun a F => ?_)
  refine q0 (hi_of hops 5 rfl) F (by omega) (v := .pointer (some ⟨g, 0, none⟩)) (fun W_ => x_move (F.slot (by simp [List.lookup, k1, k2]))) (fun a F => ?_)
  refine q0 (hi_of hops 6 rfl) F (by omega) (v := .pointer (some ⟨g, 0, none⟩)) (fun W_ => x_nil (F.slot (by simp [List.lookup, k1, k2]))) (fun a F => ?_)
  refine q0 (hi_of hops 7 rfl) F (by omega) (v := .pointer (some ⟨g, q, none⟩)) (fun W_ => x_ixc Tryd.underlying154 (Tryd.sizeOf113 W_) (F.slot (by simp [List.lookup, k1, k2])) rfl hq) (fun a F => ?_)
  refine q0 (hi_of hops 11 rfl) F (by omega) (v := .pointer (some ⟨g, 0, none⟩)) (fun W_ => x_nil (F.slot (by simp [List.lookup, k1, k2]))) (fun a F => ?_)
  refine q1 (hi_of hops 4 rfl) F (by omega) ⟨H.get 0 rfl, H.get 1 rfl, H.get 2 rfl, trivial⟩ (v := u (V p)) (fun W_ hV => x_load1 (Tryd.isAgg113 W_) (F.slot (by simp [List.lookup, k1, k2])) (bcell hV.1 (ws_at V hp))) (fun a F => ?_)
  refine q1 (hi_of hops 8 rfl) F (by omega) ⟨H.get 0 rfl, H.get 1 rfl, H.get 2 rfl, trivial⟩ (v := u (V q)) (fun W_ hV => x_load1 (Tryd.isAgg113 W_) (F.slot (by simp [List.lookup, k1, k2])) (bcell hV.1 (ws_at V hq))) (fun a F => ?_)
  refine q0 (hi_of hops 9 rfl) F (by omega) (v := u (V p ^^^ V q)) (fun W_ => x_xor32 (F.slot (by simp [List.lookup, k1, k2])) (F.slot (by simp [List.lookup, k1, k2]))) (fun a F => ?_)
  refine sqc (hi_of hops 10 rfl) trivial F (by omega) (x_call Tryd.func139 (by kernel_rfl) rfl (args_2 (F.slot (by simp [List.lookup, k1, k2])) rfl)) (hrot (V p ^^^ V q) W) ?_
  rintro e W ⟨rfl, hb⟩
  refine ⟨_, rfl, fun a F => ?_⟩
  have H := H.below hb
  refine ⟨fun _ => ⟨H.get 0 rfl, H.get 1 rfl, H.get 2 rfl, trivial⟩, ?_⟩
  refine q0 (hi_of hops 12 rfl) F (by omega) (v := .pointer (some ⟨g, p, none⟩)) (fun W_ => x_ixc Tryd.underlying154 (Tryd.sizeOf113 W_) (F.slot (by simp [List.lookup, k1, k2])) rfl hp) (fun a F => ?_)
  refine sq_put (M := [Asn.blk g (wsN 16 (upd V p (rotr (V p ^^^ V q) m1))) 154, Asn.blk m (wsN 16 m0) 154, Asn.blk k (rs r) 155]) (hi_of hops 13 rfl) trivial F (by rw [← ws_upd V hp (rotr (V p ^^^ V q) m1)]; exact x_store1 H (k := 0) rfl (Tryd.sizeOf113 W) (F.slot (by simp [List.lookup, k1, k2])) (F.slot (by simp [List.lookup, k1, k2])) rfl rfl (by rw [wsN_len]; exact hp)) ?_
  intro W H
  refine ⟨fun h => absurd (by decide) h, ?_⟩
  unfold wpSeq
  refine h _ _ (F.less _ ?_) H
  exact ⟨(by simp [List.lookup, k1, k2]), (by simp [List.lookup, k1, k2]), (by simp [List.lookup, k1, k2]), trivial⟩
set_option maxHeartbeats 2000000 in
theorem regC {b : Code} {pt : List Nat} {id : Nat} {Q : Exit → Act → World → Prop} {w W : World} {Sf Rf : Nat → Prop} {a : Act} {g m k : Nat} {V m0 : Words} {r : Nat → Nat} (hr : ∀ i, r i < 16) (t : Nat) (p q : Nat) (hn : t + 13 < 462) (hp : p < 16) (hq : q < 16)
    (hk : ck (cd b pt) = .region id true) (hops : (rops (cd b pt)).toList.map sk = opsC t p q) (hs : seqOk (rops (cd b pt)) [0, 1, 3, 7, 0, 16, 48, 112, 255, 1, 1023, 2047] [11] [(0, 0), (1, 0), (2, 0), (4, 0), (5, 0), (6, 0), (9, 0), (3, 1), (7, 1), (8, 0), (10, 0), (11, 2)] = true) (hQ : ∀ c a d v w, Q (.panic c) (Act.put a d v) w → Q (.panic c) a w)
    (F : Fr 462 [(0, .pointer (some ⟨g, 0, none⟩)), (1, .pointer (some ⟨m, 0, none⟩)), (2, .pointer (some ⟨k, 0, none⟩))] a) (H : St w Sf Rf [Asn.blk g (wsN 16 V) 154, Asn.blk m (wsN 16 m0) 154, Asn.blk k (rs r) 155] W) (h : ∀ a W, Fr 462 [(0, .pointer (some ⟨g, 0, none⟩)), (1, .pointer (some ⟨m, 0, none⟩)), (2, .pointer (some ⟨k, 0, none⟩))] a → St w Sf Rf [Asn.blk g (wsN 16 (upd V p (V p + V q))) 154, Asn.blk m (wsN 16 m0) 154, Asn.blk k (rs r) 155] W → Q .normal a W) : (cd b pt).wp Tryd.prog Q a W := by
  refine c_drawn hk (by kernel_rfl) (Vs [Asn.blk g (wsN 16 V) 154, Asn.blk m (wsN 16 m0) 154, Asn.blk k (rs r) 155]) [0, 1, 3, 7, 0, 16, 48, 112, 255, 1, 1023, 2047] [11] [(0, 0), (1, 0), (2, 0), (4, 0), (5, 0), (6, 0), (9, 0), (3, 1), (7, 1), (8, 0), (10, 0), (11, 2)] hs hQ (Vs.drew ⟨H.get 0 rfl, H.get 1 rfl, H.get 2 rfl, trivial⟩) ?_
  have H := H.drew
  generalize World.drew W = W at H ⊢
  refine q0 (hi_of hops 0 rfl) F (by omega) (v := .pointer (some ⟨g, 0, none⟩)) (fun W_ => x_move (F.slot (by simp [List.lookup, k1, k2]))) (fun a F => ?_)
  refine q0 (hi_of hops 1 rfl) F (by omega) (v := .pointer (some ⟨g, 0, none⟩)) (fun W_ => x_nil (F.slot (by simp [List.lookup, k1, k2]))) (fun a F => ?_)
  refine q0 (hi_of hops 2 rfl) F (by omega) (v := .pointer (some ⟨g, p, none⟩)) (fun W_ => x_ixc Tryd.underlying154 (Tryd.sizeOf113 W_) (F.slot (by simp [List.lookup, k1, k2])) rfl hp) (fun a F => ?_)
  refine q0 (hi_of hops 4 rfl) F (by omega) (v := .pointer (some ⟨g, 0, none⟩)) (fun W_ => x_move (F.slot (by simp [List.lookup, k1, k2]))) (fun a F => ?_)
  refine q0 (hi_of hops 5 rfl) F (by omega) (v := .pointer (some ⟨g, 0, none⟩)) (fun W_ => x_nil (F.slot (by simp [List.lookup, k1, k2]))) (fun a F => ?_)
  refine q0 (hi_of hops 6 rfl) F (by omega) (v := .pointer (some ⟨g, q, none⟩)) (fun W_ => x_ixc Tryd.underlying154 (Tryd.sizeOf113 W_) (F.slot (by simp [List.lookup, k1, k2])) rfl hq) (fun a F => ?_)
  refine q0 (hi_of hops 9 rfl) F (by omega) (v := .pointer (some ⟨g, 0, none⟩)) (fun W_ => x_nil (F.slot (by simp [List.lookup, k1, k2]))) (fun a F => ?_)
  refine q1 (hi_of hops 3 rfl) F (by omega) ⟨H.get 0 rfl, H.get 1 rfl, H.get 2 rfl, trivial⟩ (v := u (V p)) (fun W_ hV => x_load1 (Tryd.isAgg113 W_) (F.slot (by simp [List.lookup, k1, k2])) (bcell hV.1 (ws_at V hp))) (fun a F => ?_)
  refine q1 (hi_of hops 7 rfl) F (by omega) ⟨H.get 0 rfl, H.get 1 rfl, H.get 2 rfl, trivial⟩ (v := u (V q)) (fun W_ hV => x_load1 (Tryd.isAgg113 W_) (F.slot (by simp [List.lookup, k1, k2])) (bcell hV.1 (ws_at V hq))) (fun a F => ?_)
  refine q0 (hi_of hops 8 rfl) F (by omega) (v := u (V p + V q)) (fun W_ => x_add32 (F.slot (by simp [List.lookup, k1, k2])) (F.slot (by simp [List.lookup, k1, k2]))) (fun a F => ?_)
  refine q0 (hi_of hops 10 rfl) F (by omega) (v := .pointer (some ⟨g, p, none⟩)) (fun W_ => x_ixc Tryd.underlying154 (Tryd.sizeOf113 W_) (F.slot (by simp [List.lookup, k1, k2])) rfl hp) (fun a F => ?_)
  refine sq_put (M := [Asn.blk g (wsN 16 (upd V p (V p + V q))) 154, Asn.blk m (wsN 16 m0) 154, Asn.blk k (rs r) 155]) (hi_of hops 11 rfl) trivial F (by rw [← ws_upd V hp (V p + V q)]; exact x_store1 H (k := 0) rfl (Tryd.sizeOf113 W) (F.slot (by simp [List.lookup, k1, k2])) (F.slot (by simp [List.lookup, k1, k2])) rfl rfl (by rw [wsN_len]; exact hp)) ?_
  intro W H
  refine ⟨fun h => absurd (by decide) h, ?_⟩
  unfold wpSeq
  refine h _ _ (F.less _ ?_) H
  exact ⟨(by simp [List.lookup, k1, k2]), (by simp [List.lookup, k1, k2]), (by simp [List.lookup, k1, k2]), trivial⟩
end Go.Proofs.YtndicjikjcifaaaDoor

/- mix.columns, mix.diagonals. -/
namespace Go.Proofs.YtndicjikjcifaaaDoor
open Go.RowKit Go.Proofs.YtndicjikjcifaaaDoorW.PrintWords Go.Proofs.YtndicjikjcifaaaDoorW.PrintLast
set_option linter.unusedVariables false
set_option linter.unusedSimpArgs false
set_option maxRecDepth 100000
open Bl
theorem rotl16 (x : B32) (w : World) : Calls Tryd.prog 139 #[u x, .int .i64 (-16)] w fun e W => e = .returned (u (rotr x 16)) ∧ Below w.heap.size w W := by
  refine c_enter2 (args := [u x, .int .i64 (-16)]) (S := (fun _ => False)) (R := (fun _ => True)) (M := []) Tryd.func139 (by kernel_rfl) 17 Tryd.ntmps139 (Nat.le_of_ble_eq_true rfl) (St.first w (fun _ => False) (fun _ => True)) (fun a W F H => ?_)
  have F := F.less [(0, u x), (1, .int .i64 (-16))] (subc rfl (subc rfl sub0))
  refine c_seq (by kernel_rfl) ?_
  refine c_text (id := 0) (by kernel_rfl) [(0, 2)] (by kernel_rfl) ?_
  refine q2 (o_s 4 (.assign (.const (.int .u32 0))) 113 (by kernel_rfl)) F (by decide) (v := .int .u32 0) (x_assign rfl) (fun a F => ?_)
  unfold wpSeq
  have H : St w (fun _ => False) (fun _ => True) [] W := H
  refine t_normal ?_
  refine c_seq (by kernel_rfl) ?_
  refine c_text (id := 1) (by kernel_rfl) [(0, 2), (1, 2), (2, 2), (3, 2)] (by kernel_rfl) ?_
  refine q2 (o_s 6 (.move (.tmp 1)) 3 (by kernel_rfl)) F (by decide) (x_move (F.slot rfl)) (fun a F => ?_)
  refine q2 (o_s 7 (.convert 3 105 (.tmp 6)) 105 (by kernel_rfl)) F (by decide) (v := .int .u64 (IntKind.u64.wrap (-16))) (x_conv Tryd.underlying3 Tryd.underlying105 (F.slot rfl)) (fun a F => ?_)
  have F := F.conv (v' := .int .u64 18446744073709551600) (congrArg (Value.int .u64) (by decide))
  refine q2 (o_s 8 (.binOp .and 105 (.tmp 7) (.const (.int .u64 31)) 105) 105 (by kernel_rfl)) F (by decide) (v := .int .u64 (bits .and .u64 18446744073709551600 31)) (x_int (F.slot rfl) rfl rfl) (fun a F => ?_)
  have F := F.conv (v' := .int .u64 16) (congrArg (Value.int .u64) (by decide))
  refine q2 (o_s 5 (.assign (.tmp 8)) 105 (by kernel_rfl)) F (by decide) (v := .int .u64 16) (x_assign (F.slot rfl)) (fun a F => ?_)
  unfold wpSeq
  refine t_normal ?_
  refine c_seq (by kernel_rfl) ?_
  refine c_text (id := 2) (by kernel_rfl) [(0, 2), (1, 2), (2, 2), (3, 2), (4, 2), (5, 2), (6, 2), (7, 2), (8, 2)] (by kernel_rfl) ?_
  refine q2 (o_s 9 (.move (.tmp 0)) 113 (by kernel_rfl)) F (by decide) (x_move (F.slot rfl)) (fun a F => ?_)
  refine q2 (o_s 10 (.move (.tmp 5)) 105 (by kernel_rfl)) F (by decide) (x_move (F.slot rfl)) (fun a F => ?_)
  refine q2 (o_s 11 (.binOp .shl 113 (.tmp 9) (.tmp 10) 105) 113 (by kernel_rfl)) F (by decide) (v := u (x <<< 16)) (x_shl32 (n := 16) (by decide) (F.slot rfl) (F.slot rfl)) (fun a F => ?_)
  refine q2 (o_s 12 (.move (.tmp 0)) 113 (by kernel_rfl)) F (by decide) (x_move (F.slot rfl)) (fun a F => ?_)
  refine q2 (o_s 13 (.move (.tmp 5)) 105 (by kernel_rfl)) F (by decide) (x_move (F.slot rfl)) (fun a F => ?_)
  refine q2 (o_s 14 (.binOp .sub 105 (.const (.int .u64 32)) (.tmp 13) 105) 105 (by kernel_rfl)) F (by decide) (v := .int .u64 16) (x_int rfl (F.slot rfl) rfl) (fun a F => ?_)
  refine q2 (o_s 15 (.binOp .shr 113 (.tmp 12) (.tmp 14) 105) 113 (by kernel_rfl)) F (by decide) (v := u (x >>> 16)) (x_shr32 (n := 16) (by decide) (F.slot rfl) (F.slot rfl)) (fun a F => ?_)
  refine q2 (o_s 16 (.binOp .or 113 (.tmp 11) (.tmp 15) 113) 113 (by kernel_rfl)) F (by decide) (v := u ((x <<< 16) ||| (x >>> 16))) (x_or32 (F.slot rfl) (F.slot rfl)) (fun a F => ?_)
  refine q2 (o_s 4 (.assign (.tmp 16)) 113 (by kernel_rfl)) F (by decide) (v := u ((x <<< 16) ||| (x >>> 16))) (x_assign (F.slot rfl)) (fun a F => ?_)
  unfold wpSeq
  refine t_normal ?_
  refine c_ret (by kernel_rfl) ?_
  refine p_tmp Tryd.results139 F rfl ?_
  refine ⟨?_, H.ends⟩
  rw [show rotr x 16 = (x <<< 16) ||| (x >>> 16) from by unfold rotr; exact BitVec.or_comm _ _]
theorem rotl12 (x : B32) (w : World) : Calls Tryd.prog 139 #[u x, .int .i64 (-12)] w fun e W => e = .returned (u (rotr x 12)) ∧ Below w.heap.size w W := by
  refine c_enter2 (args := [u x, .int .i64 (-12)]) (S := (fun _ => False)) (R := (fun _ => True)) (M := []) Tryd.func139 (by kernel_rfl) 17 Tryd.ntmps139 (Nat.le_of_ble_eq_true rfl) (St.first w (fun _ => False) (fun _ => True)) (fun a W F H => ?_)
  have F := F.less [(0, u x), (1, .int .i64 (-12))] (subc rfl (subc rfl sub0))
  refine c_seq (by kernel_rfl) ?_
  refine c_text (id := 0) (by kernel_rfl) [(0, 2)] (by kernel_rfl) ?_
  refine q2 (o_s 4 (.assign (.const (.int .u32 0))) 113 (by kernel_rfl)) F (by decide) (v := .int .u32 0) (x_assign rfl) (fun a F => ?_)
  unfold wpSeq
  have H : St w (fun _ => False) (fun _ => True) [] W := H
  refine t_normal ?_
  refine c_seq (by kernel_rfl) ?_
  refine c_text (id := 1) (by kernel_rfl) [(0, 2), (1, 2), (2, 2), (3, 2)] (by kernel_rfl) ?_
  refine q2 (o_s 6 (.move (.tmp 1)) 3 (by kernel_rfl)) F (by decide) (x_move (F.slot rfl)) (fun a F => ?_)
  refine q2 (o_s 7 (.convert 3 105 (.tmp 6)) 105 (by kernel_rfl)) F (by decide) (v := .int .u64 (IntKind.u64.wrap (-12))) (x_conv Tryd.underlying3 Tryd.underlying105 (F.slot rfl)) (fun a F => ?_)
  have F := F.conv (v' := .int .u64 18446744073709551604) (congrArg (Value.int .u64) (by decide))
  refine q2 (o_s 8 (.binOp .and 105 (.tmp 7) (.const (.int .u64 31)) 105) 105 (by kernel_rfl)) F (by decide) (v := .int .u64 (bits .and .u64 18446744073709551604 31)) (x_int (F.slot rfl) rfl rfl) (fun a F => ?_)
  have F := F.conv (v' := .int .u64 20) (congrArg (Value.int .u64) (by decide))
  refine q2 (o_s 5 (.assign (.tmp 8)) 105 (by kernel_rfl)) F (by decide) (v := .int .u64 20) (x_assign (F.slot rfl)) (fun a F => ?_)
  unfold wpSeq
  refine t_normal ?_
  refine c_seq (by kernel_rfl) ?_
  refine c_text (id := 2) (by kernel_rfl) [(0, 2), (1, 2), (2, 2), (3, 2), (4, 2), (5, 2), (6, 2), (7, 2), (8, 2)] (by kernel_rfl) ?_
  refine q2 (o_s 9 (.move (.tmp 0)) 113 (by kernel_rfl)) F (by decide) (x_move (F.slot rfl)) (fun a F => ?_)
  refine q2 (o_s 10 (.move (.tmp 5)) 105 (by kernel_rfl)) F (by decide) (x_move (F.slot rfl)) (fun a F => ?_)
  refine q2 (o_s 11 (.binOp .shl 113 (.tmp 9) (.tmp 10) 105) 113 (by kernel_rfl)) F (by decide) (v := u (x <<< 20)) (x_shl32 (n := 20) (by decide) (F.slot rfl) (F.slot rfl)) (fun a F => ?_)
  refine q2 (o_s 12 (.move (.tmp 0)) 113 (by kernel_rfl)) F (by decide) (x_move (F.slot rfl)) (fun a F => ?_)
  refine q2 (o_s 13 (.move (.tmp 5)) 105 (by kernel_rfl)) F (by decide) (x_move (F.slot rfl)) (fun a F => ?_)
  refine q2 (o_s 14 (.binOp .sub 105 (.const (.int .u64 32)) (.tmp 13) 105) 105 (by kernel_rfl)) F (by decide) (v := .int .u64 12) (x_int rfl (F.slot rfl) rfl) (fun a F => ?_)
  refine q2 (o_s 15 (.binOp .shr 113 (.tmp 12) (.tmp 14) 105) 113 (by kernel_rfl)) F (by decide) (v := u (x >>> 12)) (x_shr32 (n := 12) (by decide) (F.slot rfl) (F.slot rfl)) (fun a F => ?_)
  refine q2 (o_s 16 (.binOp .or 113 (.tmp 11) (.tmp 15) 113) 113 (by kernel_rfl)) F (by decide) (v := u ((x <<< 20) ||| (x >>> 12))) (x_or32 (F.slot rfl) (F.slot rfl)) (fun a F => ?_)
  refine q2 (o_s 4 (.assign (.tmp 16)) 113 (by kernel_rfl)) F (by decide) (v := u ((x <<< 20) ||| (x >>> 12))) (x_assign (F.slot rfl)) (fun a F => ?_)
  unfold wpSeq
  refine t_normal ?_
  refine c_ret (by kernel_rfl) ?_
  refine p_tmp Tryd.results139 F rfl ?_
  refine ⟨?_, H.ends⟩
  rw [show rotr x 12 = (x <<< 20) ||| (x >>> 12) from by unfold rotr; exact BitVec.or_comm _ _]
theorem rotl8 (x : B32) (w : World) : Calls Tryd.prog 139 #[u x, .int .i64 (-8)] w fun e W => e = .returned (u (rotr x 8)) ∧ Below w.heap.size w W := by
  refine c_enter2 (args := [u x, .int .i64 (-8)]) (S := (fun _ => False)) (R := (fun _ => True)) (M := []) Tryd.func139 (by kernel_rfl) 17 Tryd.ntmps139 (Nat.le_of_ble_eq_true rfl) (St.first w (fun _ => False) (fun _ => True)) (fun a W F H => ?_)
  have F := F.less [(0, u x), (1, .int .i64 (-8))] (subc rfl (subc rfl sub0))
  refine c_seq (by kernel_rfl) ?_
  refine c_text (id := 0) (by kernel_rfl) [(0, 2)] (by kernel_rfl) ?_
  refine q2 (o_s 4 (.assign (.const (.int .u32 0))) 113 (by kernel_rfl)) F (by decide) (v := .int .u32 0) (x_assign rfl) (fun a F => ?_)
  unfold wpSeq
  have H : St w (fun _ => False) (fun _ => True) [] W := H
  refine t_normal ?_
  refine c_seq (by kernel_rfl) ?_
  refine c_text (id := 1) (by kernel_rfl) [(0, 2), (1, 2), (2, 2), (3, 2)] (by kernel_rfl) ?_
  refine q2 (o_s 6 (.move (.tmp 1)) 3 (by kernel_rfl)) F (by decide) (x_move (F.slot rfl)) (fun a F => ?_)
  refine q2 (o_s 7 (.convert 3 105 (.tmp 6)) 105 (by kernel_rfl)) F (by decide) (v := .int .u64 (IntKind.u64.wrap (-8))) (x_conv Tryd.underlying3 Tryd.underlying105 (F.slot rfl)) (fun a F => ?_)
  have F := F.conv (v' := .int .u64 18446744073709551608) (congrArg (Value.int .u64) (by decide))
  refine q2 (o_s 8 (.binOp .and 105 (.tmp 7) (.const (.int .u64 31)) 105) 105 (by kernel_rfl)) F (by decide) (v := .int .u64 (bits .and .u64 18446744073709551608 31)) (x_int (F.slot rfl) rfl rfl) (fun a F => ?_)
  have F := F.conv (v' := .int .u64 24) (congrArg (Value.int .u64) (by decide))
  refine q2 (o_s 5 (.assign (.tmp 8)) 105 (by kernel_rfl)) F (by decide) (v := .int .u64 24) (x_assign (F.slot rfl)) (fun a F => ?_)
  unfold wpSeq
  refine t_normal ?_
  refine c_seq (by kernel_rfl) ?_
  refine c_text (id := 2) (by kernel_rfl) [(0, 2), (1, 2), (2, 2), (3, 2), (4, 2), (5, 2), (6, 2), (7, 2), (8, 2)] (by kernel_rfl) ?_
  refine q2 (o_s 9 (.move (.tmp 0)) 113 (by kernel_rfl)) F (by decide) (x_move (F.slot rfl)) (fun a F => ?_)
  refine q2 (o_s 10 (.move (.tmp 5)) 105 (by kernel_rfl)) F (by decide) (x_move (F.slot rfl)) (fun a F => ?_)
  refine q2 (o_s 11 (.binOp .shl 113 (.tmp 9) (.tmp 10) 105) 113 (by kernel_rfl)) F (by decide) (v := u (x <<< 24)) (x_shl32 (n := 24) (by decide) (F.slot rfl) (F.slot rfl)) (fun a F => ?_)
  refine q2 (o_s 12 (.move (.tmp 0)) 113 (by kernel_rfl)) F (by decide) (x_move (F.slot rfl)) (fun a F => ?_)
  refine q2 (o_s 13 (.move (.tmp 5)) 105 (by kernel_rfl)) F (by decide) (x_move (F.slot rfl)) (fun a F => ?_)
  refine q2 (o_s 14 (.binOp .sub 105 (.const (.int .u64 32)) (.tmp 13) 105) 105 (by kernel_rfl)) F (by decide) (v := .int .u64 8) (x_int rfl (F.slot rfl) rfl) (fun a F => ?_)
  refine q2 (o_s 15 (.binOp .shr 113 (.tmp 12) (.tmp 14) 105) 113 (by kernel_rfl)) F (by decide) (v := u (x >>> 8)) (x_shr32 (n := 8) (by decide) (F.slot rfl) (F.slot rfl)) (fun a F => ?_)
  refine q2 (o_s 16 (.binOp .or 113 (.tmp 11) (.tmp 15) 113) 113 (by kernel_rfl)) F (by decide) (v := u ((x <<< 24) ||| (x >>> 8))) (x_or32 (F.slot rfl) (F.slot rfl)) (fun a F => ?_)
  refine q2 (o_s 4 (.assign (.tmp 16)) 113 (by kernel_rfl)) F (by decide) (v := u ((x <<< 24) ||| (x >>> 8))) (x_assign (F.slot rfl)) (fun a F => ?_)
  unfold wpSeq
  refine t_normal ?_
  refine c_ret (by kernel_rfl) ?_
  refine p_tmp Tryd.results139 F rfl ?_
  refine ⟨?_, H.ends⟩
  rw [show rotr x 8 = (x <<< 24) ||| (x >>> 8) from by unfold rotr; exact BitVec.or_comm _ _]
theorem rotl7 (x : B32) (w : World) : Calls Tryd.prog 139 #[u x, .int .i64 (-7)] w fun e W => e = .returned (u (rotr x 7)) ∧ Below w.heap.size w W := by
  refine c_enter2 (args := [u x, .int .i64 (-7)]) (S := (fun _ => False)) (R := (fun _ => True)) (M := []) Tryd.func139 (by kernel_rfl) 17 Tryd.ntmps139 (Nat.le_of_ble_eq_true rfl) (St.first w (fun _ => False) (fun _ => True)) (fun a W F H => ?_)
  have F := F.less [(0, u x), (1, .int .i64 (-7))] (subc rfl (subc rfl sub0))
  refine c_seq (by kernel_rfl) ?_
  refine c_text (id := 0) (by kernel_rfl) [(0, 2)] (by kernel_rfl) ?_
  refine q2 (o_s 4 (.assign (.const (.int .u32 0))) 113 (by kernel_rfl)) F (by decide) (v := .int .u32 0) (x_assign rfl) (fun a F => ?_)
  unfold wpSeq
  have H : St w (fun _ => False) (fun _ => True) [] W := H
  refine t_normal ?_
  refine c_seq (by kernel_rfl) ?_
  refine c_text (id := 1) (by kernel_rfl) [(0, 2), (1, 2), (2, 2), (3, 2)] (by kernel_rfl) ?_
  refine q2 (o_s 6 (.move (.tmp 1)) 3 (by kernel_rfl)) F (by decide) (x_move (F.slot rfl)) (fun a F => ?_)
  refine q2 (o_s 7 (.convert 3 105 (.tmp 6)) 105 (by kernel_rfl)) F (by decide) (v := .int .u64 (IntKind.u64.wrap (-7))) (x_conv Tryd.underlying3 Tryd.underlying105 (F.slot rfl)) (fun a F => ?_)
  have F := F.conv (v' := .int .u64 18446744073709551609) (congrArg (Value.int .u64) (by decide))
  refine q2 (o_s 8 (.binOp .and 105 (.tmp 7) (.const (.int .u64 31)) 105) 105 (by kernel_rfl)) F (by decide) (v := .int .u64 (bits .and .u64 18446744073709551609 31)) (x_int (F.slot rfl) rfl rfl) (fun a F => ?_)
  have F := F.conv (v' := .int .u64 25) (congrArg (Value.int .u64) (by decide))
  refine q2 (o_s 5 (.assign (.tmp 8)) 105 (by kernel_rfl)) F (by decide) (v := .int .u64 25) (x_assign (F.slot rfl)) (fun a F => ?_)
  unfold wpSeq
  refine t_normal ?_
  refine c_seq (by kernel_rfl) ?_
  refine c_text (id := 2) (by kernel_rfl) [(0, 2), (1, 2), (2, 2), (3, 2), (4, 2), (5, 2), (6, 2), (7, 2), (8, 2)] (by kernel_rfl) ?_
  refine q2 (o_s 9 (.move (.tmp 0)) 113 (by kernel_rfl)) F (by decide) (x_move (F.slot rfl)) (fun a F => ?_)
  refine q2 (o_s 10 (.move (.tmp 5)) 105 (by kernel_rfl)) F (by decide) (x_move (F.slot rfl)) (fun a F => ?_)
  refine q2 (o_s 11 (.binOp .shl 113 (.tmp 9) (.tmp 10) 105) 113 (by kernel_rfl)) F (by decide) (v := u (x <<< 25)) (x_shl32 (n := 25) (by decide) (F.slot rfl) (F.slot rfl)) (fun a F => ?_)
  refine q2 (o_s 12 (.move (.tmp 0)) 113 (by kernel_rfl)) F (by decide) (x_move (F.slot rfl)) (fun a F => ?_)
  refine q2 (o_s 13 (.move (.tmp 5)) 105 (by kernel_rfl)) F (by decide) (x_move (F.slot rfl)) (fun a F => ?_)
  refine q2 (o_s 14 (.binOp .sub 105 (.const (.int .u64 32)) (.tmp 13) 105) 105 (by kernel_rfl)) F (by decide) (v := .int .u64 7) (x_int rfl (F.slot rfl) rfl) (fun a F => ?_)
  refine q2 (o_s 15 (.binOp .shr 113 (.tmp 12) (.tmp 14) 105) 113 (by kernel_rfl)) F (by decide) (v := u (x >>> 7)) (x_shr32 (n := 7) (by decide) (F.slot rfl) (F.slot rfl)) (fun a F => ?_)
  refine q2 (o_s 16 (.binOp .or 113 (.tmp 11) (.tmp 15) 113) 113 (by kernel_rfl)) F (by decide) (v := u ((x <<< 25) ||| (x >>> 7))) (x_or32 (F.slot rfl) (F.slot rfl)) (fun a F => ?_)
  refine q2 (o_s 4 (.assign (.tmp 16)) 113 (by kernel_rfl)) F (by decide) (v := u ((x <<< 25) ||| (x >>> 7))) (x_assign (F.slot rfl)) (fun a F => ?_)
  unfold wpSeq
  refine t_normal ?_
  refine c_ret (by kernel_rfl) ?_
  refine p_tmp Tryd.results139 F rfl ?_
  refine ⟨?_, H.ends⟩
  rw [show rotr x 7 = (x <<< 25) ||| (x >>> 7) from by unfold rotr; exact BitVec.or_comm _ _]
set_option maxHeartbeats 2000000 in
theorem cols_calls (g m k : Nat) (V m0 : Words) (r : Nat → Nat) (hr : ∀ i, r i < 16) (w : World) {Sf Rf : Nat → Prop} (H : St w Sf Rf [Asn.blk g (wsN 16 V) 154, Asn.blk m (wsN 16 m0) 154, Asn.blk k (rs r) 155] w) :
    Calls Tryd.prog 123 #[.pointer (some ⟨g, 0, none⟩), .pointer (some ⟨m, 0, none⟩), .pointer (some ⟨k, 0, none⟩)] w fun e W => e = .returned (.tuple #[]) ∧ St w Sf Rf [Asn.blk g (wsN 16 (colsF m0 r V)) 154, Asn.blk m (wsN 16 m0) 154, Asn.blk k (rs r) 155] W := by
  refine c_enter2 (args := [.pointer (some ⟨g, 0, none⟩), .pointer (some ⟨m, 0, none⟩), .pointer (some ⟨k, 0, none⟩)]) (S := Sf) (R := Rf) (M := [Asn.blk g (wsN 16 V) 154, Asn.blk m (wsN 16 m0) 154, Asn.blk k (rs r) 155]) Tryd.func123 (by kernel_rfl) 462 Tryd.ntmps123 (Nat.le_of_ble_eq_true rfl) H (fun a W F H => ?_)
  have F := F.less [(0, .pointer (some ⟨g, 0, none⟩)), (1, .pointer (some ⟨m, 0, none⟩)), (2, .pointer (some ⟨k, 0, none⟩))] (subc rfl (subc rfl (subc rfl sub0)))
  refine c_seq (by kernel_rfl) ?_
  refine regA (id := 0) hr 3 0 4 0 (by decide) (by decide) (by decide) (by decide) (by kernel_rfl) (by kernel_rfl) (by kernel_rfl) (fun _ _ d _ _ h => by cases d <;> exact h) F H (fun a W F H => ?_)
  refine t_normal ?_
  obtain ⟨V1, eV1⟩ : ∃ Z_, Z_ = upd V 0 (V 0 + (V 4 + m0 (r 0))) := ⟨_, rfl⟩
  rw [← eV1] at H
  refine c_seq (by kernel_rfl) ?_
  refine regB (id := 1) hr 23 12 0 (-16) 16 (by decide) (by decide) (by decide) rotl16 (by kernel_rfl) (by kernel_rfl) (by kernel_rfl) (fun _ _ d _ _ h => by cases d <;> exact h) F H (fun a W F H => ?_)
  refine t_normal ?_
  obtain ⟨V2, eV2⟩ : ∃ Z_, Z_ = upd V1 12 (rotr (V1 12 ^^^ V1 0) 16) := ⟨_, rfl⟩
  rw [← eV2] at H
  refine c_seq (by kernel_rfl) ?_
  refine regC (id := 2) hr 36 8 12 (by decide) (by decide) (by decide) (by kernel_rfl) (by kernel_rfl) (by kernel_rfl) (fun _ _ d _ _ h => by cases d <;> exact h) F H (fun a W F H => ?_)
  refine t_normal ?_
  obtain ⟨V3, eV3⟩ : ∃ Z_, Z_ = upd V2 8 (V2 8 + V2 12) := ⟨_, rfl⟩
  rw [← eV3] at H
  refine c_seq (by kernel_rfl) ?_
  refine regB (id := 3) hr 47 4 8 (-12) 12 (by decide) (by decide) (by decide) rotl12 (by kernel_rfl) (by kernel_rfl) (by kernel_rfl) (fun _ _ d _ _ h => by cases d <;> exact h) F H (fun a W F H => ?_)
  refine t_normal ?_
  obtain ⟨V4, eV4⟩ : ∃ Z_, Z_ = upd V3 4 (rotr (V3 4 ^^^ V3 8) 12) := ⟨_, rfl⟩
  rw [← eV4] at H
  refine c_seq (by kernel_rfl) ?_
  refine regA (id := 4) hr 60 0 4 1 (by decide) (by decide) (by decide) (by decide) (by kernel_rfl) (by kernel_rfl) (by kernel_rfl) (fun _ _ d _ _ h => by cases d <;> exact h) F H (fun a W F H => ?_)
  refine t_normal ?_
  obtain ⟨V5, eV5⟩ : ∃ Z_, Z_ = upd V4 0 (V4 0 + (V4 4 + m0 (r 1))) := ⟨_, rfl⟩
  rw [← eV5] at H
  refine c_seq (by kernel_rfl) ?_
  refine regB (id := 5) hr 80 12 0 (-8) 8 (by decide) (by decide) (by decide) rotl8 (by kernel_rfl) (by kernel_rfl) (by kernel_rfl) (fun _ _ d _ _ h => by cases d <;> exact h) F H (fun a W F H => ?_)
  refine t_normal ?_
  obtain ⟨V6, eV6⟩ : ∃ Z_, Z_ = upd V5 12 (rotr (V5 12 ^^^ V5 0) 8) := ⟨_, rfl⟩
  rw [← eV6] at H
  refine c_seq (by kernel_rfl) ?_
  refine regC (id := 6) hr 93 8 12 (by decide) (by decide) (by decide) (by kernel_rfl) (by kernel_rfl) (by kernel_rfl) (fun _ _ d _ _ h => by cases d <;> exact h) F H (fun a W F H => ?_)
  refine t_normal ?_
  obtain ⟨V7, eV7⟩ : ∃ Z_, Z_ = upd V6 8 (V6 8 + V6 12) := ⟨_, rfl⟩
  rw [← eV7] at H
  refine c_seq (by kernel_rfl) ?_
  refine regB (id := 7) hr 104 4 8 (-7) 7 (by decide) (by decide) (by decide) rotl7 (by kernel_rfl) (by kernel_rfl) (by kernel_rfl) (fun _ _ d _ _ h => by cases d <;> exact h) F H (fun a W F H => ?_)
  refine t_normal ?_
  obtain ⟨V8, eV8⟩ : ∃ Z_, Z_ = upd V7 4 (rotr (V7 4 ^^^ V7 8) 7) := ⟨_, rfl⟩
  rw [← eV8] at H
  have e := quad_steps 0 4 8 12 (m0 (r 0)) (m0 (r 1)) V V1 V2 V3 V4 V5 V6 V7 V8 (by decide) (by decide) (by decide) (by decide) (by decide) (by decide) eV1 eV2 eV3 eV4 eV5 eV6 eV7 eV8
  obtain ⟨U0, eU0⟩ : ∃ Z_, Z_ = V8 := ⟨_, rfl⟩
  rw [← eU0] at H
  have e0_ := eU0.trans e
  clear e eU0 eV1 eV2 eV3 eV4 eV5 eV6 eV7 eV8
  refine c_seq (by kernel_rfl) ?_
  refine regA (id := 8) hr 117 1 5 2 (by decide) (by decide) (by decide) (by decide) (by kernel_rfl) (by kernel_rfl) (by kernel_rfl) (fun _ _ d _ _ h => by cases d <;> exact h) F H (fun a W F H => ?_)
  refine t_normal ?_
  obtain ⟨V9, eV9⟩ : ∃ Z_, Z_ = upd U0 1 (U0 1 + (U0 5 + m0 (r 2))) := ⟨_, rfl⟩
  rw [← eV9] at H
  refine c_seq (by kernel_rfl) ?_
  refine regB (id := 9) hr 137 13 1 (-16) 16 (by decide) (by decide) (by decide) rotl16 (by kernel_rfl) (by kernel_rfl) (by kernel_rfl) (fun _ _ d _ _ h => by cases d <;> exact h) F H (fun a W F H => ?_)
  refine t_normal ?_
  obtain ⟨V10, eV10⟩ : ∃ Z_, Z_ = upd V9 13 (rotr (V9 13 ^^^ V9 1) 16) := ⟨_, rfl⟩
  rw [← eV10] at H
  refine c_seq (by kernel_rfl) ?_
  refine regC (id := 10) hr 150 9 13 (by decide) (by decide) (by decide) (by kernel_rfl) (by kernel_rfl) (by kernel_rfl) (fun _ _ d _ _ h => by cases d <;> exact h) F H (fun a W F H => ?_)
  refine t_normal ?_
  obtain ⟨V11, eV11⟩ : ∃ Z_, Z_ = upd V10 9 (V10 9 + V10 13) := ⟨_, rfl⟩
  rw [← eV11] at H
  refine c_seq (by kernel_rfl) ?_
  refine regB (id := 11) hr 161 5 9 (-12) 12 (by decide) (by decide) (by decide) rotl12 (by kernel_rfl) (by kernel_rfl) (by kernel_rfl) (fun _ _ d _ _ h => by cases d <;> exact h) F H (fun a W F H => ?_)
  refine t_normal ?_
  obtain ⟨V12, eV12⟩ : ∃ Z_, Z_ = upd V11 5 (rotr (V11 5 ^^^ V11 9) 12) := ⟨_, rfl⟩
  rw [← eV12] at H
  refine c_seq (by kernel_rfl) ?_
  refine regA (id := 12) hr 174 1 5 3 (by decide) (by decide) (by decide) (by decide) (by kernel_rfl) (by kernel_rfl) (by kernel_rfl) (fun _ _ d _ _ h => by cases d <;> exact h) F H (fun a W F H => ?_)
  refine t_normal ?_
  obtain ⟨V13, eV13⟩ : ∃ Z_, Z_ = upd V12 1 (V12 1 + (V12 5 + m0 (r 3))) := ⟨_, rfl⟩
  rw [← eV13] at H
  refine c_seq (by kernel_rfl) ?_
  refine regB (id := 13) hr 194 13 1 (-8) 8 (by decide) (by decide) (by decide) rotl8 (by kernel_rfl) (by kernel_rfl) (by kernel_rfl) (fun _ _ d _ _ h => by cases d <;> exact h) F H (fun a W F H => ?_)
  refine t_normal ?_
  obtain ⟨V14, eV14⟩ : ∃ Z_, Z_ = upd V13 13 (rotr (V13 13 ^^^ V13 1) 8) := ⟨_, rfl⟩
  rw [← eV14] at H
  refine c_seq (by kernel_rfl) ?_
  refine regC (id := 14) hr 207 9 13 (by decide) (by decide) (by decide) (by kernel_rfl) (by kernel_rfl) (by kernel_rfl) (fun _ _ d _ _ h => by cases d <;> exact h) F H (fun a W F H => ?_)
  refine t_normal ?_
  obtain ⟨V15, eV15⟩ : ∃ Z_, Z_ = upd V14 9 (V14 9 + V14 13) := ⟨_, rfl⟩
  rw [← eV15] at H
  refine c_seq (by kernel_rfl) ?_
  refine regB (id := 15) hr 218 5 9 (-7) 7 (by decide) (by decide) (by decide) rotl7 (by kernel_rfl) (by kernel_rfl) (by kernel_rfl) (fun _ _ d _ _ h => by cases d <;> exact h) F H (fun a W F H => ?_)
  refine t_normal ?_
  obtain ⟨V16, eV16⟩ : ∃ Z_, Z_ = upd V15 5 (rotr (V15 5 ^^^ V15 9) 7) := ⟨_, rfl⟩
  rw [← eV16] at H
  have e := quad_steps 1 5 9 13 (m0 (r 2)) (m0 (r 3)) U0 V9 V10 V11 V12 V13 V14 V15 V16 (by decide) (by decide) (by decide) (by decide) (by decide) (by decide) eV9 eV10 eV11 eV12 eV13 eV14 eV15 eV16
  obtain ⟨U1, eU1⟩ : ∃ Z_, Z_ = V16 := ⟨_, rfl⟩
  rw [← eU1] at H
  have e1_ := eU1.trans e
  clear e eU1 eV9 eV10 eV11 eV12 eV13 eV14 eV15 eV16
  refine c_seq (by kernel_rfl) ?_
  refine regA (id := 16) hr 231 2 6 4 (by decide) (by decide) (by decide) (by decide) (by kernel_rfl) (by kernel_rfl) (by kernel_rfl) (fun _ _ d _ _ h => by cases d <;> exact h) F H (fun a W F H => ?_)
  refine t_normal ?_
  obtain ⟨V17, eV17⟩ : ∃ Z_, Z_ = upd U1 2 (U1 2 + (U1 6 + m0 (r 4))) := ⟨_, rfl⟩
  rw [← eV17] at H
  refine c_seq (by kernel_rfl) ?_
  refine regB (id := 17) hr 251 14 2 (-16) 16 (by decide) (by decide) (by decide) rotl16 (by kernel_rfl) (by kernel_rfl) (by kernel_rfl) (fun _ _ d _ _ h => by cases d <;> exact h) F H (fun a W F H => ?_)
  refine t_normal ?_
  obtain ⟨V18, eV18⟩ : ∃ Z_, Z_ = upd V17 14 (rotr (V17 14 ^^^ V17 2) 16) := ⟨_, rfl⟩
  rw [← eV18] at H
  refine c_seq (by kernel_rfl) ?_
  refine regC (id := 18) hr 264 10 14 (by decide) (by decide) (by decide) (by kernel_rfl) (by kernel_rfl) (by kernel_rfl) (fun _ _ d _ _ h => by cases d <;> exact h) F H (fun a W F H => ?_)
  refine t_normal ?_
  obtain ⟨V19, eV19⟩ : ∃ Z_, Z_ = upd V18 10 (V18 10 + V18 14) := ⟨_, rfl⟩
  rw [← eV19] at H
  refine c_seq (by kernel_rfl) ?_
  refine regB (id := 19) hr 275 6 10 (-12) 12 (by decide) (by decide) (by decide) rotl12 (by kernel_rfl) (by kernel_rfl) (by kernel_rfl) (fun _ _ d _ _ h => by cases d <;> exact h) F H (fun a W F H => ?_)
  refine t_normal ?_
  obtain ⟨V20, eV20⟩ : ∃ Z_, Z_ = upd V19 6 (rotr (V19 6 ^^^ V19 10) 12) := ⟨_, rfl⟩
  rw [← eV20] at H
  refine c_seq (by kernel_rfl) ?_
  refine regA (id := 20) hr 288 2 6 5 (by decide) (by decide) (by decide) (by decide) (by kernel_rfl) (by kernel_rfl) (by kernel_rfl) (fun _ _ d _ _ h => by cases d <;> exact h) F H (fun a W F H => ?_)
  refine t_normal ?_
  obtain ⟨V21, eV21⟩ : ∃ Z_, Z_ = upd V20 2 (V20 2 + (V20 6 + m0 (r 5))) := ⟨_, rfl⟩
  rw [← eV21] at H
  refine c_seq (by kernel_rfl) ?_
  refine regB (id := 21) hr 308 14 2 (-8) 8 (by decide) (by decide) (by decide) rotl8 (by kernel_rfl) (by kernel_rfl) (by kernel_rfl) (fun _ _ d _ _ h => by cases d <;> exact h) F H (fun a W F H => ?_)
  refine t_normal ?_
  obtain ⟨V22, eV22⟩ : ∃ Z_, Z_ = upd V21 14 (rotr (V21 14 ^^^ V21 2) 8) := ⟨_, rfl⟩
  rw [← eV22] at H
  refine c_seq (by kernel_rfl) ?_
  refine regC (id := 22) hr 321 10 14 (by decide) (by decide) (by decide) (by kernel_rfl) (by kernel_rfl) (by kernel_rfl) (fun _ _ d _ _ h => by cases d <;> exact h) F H (fun a W F H => ?_)
  refine t_normal ?_
  obtain ⟨V23, eV23⟩ : ∃ Z_, Z_ = upd V22 10 (V22 10 + V22 14) := ⟨_, rfl⟩
  rw [← eV23] at H
  refine c_seq (by kernel_rfl) ?_
  refine regB (id := 23) hr 332 6 10 (-7) 7 (by decide) (by decide) (by decide) rotl7 (by kernel_rfl) (by kernel_rfl) (by kernel_rfl) (fun _ _ d _ _ h => by cases d <;> exact h) F H (fun a W F H => ?_)
  refine t_normal ?_
  obtain ⟨V24, eV24⟩ : ∃ Z_, Z_ = upd V23 6 (rotr (V23 6 ^^^ V23 10) 7) := ⟨_, rfl⟩
  rw [← eV24] at H
  have e := quad_steps 2 6 10 14 (m0 (r 4)) (m0 (r 5)) U1 V17 V18 V19 V20 V21 V22 V23 V24 (by decide) (by decide) (by decide) (by decide) (by decide) (by decide) eV17 eV18 eV19 eV20 eV21 eV22 eV23 eV24
  obtain ⟨U2, eU2⟩ : ∃ Z_, Z_ = V24 := ⟨_, rfl⟩
  rw [← eU2] at H
  have e2_ := eU2.trans e
  clear e eU2 eV17 eV18 eV19 eV20 eV21 eV22 eV23 eV24
  refine c_seq (by kernel_rfl) ?_
  refine regA (id := 24) hr 345 3 7 6 (by decide) (by decide) (by decide) (by decide) (by kernel_rfl) (by kernel_rfl) (by kernel_rfl) (fun _ _ d _ _ h => by cases d <;> exact h) F H (fun a W F H => ?_)
  refine t_normal ?_
  obtain ⟨V25, eV25⟩ : ∃ Z_, Z_ = upd U2 3 (U2 3 + (U2 7 + m0 (r 6))) := ⟨_, rfl⟩
  rw [← eV25] at H
  refine c_seq (by kernel_rfl) ?_
  refine regB (id := 25) hr 365 15 3 (-16) 16 (by decide) (by decide) (by decide) rotl16 (by kernel_rfl) (by kernel_rfl) (by kernel_rfl) (fun _ _ d _ _ h => by cases d <;> exact h) F H (fun a W F H => ?_)
  refine t_normal ?_
  obtain ⟨V26, eV26⟩ : ∃ Z_, Z_ = upd V25 15 (rotr (V25 15 ^^^ V25 3) 16) := ⟨_, rfl⟩
  rw [← eV26] at H
  refine c_seq (by kernel_rfl) ?_
  refine regC (id := 26) hr 378 11 15 (by decide) (by decide) (by decide) (by kernel_rfl) (by kernel_rfl) (by kernel_rfl) (fun _ _ d _ _ h => by cases d <;> exact h) F H (fun a W F H => ?_)
  refine t_normal ?_
  obtain ⟨V27, eV27⟩ : ∃ Z_, Z_ = upd V26 11 (V26 11 + V26 15) := ⟨_, rfl⟩
  rw [← eV27] at H
  refine c_seq (by kernel_rfl) ?_
  refine regB (id := 27) hr 389 7 11 (-12) 12 (by decide) (by decide) (by decide) rotl12 (by kernel_rfl) (by kernel_rfl) (by kernel_rfl) (fun _ _ d _ _ h => by cases d <;> exact h) F H (fun a W F H => ?_)
  refine t_normal ?_
  obtain ⟨V28, eV28⟩ : ∃ Z_, Z_ = upd V27 7 (rotr (V27 7 ^^^ V27 11) 12) := ⟨_, rfl⟩
  rw [← eV28] at H
  refine c_seq (by kernel_rfl) ?_
  refine regA (id := 28) hr 402 3 7 7 (by decide) (by decide) (by decide) (by decide) (by kernel_rfl) (by kernel_rfl) (by kernel_rfl) (fun _ _ d _ _ h => by cases d <;> exact h) F H (fun a W F H => ?_)
  refine t_normal ?_
  obtain ⟨V29, eV29⟩ : ∃ Z_, Z_ = upd V28 3 (V28 3 + (V28 7 + m0 (r 7))) := ⟨_, rfl⟩
  rw [← eV29] at H
  refine c_seq (by kernel_rfl) ?_
  refine regB (id := 29) hr 422 15 3 (-8) 8 (by decide) (by decide) (by decide) rotl8 (by kernel_rfl) (by kernel_rfl) (by kernel_rfl) (fun _ _ d _ _ h => by cases d <;> exact h) F H (fun a W F H => ?_)
  refine t_normal ?_
  obtain ⟨V30, eV30⟩ : ∃ Z_, Z_ = upd V29 15 (rotr (V29 15 ^^^ V29 3) 8) := ⟨_, rfl⟩
  rw [← eV30] at H
  refine c_seq (by kernel_rfl) ?_
  refine regC (id := 30) hr 435 11 15 (by decide) (by decide) (by decide) (by kernel_rfl) (by kernel_rfl) (by kernel_rfl) (fun _ _ d _ _ h => by cases d <;> exact h) F H (fun a W F H => ?_)
  refine t_normal ?_
  obtain ⟨V31, eV31⟩ : ∃ Z_, Z_ = upd V30 11 (V30 11 + V30 15) := ⟨_, rfl⟩
  rw [← eV31] at H
  refine regB (id := 31) hr 446 7 11 (-7) 7 (by decide) (by decide) (by decide) rotl7 (by kernel_rfl) (by kernel_rfl) (by kernel_rfl) (fun _ _ d _ _ h => by cases d <;> exact h) F H (fun a W F H => ?_)
  obtain ⟨V32, eV32⟩ : ∃ Z_, Z_ = upd V31 7 (rotr (V31 7 ^^^ V31 11) 7) := ⟨_, rfl⟩
  rw [← eV32] at H
  have e := quad_steps 3 7 11 15 (m0 (r 6)) (m0 (r 7)) U2 V25 V26 V27 V28 V29 V30 V31 V32 (by decide) (by decide) (by decide) (by decide) (by decide) (by decide) eV25 eV26 eV27 eV28 eV29 eV30 eV31 eV32
  obtain ⟨U3, eU3⟩ : ∃ Z_, Z_ = V32 := ⟨_, rfl⟩
  rw [← eU3] at H
  have e3_ := eU3.trans e
  clear e eU3 eV25 eV26 eV27 eV28 eV29 eV30 eV31 eV32
  refine p_end Tryd.results123 F ?_
  refine ⟨rfl, ?_⟩
  rw [e3_, e2_, e1_, e0_] at H
  exact H
set_option maxHeartbeats 2000000 in
theorem diags_calls (g m k : Nat) (V m0 : Words) (r : Nat → Nat) (hr : ∀ i, r i < 16) (w : World) {Sf Rf : Nat → Prop} (H : St w Sf Rf [Asn.blk g (wsN 16 V) 154, Asn.blk m (wsN 16 m0) 154, Asn.blk k (rs r) 155] w) :
    Calls Tryd.prog 124 #[.pointer (some ⟨g, 0, none⟩), .pointer (some ⟨m, 0, none⟩), .pointer (some ⟨k, 0, none⟩)] w fun e W => e = .returned (.tuple #[]) ∧ St w Sf Rf [Asn.blk g (wsN 16 (diagsF m0 r V)) 154, Asn.blk m (wsN 16 m0) 154, Asn.blk k (rs r) 155] W := by
  refine c_enter2 (args := [.pointer (some ⟨g, 0, none⟩), .pointer (some ⟨m, 0, none⟩), .pointer (some ⟨k, 0, none⟩)]) (S := Sf) (R := Rf) (M := [Asn.blk g (wsN 16 V) 154, Asn.blk m (wsN 16 m0) 154, Asn.blk k (rs r) 155]) Tryd.func124 (by kernel_rfl) 462 Tryd.ntmps124 (Nat.le_of_ble_eq_true rfl) H (fun a W F H => ?_)
  have F := F.less [(0, .pointer (some ⟨g, 0, none⟩)), (1, .pointer (some ⟨m, 0, none⟩)), (2, .pointer (some ⟨k, 0, none⟩))] (subc rfl (subc rfl (subc rfl sub0)))
  refine c_seq (by kernel_rfl) ?_
  refine regA (id := 0) hr 3 0 5 8 (by decide) (by decide) (by decide) (by decide) (by kernel_rfl) (by kernel_rfl) (by kernel_rfl) (fun _ _ d _ _ h => by cases d <;> exact h) F H (fun a W F H => ?_)
  refine t_normal ?_
  obtain ⟨V1, eV1⟩ : ∃ Z_, Z_ = upd V 0 (V 0 + (V 5 + m0 (r 8))) := ⟨_, rfl⟩
  rw [← eV1] at H
  refine c_seq (by kernel_rfl) ?_
  refine regB (id := 1) hr 23 15 0 (-16) 16 (by decide) (by decide) (by decide) rotl16 (by kernel_rfl) (by kernel_rfl) (by kernel_rfl) (fun _ _ d _ _ h => by cases d <;> exact h) F H (fun a W F H => ?_)
  refine t_normal ?_
  obtain ⟨V2, eV2⟩ : ∃ Z_, Z_ = upd V1 15 (rotr (V1 15 ^^^ V1 0) 16) := ⟨_, rfl⟩
  rw [← eV2] at H
  refine c_seq (by kernel_rfl) ?_
  refine regC (id := 2) hr 36 10 15 (by decide) (by decide) (by decide) (by kernel_rfl) (by kernel_rfl) (by kernel_rfl) (fun _ _ d _ _ h => by cases d <;> exact h) F H (fun a W F H => ?_)
  refine t_normal ?_
  obtain ⟨V3, eV3⟩ : ∃ Z_, Z_ = upd V2 10 (V2 10 + V2 15) := ⟨_, rfl⟩
  rw [← eV3] at H
  refine c_seq (by kernel_rfl) ?_
  refine regB (id := 3) hr 47 5 10 (-12) 12 (by decide) (by decide) (by decide) rotl12 (by kernel_rfl) (by kernel_rfl) (by kernel_rfl) (fun _ _ d _ _ h => by cases d <;> exact h) F H (fun a W F H => ?_)
  refine t_normal ?_
  obtain ⟨V4, eV4⟩ : ∃ Z_, Z_ = upd V3 5 (rotr (V3 5 ^^^ V3 10) 12) := ⟨_, rfl⟩
  rw [← eV4] at H
  refine c_seq (by kernel_rfl) ?_
  refine regA (id := 4) hr 60 0 5 9 (by decide) (by decide) (by decide) (by decide) (by kernel_rfl) (by kernel_rfl) (by kernel_rfl) (fun _ _ d _ _ h => by cases d <;> exact h) F H (fun a W F H => ?_)
  refine t_normal ?_
  obtain ⟨V5, eV5⟩ : ∃ Z_, Z_ = upd V4 0 (V4 0 + (V4 5 + m0 (r 9))) := ⟨_, rfl⟩
  rw [← eV5] at H
  refine c_seq (by kernel_rfl) ?_
  refine regB (id := 5) hr 80 15 0 (-8) 8 (by decide) (by decide) (by decide) rotl8 (by kernel_rfl) (by kernel_rfl) (by kernel_rfl) (fun _ _ d _ _ h => by cases d <;> exact h) F H (fun a W F H => ?_)
  refine t_normal ?_
  obtain ⟨V6, eV6⟩ : ∃ Z_, Z_ = upd V5 15 (rotr (V5 15 ^^^ V5 0) 8) := ⟨_, rfl⟩
  rw [← eV6] at H
  refine c_seq (by kernel_rfl) ?_
  refine regC (id := 6) hr 93 10 15 (by decide) (by decide) (by decide) (by kernel_rfl) (by kernel_rfl) (by kernel_rfl) (fun _ _ d _ _ h => by cases d <;> exact h) F H (fun a W F H => ?_)
  refine t_normal ?_
  obtain ⟨V7, eV7⟩ : ∃ Z_, Z_ = upd V6 10 (V6 10 + V6 15) := ⟨_, rfl⟩
  rw [← eV7] at H
  refine c_seq (by kernel_rfl) ?_
  refine regB (id := 7) hr 104 5 10 (-7) 7 (by decide) (by decide) (by decide) rotl7 (by kernel_rfl) (by kernel_rfl) (by kernel_rfl) (fun _ _ d _ _ h => by cases d <;> exact h) F H (fun a W F H => ?_)
  refine t_normal ?_
  obtain ⟨V8, eV8⟩ : ∃ Z_, Z_ = upd V7 5 (rotr (V7 5 ^^^ V7 10) 7) := ⟨_, rfl⟩
  rw [← eV8] at H
  have e := quad_steps 0 5 10 15 (m0 (r 8)) (m0 (r 9)) V V1 V2 V3 V4 V5 V6 V7 V8 (by decide) (by decide) (by decide) (by decide) (by decide) (by decide) eV1 eV2 eV3 eV4 eV5 eV6 eV7 eV8
  obtain ⟨U0, eU0⟩ : ∃ Z_, Z_ = V8 := ⟨_, rfl⟩
  rw [← eU0] at H
  have e0_ := eU0.trans e
  clear e eU0 eV1 eV2 eV3 eV4 eV5 eV6 eV7 eV8
  refine c_seq (by kernel_rfl) ?_
  refine regA (id := 8) hr 117 1 6 10 (by decide) (by decide) (by decide) (by decide) (by kernel_rfl) (by kernel_rfl) (by kernel_rfl) (fun _ _ d _ _ h => by cases d <;> exact h) F H (fun a W F H => ?_)
  refine t_normal ?_
  obtain ⟨V9, eV9⟩ : ∃ Z_, Z_ = upd U0 1 (U0 1 + (U0 6 + m0 (r 10))) := ⟨_, rfl⟩
  rw [← eV9] at H
  refine c_seq (by kernel_rfl) ?_
  refine regB (id := 9) hr 137 12 1 (-16) 16 (by decide) (by decide) (by decide) rotl16 (by kernel_rfl) (by kernel_rfl) (by kernel_rfl) (fun _ _ d _ _ h => by cases d <;> exact h) F H (fun a W F H => ?_)
  refine t_normal ?_
  obtain ⟨V10, eV10⟩ : ∃ Z_, Z_ = upd V9 12 (rotr (V9 12 ^^^ V9 1) 16) := ⟨_, rfl⟩
  rw [← eV10] at H
  refine c_seq (by kernel_rfl) ?_
  refine regC (id := 10) hr 150 11 12 (by decide) (by decide) (by decide) (by kernel_rfl) (by kernel_rfl) (by kernel_rfl) (fun _ _ d _ _ h => by cases d <;> exact h) F H (fun a W F H => ?_)
  refine t_normal ?_
  obtain ⟨V11, eV11⟩ : ∃ Z_, Z_ = upd V10 11 (V10 11 + V10 12) := ⟨_, rfl⟩
  rw [← eV11] at H
  refine c_seq (by kernel_rfl) ?_
  refine regB (id := 11) hr 161 6 11 (-12) 12 (by decide) (by decide) (by decide) rotl12 (by kernel_rfl) (by kernel_rfl) (by kernel_rfl) (fun _ _ d _ _ h => by cases d <;> exact h) F H (fun a W F H => ?_)
  refine t_normal ?_
  obtain ⟨V12, eV12⟩ : ∃ Z_, Z_ = upd V11 6 (rotr (V11 6 ^^^ V11 11) 12) := ⟨_, rfl⟩
  rw [← eV12] at H
  refine c_seq (by kernel_rfl) ?_
  refine regA (id := 12) hr 174 1 6 11 (by decide) (by decide) (by decide) (by decide) (by kernel_rfl) (by kernel_rfl) (by kernel_rfl) (fun _ _ d _ _ h => by cases d <;> exact h) F H (fun a W F H => ?_)
  refine t_normal ?_
  obtain ⟨V13, eV13⟩ : ∃ Z_, Z_ = upd V12 1 (V12 1 + (V12 6 + m0 (r 11))) := ⟨_, rfl⟩
  rw [← eV13] at H
  refine c_seq (by kernel_rfl) ?_
  refine regB (id := 13) hr 194 12 1 (-8) 8 (by decide) (by decide) (by decide) rotl8 (by kernel_rfl) (by kernel_rfl) (by kernel_rfl) (fun _ _ d _ _ h => by cases d <;> exact h) F H (fun a W F H => ?_)
  refine t_normal ?_
  obtain ⟨V14, eV14⟩ : ∃ Z_, Z_ = upd V13 12 (rotr (V13 12 ^^^ V13 1) 8) := ⟨_, rfl⟩
  rw [← eV14] at H
  refine c_seq (by kernel_rfl) ?_
  refine regC (id := 14) hr 207 11 12 (by decide) (by decide) (by decide) (by kernel_rfl) (by kernel_rfl) (by kernel_rfl) (fun _ _ d _ _ h => by cases d <;> exact h) F H (fun a W F H => ?_)
  refine t_normal ?_
  obtain ⟨V15, eV15⟩ : ∃ Z_, Z_ = upd V14 11 (V14 11 + V14 12) := ⟨_, rfl⟩
  rw [← eV15] at H
  refine c_seq (by kernel_rfl) ?_
  refine regB (id := 15) hr 218 6 11 (-7) 7 (by decide) (by decide) (by decide) rotl7 (by kernel_rfl) (by kernel_rfl) (by kernel_rfl) (fun _ _ d _ _ h => by cases d <;> exact h) F H (fun a W F H => ?_)
  refine t_normal ?_
  obtain ⟨V16, eV16⟩ : ∃ Z_, Z_ = upd V15 6 (rotr (V15 6 ^^^ V15 11) 7) := ⟨_, rfl⟩
  rw [← eV16] at H
  have e := quad_steps 1 6 11 12 (m0 (r 10)) (m0 (r 11)) U0 V9 V10 V11 V12 V13 V14 V15 V16 (by decide) (by decide) (by decide) (by decide) (by decide) (by decide) eV9 eV10 eV11 eV12 eV13 eV14 eV15 eV16
  obtain ⟨U1, eU1⟩ : ∃ Z_, Z_ = V16 := ⟨_, rfl⟩
  rw [← eU1] at H
  have e1_ := eU1.trans e
  clear e eU1 eV9 eV10 eV11 eV12 eV13 eV14 eV15 eV16
  refine c_seq (by kernel_rfl) ?_
  refine regA (id := 16) hr 231 2 7 12 (by decide) (by decide) (by decide) (by decide) (by kernel_rfl) (by kernel_rfl) (by kernel_rfl) (fun _ _ d _ _ h => by cases d <;> exact h) F H (fun a W F H => ?_)
  refine t_normal ?_
  obtain ⟨V17, eV17⟩ : ∃ Z_, Z_ = upd U1 2 (U1 2 + (U1 7 + m0 (r 12))) := ⟨_, rfl⟩
  rw [← eV17] at H
  refine c_seq (by kernel_rfl) ?_
  refine regB (id := 17) hr 251 13 2 (-16) 16 (by decide) (by decide) (by decide) rotl16 (by kernel_rfl) (by kernel_rfl) (by kernel_rfl) (fun _ _ d _ _ h => by cases d <;> exact h) F H (fun a W F H => ?_)
  refine t_normal ?_
  obtain ⟨V18, eV18⟩ : ∃ Z_, Z_ = upd V17 13 (rotr (V17 13 ^^^ V17 2) 16) := ⟨_, rfl⟩
  rw [← eV18] at H
  refine c_seq (by kernel_rfl) ?_
  refine regC (id := 18) hr 264 8 13 (by decide) (by decide) (by decide) (by kernel_rfl) (by kernel_rfl) (by kernel_rfl) (fun _ _ d _ _ h => by cases d <;> exact h) F H (fun a W F H => ?_)
  refine t_normal ?_
  obtain ⟨V19, eV19⟩ : ∃ Z_, Z_ = upd V18 8 (V18 8 + V18 13) := ⟨_, rfl⟩
  rw [← eV19] at H
  refine c_seq (by kernel_rfl) ?_
  refine regB (id := 19) hr 275 7 8 (-12) 12 (by decide) (by decide) (by decide) rotl12 (by kernel_rfl) (by kernel_rfl) (by kernel_rfl) (fun _ _ d _ _ h => by cases d <;> exact h) F H (fun a W F H => ?_)
  refine t_normal ?_
  obtain ⟨V20, eV20⟩ : ∃ Z_, Z_ = upd V19 7 (rotr (V19 7 ^^^ V19 8) 12) := ⟨_, rfl⟩
  rw [← eV20] at H
  refine c_seq (by kernel_rfl) ?_
  refine regA (id := 20) hr 288 2 7 13 (by decide) (by decide) (by decide) (by decide) (by kernel_rfl) (by kernel_rfl) (by kernel_rfl) (fun _ _ d _ _ h => by cases d <;> exact h) F H (fun a W F H => ?_)
  refine t_normal ?_
  obtain ⟨V21, eV21⟩ : ∃ Z_, Z_ = upd V20 2 (V20 2 + (V20 7 + m0 (r 13))) := ⟨_, rfl⟩
  rw [← eV21] at H
  refine c_seq (by kernel_rfl) ?_
  refine regB (id := 21) hr 308 13 2 (-8) 8 (by decide) (by decide) (by decide) rotl8 (by kernel_rfl) (by kernel_rfl) (by kernel_rfl) (fun _ _ d _ _ h => by cases d <;> exact h) F H (fun a W F H => ?_)
  refine t_normal ?_
  obtain ⟨V22, eV22⟩ : ∃ Z_, Z_ = upd V21 13 (rotr (V21 13 ^^^ V21 2) 8) := ⟨_, rfl⟩
  rw [← eV22] at H
  refine c_seq (by kernel_rfl) ?_
  refine regC (id := 22) hr 321 8 13 (by decide) (by decide) (by decide) (by kernel_rfl) (by kernel_rfl) (by kernel_rfl) (fun _ _ d _ _ h => by cases d <;> exact h) F H (fun a W F H => ?_)
  refine t_normal ?_
  obtain ⟨V23, eV23⟩ : ∃ Z_, Z_ = upd V22 8 (V22 8 + V22 13) := ⟨_, rfl⟩
  rw [← eV23] at H
  refine c_seq (by kernel_rfl) ?_
  refine regB (id := 23) hr 332 7 8 (-7) 7 (by decide) (by decide) (by decide) rotl7 (by kernel_rfl) (by kernel_rfl) (by kernel_rfl) (fun _ _ d _ _ h => by cases d <;> exact h) F H (fun a W F H => ?_)
  refine t_normal ?_
  obtain ⟨V24, eV24⟩ : ∃ Z_, Z_ = upd V23 7 (rotr (V23 7 ^^^ V23 8) 7) := ⟨_, rfl⟩
  rw [← eV24] at H
  have e := quad_steps 2 7 8 13 (m0 (r 12)) (m0 (r 13)) U1 V17 V18 V19 V20 V21 V22 V23 V24 (by decide) (by decide) (by decide) (by decide) (by decide) (by decide) eV17 eV18 eV19 eV20 eV21 eV22 eV23 eV24
  obtain ⟨U2, eU2⟩ : ∃ Z_, Z_ = V24 := ⟨_, rfl⟩
  rw [← eU2] at H
  have e2_ := eU2.trans e
  clear e eU2 eV17 eV18 eV19 eV20 eV21 eV22 eV23 eV24
  refine c_seq (by kernel_rfl) ?_
  refine regA (id := 24) hr 345 3 4 14 (by decide) (by decide) (by decide) (by decide) (by kernel_rfl) (by kernel_rfl) (by kernel_rfl) (fun _ _ d _ _ h => by cases d <;> exact h) F H (fun a W F H => ?_)
  refine t_normal ?_
  obtain ⟨V25, eV25⟩ : ∃ Z_, Z_ = upd U2 3 (U2 3 + (U2 4 + m0 (r 14))) := ⟨_, rfl⟩
  rw [← eV25] at H
  refine c_seq (by kernel_rfl) ?_
  refine regB (id := 25) hr 365 14 3 (-16) 16 (by decide) (by decide) (by decide) rotl16 (by kernel_rfl) (by kernel_rfl) (by kernel_rfl) (fun _ _ d _ _ h => by cases d <;> exact h) F H (fun a W F H => ?_)
  refine t_normal ?_
  obtain ⟨V26, eV26⟩ : ∃ Z_, Z_ = upd V25 14 (rotr (V25 14 ^^^ V25 3) 16) := ⟨_, rfl⟩
  rw [← eV26] at H
  refine c_seq (by kernel_rfl) ?_
  refine regC (id := 26) hr 378 9 14 (by decide) (by decide) (by decide) (by kernel_rfl) (by kernel_rfl) (by kernel_rfl) (fun _ _ d _ _ h => by cases d <;> exact h) F H (fun a W F H => ?_)
  refine t_normal ?_
  obtain ⟨V27, eV27⟩ : ∃ Z_, Z_ = upd V26 9 (V26 9 + V26 14) := ⟨_, rfl⟩
  rw [← eV27] at H
  refine c_seq (by kernel_rfl) ?_
  refine regB (id := 27) hr 389 4 9 (-12) 12 (by decide) (by decide) (by decide) rotl12 (by kernel_rfl) (by kernel_rfl) (by kernel_rfl) (fun _ _ d _ _ h => by cases d <;> exact h) F H (fun a W F H => ?_)
  refine t_normal ?_
  obtain ⟨V28, eV28⟩ : ∃ Z_, Z_ = upd V27 4 (rotr (V27 4 ^^^ V27 9) 12) := ⟨_, rfl⟩
  rw [← eV28] at H
  refine c_seq (by kernel_rfl) ?_
  refine regA (id := 28) hr 402 3 4 15 (by decide) (by decide) (by decide) (by decide) (by kernel_rfl) (by kernel_rfl) (by kernel_rfl) (fun _ _ d _ _ h => by cases d <;> exact h) F H (fun a W F H => ?_)
  refine t_normal ?_
  obtain ⟨V29, eV29⟩ : ∃ Z_, Z_ = upd V28 3 (V28 3 + (V28 4 + m0 (r 15))) := ⟨_, rfl⟩
  rw [← eV29] at H
  refine c_seq (by kernel_rfl) ?_
  refine regB (id := 29) hr 422 14 3 (-8) 8 (by decide) (by decide) (by decide) rotl8 (by kernel_rfl) (by kernel_rfl) (by kernel_rfl) (fun _ _ d _ _ h => by cases d <;> exact h) F H (fun a W F H => ?_)
  refine t_normal ?_
  obtain ⟨V30, eV30⟩ : ∃ Z_, Z_ = upd V29 14 (rotr (V29 14 ^^^ V29 3) 8) := ⟨_, rfl⟩
  rw [← eV30] at H
  refine c_seq (by kernel_rfl) ?_
  refine regC (id := 30) hr 435 9 14 (by decide) (by decide) (by decide) (by kernel_rfl) (by kernel_rfl) (by kernel_rfl) (fun _ _ d _ _ h => by cases d <;> exact h) F H (fun a W F H => ?_)
  refine t_normal ?_
  obtain ⟨V31, eV31⟩ : ∃ Z_, Z_ = upd V30 9 (V30 9 + V30 14) := ⟨_, rfl⟩
  rw [← eV31] at H
  refine regB (id := 31) hr 446 4 9 (-7) 7 (by decide) (by decide) (by decide) rotl7 (by kernel_rfl) (by kernel_rfl) (by kernel_rfl) (fun _ _ d _ _ h => by cases d <;> exact h) F H (fun a W F H => ?_)
  obtain ⟨V32, eV32⟩ : ∃ Z_, Z_ = upd V31 4 (rotr (V31 4 ^^^ V31 9) 7) := ⟨_, rfl⟩
  rw [← eV32] at H
  have e := quad_steps 3 4 9 14 (m0 (r 14)) (m0 (r 15)) U2 V25 V26 V27 V28 V29 V30 V31 V32 (by decide) (by decide) (by decide) (by decide) (by decide) (by decide) eV25 eV26 eV27 eV28 eV29 eV30 eV31 eV32
  obtain ⟨U3, eU3⟩ : ∃ Z_, Z_ = V32 := ⟨_, rfl⟩
  rw [← eU3] at H
  have e3_ := eU3.trans e
  clear e eU3 eV25 eV26 eV27 eV28 eV29 eV30 eV31 eV32
  refine p_end Tryd.results124 F ?_
  refine ⟨rfl, ?_⟩
  rw [e3_, e2_, e1_, e0_] at H
  exact H
end Go.Proofs.YtndicjikjcifaaaDoor

/- mix.block. -/
namespace Go.Proofs.YtndicjikjcifaaaDoor
open Go.RowKit Go.Proofs.YtndicjikjcifaaaDoorW.PrintWords Go.Proofs.YtndicjikjcifaaaDoorW.PrintLast
set_option linter.unusedVariables false
set_option linter.unusedSimpArgs false
set_option maxRecDepth 100000
open Bl
set_option maxHeartbeats 2000000 in
theorem block_calls {Ta Tb : TypeId} (p : Nat) (h : Words) (s : ByteArray) (hs : s.toList.length ≤ 64) (t : Int) (last : Bool) (w : World) {Sf Rf : Nat → Prop} (H : St w Sf Rf [Asn.blk p (wsN 8 h) 115, Asn.rb 0 (wsN 8 firstsF) Ta, Asn.rb 1 rowsV Tb] w) :
    Calls Tryd.prog 97 #[.pointer (some ⟨p, 0, none⟩), .string s, .int .i64 t, .bool last] w fun e W => e = .returned (.tuple #[]) ∧ St w Sf Rf [Asn.blk p (wsN 8 (blockF h s.toList t last)) 115, Asn.rb 0 (wsN 8 firstsF) Ta, Asn.rb 1 rowsV Tb] W := by
  have hsz := toList_size s
  refine c_enter2 (args := [.pointer (some ⟨p, 0, none⟩), .string s, .int .i64 t, .bool last]) (S := Sf) (R := Rf) (M := [Asn.blk p (wsN 8 h) 115, Asn.rb 0 (wsN 8 firstsF) Ta, Asn.rb 1 rowsV Tb]) Tryd.func97 (by kernel_rfl) 80 Tryd.ntmps97 (Nat.le_of_ble_eq_true rfl) (H) (fun a W F H => ?_)
  have F := F.less [(0, .pointer (some ⟨p, 0, none⟩)), (1, .string s), (2, .int .i64 t), (3, .bool last)] (subc rfl (subc rfl (subc rfl (subc rfl sub0))))
  refine c_seq (by kernel_rfl) ?_
  refine c_text (id := 0) (by kernel_rfl) [(0, 2)] (by kernel_rfl) ?_
  refine sq_new (o_s 8 (.alloc 154) 0 (by kernel_rfl)) trivial F (by decide) H [.int .u32 0, .int .u32 0, .int .u32 0, .int .u32 0, .int .u32 0, .int .u32 0, .int .u32 0, .int .u32 0, .int .u32 0, .int .u32 0, .int .u32 0, .int .u32 0, .int .u32 0, .int .u32 0, .int .u32 0, .int .u32 0] 154 (x_alloc Tryd.zeroValue154 rfl) ?_
  intro g1 W a hg1 H F
  refine ⟨(fun _ => trivial), ?_⟩
  unfold wpSeq
  have H : St w Sf Rf [Asn.blk p (wsN 8 h) 115, Asn.rb 0 (wsN 8 firstsF) Ta, Asn.rb 1 rowsV Tb, Asn.blk g1 [.int .u32 0, .int .u32 0, .int .u32 0, .int .u32 0, .int .u32 0, .int .u32 0, .int .u32 0, .int .u32 0, .int .u32 0, .int .u32 0, .int .u32 0, .int .u32 0, .int .u32 0, .int .u32 0, .int .u32 0, .int .u32 0] 154] W := H
  refine t_normal ?_
  refine c_seq (by kernel_rfl) ?_
  refine c_seq (by kernel_rfl) ?_
  have H : St w Sf Rf [Asn.blk p (wsN 8 h) 115, Asn.rb 0 (wsN 8 firstsF) Ta, Asn.rb 1 rowsV Tb, Asn.blk g1 (wsN 16 (loadP s.toList 0)) 154] W := H
  refine c_text (id := 1) (by kernel_rfl) [(0, 2), (1, 2), (2, 2)] (by kernel_rfl) ?_
  refine q2 (o_s 14 (.move (.tmp 1)) 9 (by kernel_rfl)) F (by decide) (x_move (F.slot rfl)) (fun a F => ?_)
  refine q2 (o_s 15 (.call { callee := (.builtin .len), args := #[(.tmp 14)], argTypes := #[9] }) 3 (by kernel_rfl)) F (by decide) (v := .int .i64 (s.size : Int)) (x_lenS Tryd.underlying9 (F.slot rfl)) (fun a F => ?_)
  refine q2 (o_s 16 (.move (.const (.int .i64 0))) 3 (by kernel_rfl)) F (by decide) (v := .int .i64 0) (x_move rfl) (fun a F => ?_)
  unfold wpSeq
  refine t_normal ?_
  refine c_block (id := 0) (by kernel_rfl) ?_
  refine c_loop (by kernel_rfl) (fun k a W => ∃ (j : Nat), Fr 80 [(0, .pointer (some ⟨p, 0, none⟩)), (1, .string s), (2, .int .i64 t), (3, .bool last), (8, .pointer (some ⟨g1, 0, none⟩)), (14, .string s), (15, .int .i64 (s.size : Int)), (16, .int .i64 (j : Int))] a ∧ St w Sf Rf [Asn.blk p (wsN 8 h) 115, Asn.rb 0 (wsN 8 firstsF) Ta, Asn.rb 1 rowsV Tb, Asn.blk g1 (wsN 16 (loadP s.toList j)) 154] W ∧ (j ≤ s.toList.length) ∧ (k + j = s.toList.length)) s.toList.length ⟨0, F.less _ (subc rfl (subc rfl (subc rfl (subc rfl (subc rfl (subc rfl (subc rfl (subc rfl sub0)))))))), H, (Nat.zero_le _), rfl⟩ ?_
  rintro k a W ⟨j, F, H, hj, hkj⟩
  refine c_seq (by kernel_rfl) ?_
  refine c_text (id := 2) (by kernel_rfl) [(0, 2)] (by kernel_rfl) ?_
  refine q2 (o_s 17 (.binOp .lss 3 (.tmp 16) (.tmp 15) 3) 4 (by kernel_rfl)) F (by decide) (v := .bool (decide ((j : Int) < (s.size : Int)))) (x_int (F.slot rfl) (F.slot rfl) rfl) (fun a F => ?_)
  unfold wpSeq
  have H : St w Sf Rf [Asn.blk p (wsN 8 h) 115, Asn.rb 0 (wsN 8 firstsF) Ta, Asn.rb 1 rowsV Tb, Asn.blk g1 (wsN 16 (loadP s.toList j)) 154] W := H
  refine t_normal ?_
  refine c_seq (by kernel_rfl) ?_
  rcases bool_or (decide ((j : Int) < (s.size : Int))) with hb2 | hb2
  · have hb2d := of_decide_eq_true hb2
    have F := F.at 17 rfl (v' := .bool true) (congrArg Value.bool hb2)
    refine c_yes (c := .tmp 17) (by kernel_rfl) (F.slot rfl) ?_
    refine c_skip (by kernel_rfl) ?_
    refine t_normal ?_
    refine c_seq (by kernel_rfl) ?_
    refine c_block (id := 1) (by kernel_rfl) ?_
    refine c_seq (by kernel_rfl) ?_
    refine c_text (id := 3) (by kernel_rfl) [(0, 2), (1, 2)] (by kernel_rfl) ?_
    refine q2 (o_s 18 (.move (.tmp 16)) 3 (by kernel_rfl)) F (by decide) (x_move (F.slot rfl)) (fun a F => ?_)
    refine q2 (o_s 9 (.assign (.tmp 18)) 3 (by kernel_rfl)) F (by decide) (v := .int .i64 (j : Int)) (x_assign (F.slot rfl)) (fun a F => ?_)
    unfold wpSeq
    refine t_normal ?_
    refine c_drawn (id := 4) (by kernel_rfl) (by kernel_rfl) (Vs [Asn.blk g1 (wsN 16 (loadP s.toList j)) 154]) [0, 1, 3, 7, 0, 0, 48, 112, 0, 256, 768, 2032, 4095, 8191, 16383] [14] [(0, 0), (1, 0), (2, 0), (4, 0), (5, 0), (6, 0), (7, 0), (8, 0), (9, 0), (10, 0), (11, 0), (3, 1), (12, 0), (13, 0), (14, 2)] (by kernel_rfl) (fun _ _ d _ _ h => by cases d <;> exact h) (Vs.drew ⟨H.get 3 rfl, trivial⟩) ?_
    have H := H.drew
    generalize World.drew W = W at H ⊢
    refine q0 (o_s 19 (.move (.tmp 9)) 3 (by kernel_rfl)) F (by decide) (fun W_ => x_move (F.slot rfl)) (fun a F => ?_)
    refine q0 (o_s 20 (.binOp .quo 3 (.tmp 19) (.const (.int .i64 4)) 3) 3 (by kernel_rfl)) F (by decide) (v := .int .i64 (IntKind.i64.wrap (Int.tdiv (j : Int) 4))) (fun W_ => x_int (F.slot rfl) rfl rfl) (fun a F => ?_)
    have F := F.conv (v' := .int .i64 ((j / 4 : Nat) : Int)) (congrArg (Value.int .i64) (tdiv4 j (by omega)))
    refine q0 (o_s 21 (.indexAddr 154 (.tmp 8) (.tmp 20)) 0 (by kernel_rfl)) F (by decide) (v := .pointer (some ⟨g1, (j / 4), none⟩)) (fun W_ => (x_indexAr Tryd.underlying154 (Tryd.sizeOf113 W_) (F.slot rfl) (F.slot rfl) (Int.natCast_nonneg _) (by have := (show j / 4 < 16 by omega); omega)).trans (by rw [addo]; simp)) (fun a F => ?_)
    refine q0 (o_s 23 (.move (.tmp 1)) 9 (by kernel_rfl)) F (by decide) (fun W_ => x_move (F.slot rfl)) (fun a F => ?_)
    refine q0 (o_s 24 (.move (.tmp 9)) 3 (by kernel_rfl)) F (by decide) (fun W_ => x_move (F.slot rfl)) (fun a F => ?_)
    have hc : s[(j : Int).toNat]? = some (s.toList.getD j 0) := by
      rw [Int.toNat_natCast]; exact str_at s j (by omega)
    refine q0 (o_s 25 (.index 9 (.tmp 23) (.tmp 24)) 5 (by kernel_rfl)) F (by decide) (v := .int .u8 ((s.toList.getD j 0).toNat : Int)) (fun W_ => x_indexStr Tryd.underlying9 (F.slot rfl) (F.slot rfl) (Int.natCast_nonneg _) hc) (fun a F => ?_)
    refine q0 (o_s 26 (.convert 5 113 (.tmp 25)) 113 (by kernel_rfl)) F (by decide) (v := u (by8 s.toList j)) (fun W_ => x_byte32 Tryd.underlying5 Tryd.underlying113 (F.slot rfl)) (fun a F => ?_)
    refine q0 (o_s 27 (.move (.tmp 9)) 3 (by kernel_rfl)) F (by decide) (fun W_ => x_move (F.slot rfl)) (fun a F => ?_)
    refine q0 (o_s 28 (.binOp .rem 3 (.tmp 27) (.const (.int .i64 4)) 3) 3 (by kernel_rfl)) F (by decide) (v := .int .i64 (Int.tmod (j : Int) 4)) (fun W_ => x_int (F.slot rfl) rfl rfl) (fun a F => ?_)
    refine q0 (o_s 29 (.binOp .mul 3 (.const (.int .i64 8)) (.tmp 28) 3) 3 (by kernel_rfl)) F (by decide) (v := .int .i64 (IntKind.i64.wrap (8 * (Int.tmod (j : Int) 4)))) (fun W_ => x_int rfl (F.slot rfl) rfl) (fun a F => ?_)
    have F := F.conv (v' := .int .i64 ((8 * (j % 4) : Nat) : Int)) (congrArg (Value.int .i64) (mul8 j (by omega)))
    refine q0 (o_s 30 (.binOp .shl 113 (.tmp 26) (.tmp 29) 3) 113 (by kernel_rfl)) F (by decide) (v := u ((by8 s.toList j) <<< (8 * (j % 4)))) (fun W_ => x_shl32 (n := (8 * (j % 4))) (by omega) (F.slot rfl) (F.slot rfl)) (fun a F => ?_)
    refine q1 (o_s 22 (.load 113 (.tmp 21)) 113 (by kernel_rfl)) F (by decide) (⟨H.get 3 rfl, trivial⟩) (v := u ((loadP s.toList j) (j / 4))) (fun W_ hV => x_load1 (Tryd.isAgg113 W_) (F.slot rfl) (bcell hV.1 (ws_at (loadP s.toList j) (by have := (show j / 4 < 16 by omega); omega)))) (fun a F => ?_)
    refine q0 (o_s 31 (.binOp .or 113 (.tmp 22) (.tmp 30) 113) 113 (by kernel_rfl)) F (by decide) (v := u (((loadP s.toList j) (j / 4)) ||| ((by8 s.toList j) <<< (8 * (j % 4))))) (fun W_ => x_or32 (F.slot rfl) (F.slot rfl)) (fun a F => ?_)
    refine q0 (o_s 32 (.indexAddr 154 (.tmp 8) (.tmp 20)) 0 (by kernel_rfl)) F (by decide) (v := .pointer (some ⟨g1, (j / 4), none⟩)) (fun W_ => (x_indexAr Tryd.underlying154 (Tryd.sizeOf113 W_) (F.slot rfl) (F.slot rfl) (Int.natCast_nonneg _) (by have := (show j / 4 < 16 by omega); omega)).trans (by rw [addo]; simp)) (fun a F => ?_)
    obtain ⟨w_4, ew_4⟩ : ∃ Z_, Z_ = upd (loadP s.toList j) (j / 4) (((loadP s.toList j) (j / 4)) ||| ((by8 s.toList j) <<< (8 * (j % 4)))) := ⟨_, rfl⟩
    refine sq_put (M := [Asn.blk p (wsN 8 h) 115, Asn.rb 0 (wsN 8 firstsF) Ta, Asn.rb 1 rowsV Tb, Asn.blk g1 (wsN 16 w_4) 154]) (o_n (.store 113 (.tmp 32) (.tmp 31)) 0 (by kernel_rfl)) trivial F (by rw [ew_4, ← ws_upd (loadP s.toList j) (by have := (show j / 4 < 16 by omega); omega) (((loadP s.toList j) (j / 4)) ||| ((by8 s.toList j) <<< (8 * (j % 4))))]; exact x_store1 H (k := 3) rfl (Tryd.sizeOf113 W) (F.slot rfl) (F.slot rfl) rfl rfl (by rw [wsN_len]; exact (by have := (show j / 4 < 16 by omega); omega))) ?_
    intro W H
    refine ⟨(fun h => absurd (by decide) h), ?_⟩
    unfold wpSeq
    refine b_normal ?_
    refine t_normal ?_
    refine c_text (id := 5) (by kernel_rfl) [(0, 2), (1, 2)] (by kernel_rfl) ?_
    refine q2 (o_s 33 (.binOp .add 3 (.tmp 16) (.const (.int .i64 1)) 3) 3 (by kernel_rfl)) F (by decide) (v := .int .i64 (IntKind.i64.wrap ((j : Int) + 1))) (x_int (F.slot rfl) rfl rfl) (fun a F => ?_)
    refine q2 (o_s 16 (.move (.tmp 33)) 3 (by kernel_rfl)) F (by decide) (x_move (F.slot rfl)) (fun a F => ?_)
    unfold wpSeq
    refine t_normal ?_
    have F_ := F
    rw [show w_4 = loadP s.toList (j + 1) from ew_4] at H
    have F := F.at 16 rfl (v' := .int .i64 ((j + 1 : Nat) : Int)) (congrArg (Value.int .i64) ((wrap_i64 _ (by omega) (by omega)).trans (by omega)))
    exact ⟨k - 1, by omega, j + 1, F.less _ (subc rfl (subc rfl (subc rfl (subc rfl (subc rfl (subc rfl (subc rfl (subc rfl sub0)))))))), H, (by omega), (by omega)⟩
  · have hb2d := of_decide_eq_false hb2
    have F := F.at 17 rfl (v' := .bool false) (congrArg Value.bool hb2)
    refine c_no (c := .tmp 17) (by kernel_rfl) (F.slot rfl) ?_
    refine c_exit (id := 0) (by kernel_rfl) ?_
    refine t_exit ?_
    refine t_exit ?_
    refine b_here ?_
    refine t_normal ?_
    refine c_seq (by kernel_rfl) ?_
    obtain rfl : j = s.toList.length := by omega
    rw [loadP_all] at H
    obtain ⟨m0, hm0⟩ : ∃ Z_, Z_ = loadF s.toList := ⟨_, rfl⟩
    rw [← hm0] at H
    have H : St w Sf Rf [Asn.blk p (wsN 8 h) 115, Asn.rb 0 (wsN 8 firstsF) Ta, Asn.rb 1 rowsV Tb, Asn.blk g1 (wsN 16 m0) 154] W := H
    refine c_text (id := 6) (by kernel_rfl) [(0, 2)] (by kernel_rfl) ?_
    refine sq_new (o_s 10 (.alloc 154) 0 (by kernel_rfl)) trivial F (by decide) H [.int .u32 0, .int .u32 0, .int .u32 0, .int .u32 0, .int .u32 0, .int .u32 0, .int .u32 0, .int .u32 0, .int .u32 0, .int .u32 0, .int .u32 0, .int .u32 0, .int .u32 0, .int .u32 0, .int .u32 0, .int .u32 0] 154 (x_alloc Tryd.zeroValue154 rfl) ?_
    intro g5 W a hg5 H F
    refine ⟨(fun _ => trivial), ?_⟩
    unfold wpSeq
    have H : St w Sf Rf [Asn.blk p (wsN 8 h) 115, Asn.rb 0 (wsN 8 firstsF) Ta, Asn.rb 1 rowsV Tb, Asn.blk g1 (wsN 16 m0) 154, Asn.blk g5 [.int .u32 0, .int .u32 0, .int .u32 0, .int .u32 0, .int .u32 0, .int .u32 0, .int .u32 0, .int .u32 0, .int .u32 0, .int .u32 0, .int .u32 0, .int .u32 0, .int .u32 0, .int .u32 0, .int .u32 0, .int .u32 0] 154] W := H
    refine t_normal ?_
    refine c_seq (by kernel_rfl) ?_
    have H : St w Sf Rf [Asn.blk p (wsN 8 h) 115, Asn.rb 0 (wsN 8 firstsF) Ta, Asn.rb 1 rowsV Tb, Asn.blk g1 (wsN 16 m0) 154, Asn.blk g5 (wsN 16 (fun _ => 0)) 154] W := H
    refine c_drawn (id := 7) (by kernel_rfl) (by kernel_rfl) (Vs []) [0, 0, 2, 6, 15] [4] [(0, 0), (1, 0), (2, 0), (3, 0), (4, 2)] (by kernel_rfl) (fun _ _ d _ _ h => by cases d <;> exact h) (trivial) ?_
    have H := H.drew
    generalize World.drew W = W at H ⊢
    refine q0 (o_s 34 (.slice 154 (.tmp 10) none none none) 126 (by kernel_rfl)) F (by decide) (v := .slice (some ⟨g5, 0, none⟩) 16 16) (fun W_ => x_sliceAr Tryd.underlying154 (Tryd.sizeOf113 W_) (F.slot rfl) (by decide)) (fun a F => ?_)
    refine q0 (o_s 35 (.move (.tmp 0)) 153 (by kernel_rfl)) F (by decide) (fun W_ => x_move (F.slot rfl)) (fun a F => ?_)
    refine q0 (o_s 36 (.nilCheck (.tmp 35)) 153 (by kernel_rfl)) F (by decide) (v := .pointer (some ⟨p, 0, none⟩)) (fun W_ => x_nil (F.slot rfl)) (fun a F => ?_)
    refine q0 (o_s 37 (.slice 115 (.tmp 36) none none none) 126 (by kernel_rfl)) F (by decide) (v := .slice (some ⟨p, 0, none⟩) 8 8) (fun W_ => x_sliceAr Tryd.underlying115 (Tryd.sizeOf113 W_) (F.slot rfl) (by decide)) (fun a F => ?_)
    obtain ⟨W1, hr1, H1⟩ := x_copy (P := Tryd.prog) (a := a) (ty := 3) (T := 154) (ad := ⟨p, 0, none⟩) (off := 0) (dn := 16) (dc := 16) (sn := 8) (sc := 8) (src := wsN 8 h) (d := (.tmp 34)) (s := (.tmp 37)) H (k := 4) rfl (dT := 126) (sT := 126) (F.slot rfl) (F.slot rfl) Tryd.underlying126 (Tryd.sizeOf113 W) rfl ((fun j v hj => by rw [addo]; exact (blk_cell (H.blk 0 rfl) _).trans (by simpa using hj))) (by rw [wsN_len, wsN_len]; decide) (ws_one _)
    rw [ws_over (m := 16) (n := 8) (o := 0) (fun _ => 0) h (by decide)] at H1
    refine sq2 (W' := W1) (o_s 38 (.call { callee := (.builtin .copy), args := #[(.tmp 34), (.tmp 37)], argTypes := #[126, 126] }) 3 (by kernel_rfl)) trivial F (by decide) (v := goInt (Nat.min 8 16)) hr1 (fun h => absurd (by decide) h) (fun a F => ?_)
    have H := H1
    clear H1 hr1
    generalize W1 = W at H ⊢
    have H : St w Sf Rf [Asn.blk p (wsN 8 h) 115, Asn.rb 0 (wsN 8 firstsF) Ta, Asn.rb 1 rowsV Tb, Asn.blk g1 (wsN 16 m0) 154, Asn.blk g5 (wsN 16 (over 0 8 (fun _ => 0) h)) 154] W := H
    unfold wpSeq
    refine t_normal ?_
    refine c_seq (by kernel_rfl) ?_
    refine c_drawn (id := 8) (by kernel_rfl) (by kernel_rfl) (Vs []) [0, 0, 3] [2] [(0, 0), (1, 0), (2, 2)] (by kernel_rfl) (fun _ _ d _ _ h => by cases d <;> exact h) (trivial) ?_
    have H := H.drew
    generalize World.drew W = W at H ⊢
    refine q0 (o_s 39 (.slice 154 (.tmp 10) (some (.const (.int .i64 8))) none none) 126 (by kernel_rfl)) F (by decide) (v := .slice (some ⟨g5, 8, none⟩) 8 8) (fun W_ => (x_sliceArLo (i := 8) Tryd.underlying154 (Tryd.sizeOf113 W_) (F.slot rfl) rfl (by decide)).trans (by rw [addo])) (fun a F => ?_)
    refine q0 (o_s 40 (.slice 115 (.global 0) none none none) 126 (by kernel_rfl)) F (by decide) (v := .slice (some ⟨0, 0, none⟩) 8 8) (fun W_ => x_sliceAr Tryd.underlying115 (Tryd.sizeOf113 W_) rfl (by decide)) (fun a F => ?_)
    obtain ⟨W1, hr1, H1⟩ := x_copy (P := Tryd.prog) (a := a) (ty := 3) (T := 154) (ad := ⟨0, 0, none⟩) (off := 8) (dn := 8) (dc := 8) (sn := 8) (sc := 8) (src := wsN 8 firstsF) (d := (.tmp 39)) (s := (.tmp 40)) H (k := 4) rfl (dT := 126) (sT := 126) (F.slot rfl) (F.slot rfl) Tryd.underlying126 (Tryd.sizeOf113 W) rfl ((fun j v hj => by rw [addo]; exact (blk_cell (H.rd 1 rfl) _).trans (by simpa using hj))) (by rw [wsN_len, wsN_len]; decide) (ws_one _)
    rw [ws_over (m := 16) (n := 8) (o := 8) (over 0 8 (fun _ => 0) h) firstsF (by decide)] at H1
    refine sq2 (W' := W1) (o_s 41 (.call { callee := (.builtin .copy), args := #[(.tmp 39), (.tmp 40)], argTypes := #[126, 126] }) 3 (by kernel_rfl)) trivial F (by decide) (v := goInt (Nat.min 8 8)) hr1 (fun h => absurd (by decide) h) (fun a F => ?_)
    have H := H1
    clear H1 hr1
    generalize W1 = W at H ⊢
    have H : St w Sf Rf [Asn.blk p (wsN 8 h) 115, Asn.rb 0 (wsN 8 firstsF) Ta, Asn.rb 1 rowsV Tb, Asn.blk g1 (wsN 16 m0) 154, Asn.blk g5 (wsN 16 (over 8 8 (over 0 8 (fun _ => 0) h) firstsF)) 154] W := H
    unfold wpSeq
    refine t_normal ?_
    refine c_seq (by kernel_rfl) ?_
    refine c_text (id := 9) (by kernel_rfl) [(0, 2), (1, 2), (2, 2), (3, 2), (4, 2), (5, 2), (6, 2)] (by kernel_rfl) ?_
    refine q2 (o_s 42 (.indexAddr 154 (.tmp 10) (.const (.int .i64 12))) 0 (by kernel_rfl)) F (by decide) (v := .pointer (some ⟨g5, 12, none⟩)) (x_ixc Tryd.underlying154 (Tryd.sizeOf113 W) (F.slot rfl) rfl (by decide)) (fun a F => ?_)
    refine q2 (o_s 43 (.load 113 (.tmp 42)) 113 (by kernel_rfl)) F (by decide) (v := u ((over 8 8 (over 0 8 (fun _ => 0) h) firstsF) 12)) (x_load1 (Tryd.isAgg113 W) (F.slot rfl) (H.cell 4 rfl (ws_at (over 8 8 (over 0 8 (fun _ => 0) h) firstsF) (by decide)))) (fun a F => ?_)
    refine q2 (o_s 44 (.move (.tmp 2)) 3 (by kernel_rfl)) F (by decide) (x_move (F.slot rfl)) (fun a F => ?_)
    refine q2 (o_s 45 (.convert 3 113 (.tmp 44)) 113 (by kernel_rfl)) F (by decide) (v := u (BitVec.ofInt 32 t)) (x_toU32 Tryd.underlying3 Tryd.underlying113 (F.slot rfl)) (fun a F => ?_)
    refine q2 (o_s 46 (.binOp .xor 113 (.tmp 43) (.tmp 45) 113) 113 (by kernel_rfl)) F (by decide) (v := u (((over 8 8 (over 0 8 (fun _ => 0) h) firstsF) 12) ^^^ (BitVec.ofInt 32 t))) (x_xor32 (F.slot rfl) (F.slot rfl)) (fun a F => ?_)
    refine q2 (o_s 47 (.indexAddr 154 (.tmp 10) (.const (.int .i64 12))) 0 (by kernel_rfl)) F (by decide) (v := .pointer (some ⟨g5, 12, none⟩)) (x_ixc Tryd.underlying154 (Tryd.sizeOf113 W) (F.slot rfl) rfl (by decide)) (fun a F => ?_)
    obtain ⟨w_8, ew_8⟩ : ∃ Z_, Z_ = upd (over 8 8 (over 0 8 (fun _ => 0) h) firstsF) 12 (((over 8 8 (over 0 8 (fun _ => 0) h) firstsF) 12) ^^^ (BitVec.ofInt 32 t)) := ⟨_, rfl⟩
    refine sq_put (M := [Asn.blk p (wsN 8 h) 115, Asn.rb 0 (wsN 8 firstsF) Ta, Asn.rb 1 rowsV Tb, Asn.blk g1 (wsN 16 m0) 154, Asn.blk g5 (wsN 16 w_8) 154]) (o_n (.store 113 (.tmp 47) (.tmp 46)) 0 (by kernel_rfl)) trivial F (by rw [ew_8, ← ws_upd (over 8 8 (over 0 8 (fun _ => 0) h) firstsF) (by decide) (((over 8 8 (over 0 8 (fun _ => 0) h) firstsF) 12) ^^^ (BitVec.ofInt 32 t))]; exact x_store1 H (k := 4) rfl (Tryd.sizeOf113 W) (F.slot rfl) (F.slot rfl) rfl rfl (by rw [wsN_len]; exact (by decide))) ?_
    intro W H
    refine ⟨(fun _ => trivial), ?_⟩
    unfold wpSeq
    refine t_normal ?_
    refine c_seq (by kernel_rfl) ?_
    refine c_seq (by kernel_rfl) ?_
    refine c_text (id := 10) (by kernel_rfl) [(0, 2)] (by kernel_rfl) ?_
    refine q2 (o_s 48 (.move (.tmp 3)) 4 (by kernel_rfl)) F (by decide) (x_move (F.slot rfl)) (fun a F => ?_)
    unfold wpSeq
    refine t_normal ?_
    rcases bool_or last with hb9 | hb9
    · have F := F.at 48 rfl (v' := .bool true) (congrArg Value.bool hb9)
      refine c_yes (c := .tmp 48) (by kernel_rfl) (F.slot rfl) ?_
      refine c_text (id := 11) (by kernel_rfl) [(0, 2), (1, 2), (2, 2), (3, 2), (4, 2)] (by kernel_rfl) ?_
      refine q2 (o_s 49 (.indexAddr 154 (.tmp 10) (.const (.int .i64 14))) 0 (by kernel_rfl)) F (by decide) (v := .pointer (some ⟨g5, 14, none⟩)) (x_ixc Tryd.underlying154 (Tryd.sizeOf113 W) (F.slot rfl) rfl (by decide)) (fun a F => ?_)
      refine q2 (o_s 50 (.load 113 (.tmp 49)) 113 (by kernel_rfl)) F (by decide) (v := u (w_8 14)) (x_load1 (Tryd.isAgg113 W) (F.slot rfl) (H.cell 4 rfl (ws_at w_8 (by decide)))) (fun a F => ?_)
      refine q2 (o_s 51 (.unOp .xor 113 (.tmp 50)) 113 (by kernel_rfl)) F (by decide) (v := u (~~~(w_8 14))) (x_not32 (F.slot rfl)) (fun a F => ?_)
      refine q2 (o_s 52 (.indexAddr 154 (.tmp 10) (.const (.int .i64 14))) 0 (by kernel_rfl)) F (by decide) (v := .pointer (some ⟨g5, 14, none⟩)) (x_ixc Tryd.underlying154 (Tryd.sizeOf113 W) (F.slot rfl) rfl (by decide)) (fun a F => ?_)
      obtain ⟨w_10, ew_10⟩ : ∃ Z_, Z_ = upd w_8 14 (~~~(w_8 14)) := ⟨_, rfl⟩
      refine sq_put (M := [Asn.blk p (wsN 8 h) 115, Asn.rb 0 (wsN 8 firstsF) Ta, Asn.rb 1 rowsV Tb, Asn.blk g1 (wsN 16 m0) 154, Asn.blk g5 (wsN 16 w_10) 154]) (o_n (.store 113 (.tmp 52) (.tmp 51)) 0 (by kernel_rfl)) trivial F (by rw [ew_10, ← ws_upd w_8 (by decide) (~~~(w_8 14))]; exact x_store1 H (k := 4) rfl (Tryd.sizeOf113 W) (F.slot rfl) (F.slot rfl) rfl rfl (by rw [wsN_len]; exact (by decide))) ?_
      intro W H
      refine ⟨(fun _ => trivial), ?_⟩
      unfold wpSeq
      refine t_normal ?_
      refine c_seq (by kernel_rfl) ?_
      refine c_seq (by kernel_rfl) ?_
      have hS : wsN 16 w_10 = wsN 16 (startF h (BitVec.ofInt 32 t) last) := wsN_congr (fun j hj => by have := start_eq h (BitVec.ofInt 32 t) last j hj; rw [hb9, if_pos rfl, ← ew_8, ← ew_10] at this; rw [hb9]; exact this)
      obtain ⟨S0, hS0⟩ : ∃ Z_, Z_ = startF h (BitVec.ofInt 32 t) last := ⟨_, rfl⟩
      rw [hS, ← hS0] at H
      have H : St w Sf Rf [Asn.blk p (wsN 8 h) 115, Asn.rb 0 (wsN 8 firstsF) Ta, Asn.rb 1 rowsV Tb, Asn.blk g1 (wsN 16 m0) 154, Asn.blk g5 (wsN 16 (rounds m0 0 S0)) 154] W := H
      refine c_text (id := 12) (by kernel_rfl) [(0, 2), (1, 2)] (by kernel_rfl) ?_
      have hT : W.heap[1]? = some (.cells rowsV.toArray Tb (0, 0)) := H.rd 2 rfl
      refine q2 (o_s 53 (.load 156 (.global 1)) 156 (by kernel_rfl)) F (by decide) (v := .agg rowsV.toArray) (x_loadB (Tryd.isAgg156 W) rowsV (by rw [rowsV_len]; exact Tryd.sizeOf156 W) rfl hT) (fun a F => ?_)
      refine q2 (o_s 54 (.move (.const (.int .i64 0))) 3 (by kernel_rfl)) F (by decide) (v := .int .i64 0) (x_move rfl) (fun a F => ?_)
      unfold wpSeq
      refine t_normal ?_
      refine c_block (id := 2) (by kernel_rfl) ?_
      refine c_loop (by kernel_rfl) (fun k a W => ∃ (n : Nat), Fr 80 [(0, .pointer (some ⟨p, 0, none⟩)), (1, .string s), (2, .int .i64 t), (3, .bool last), (8, .pointer (some ⟨g1, 0, none⟩)), (14, .string s), (15, .int .i64 (s.size : Int)), (16, .int .i64 (s.toList.length : Int)), (17, .bool false), (10, .pointer (some ⟨g5, 0, none⟩)), (34, .slice (some ⟨g5, 0, none⟩) 16 16), (35, .pointer (some ⟨p, 0, none⟩)), (36, .pointer (some ⟨p, 0, none⟩)), (37, .slice (some ⟨p, 0, none⟩) 8 8), (39, .slice (some ⟨g5, 8, none⟩) 8 8), (40, .slice (some ⟨0, 0, none⟩) 8 8), (42, .pointer (some ⟨g5, 12, none⟩)), (43, u ((over 8 8 (over 0 8 (fun _ => 0) h) firstsF) 12)), (44, .int .i64 t), (45, u (BitVec.ofInt 32 t)), (46, u (((over 8 8 (over 0 8 (fun _ => 0) h) firstsF) 12) ^^^ (BitVec.ofInt 32 t))), (47, .pointer (some ⟨g5, 12, none⟩)), (48, .bool true), (49, .pointer (some ⟨g5, 14, none⟩)), (50, u (w_8 14)), (51, u (~~~(w_8 14))), (52, .pointer (some ⟨g5, 14, none⟩)), (53, .agg rowsV.toArray), (54, .int .i64 (n : Int))] a ∧ St w Sf Rf [Asn.blk p (wsN 8 h) 115, Asn.rb 0 (wsN 8 firstsF) Ta, Asn.rb 1 rowsV Tb, Asn.blk g1 (wsN 16 m0) 154, Asn.blk g5 (wsN 16 (rounds m0 n S0)) 154] W ∧ (n ≤ 10) ∧ (k + n = 10)) 10 ⟨0, F.less _ (subc rfl (subc rfl (subc rfl (subc rfl (subc rfl (subc rfl (subc rfl (subc rfl (subc rfl (subc rfl (subc rfl (subc rfl (subc rfl (subc rfl (subc rfl (subc rfl (subc rfl (subc rfl (subc rfl (subc rfl (subc rfl (subc rfl (subc rfl (subc rfl (subc rfl (subc rfl (subc rfl (subc rfl (subc rfl sub0))))))))))))))))))))))))))))), H, (by decide), rfl⟩ ?_
      rintro k a W ⟨n, F, H, hn, hkn⟩
      refine c_seq (by kernel_rfl) ?_
      refine c_text (id := 13) (by kernel_rfl) [(0, 2)] (by kernel_rfl) ?_
      refine q2 (o_s 55 (.binOp .lss 3 (.tmp 54) (.const (.int .i64 10)) 3) 0 (by kernel_rfl)) F (by decide) (v := .bool (decide ((n : Int) < (10 : Int)))) (x_int (F.slot rfl) rfl rfl) (fun a F => ?_)
      unfold wpSeq
      have H : St w Sf Rf [Asn.blk p (wsN 8 h) 115, Asn.rb 0 (wsN 8 firstsF) Ta, Asn.rb 1 rowsV Tb, Asn.blk g1 (wsN 16 m0) 154, Asn.blk g5 (wsN 16 (rounds m0 n S0)) 154] W := H
      refine t_normal ?_
      refine c_seq (by kernel_rfl) ?_
      rcases bool_or (decide ((n : Int) < (10 : Int))) with hb11 | hb11
      · have hb11d := of_decide_eq_true hb11
        have F := F.at 55 rfl (v' := .bool true) (congrArg Value.bool hb11)
        refine c_yes (c := .tmp 55) (by kernel_rfl) (F.slot rfl) ?_
        refine c_skip (by kernel_rfl) ?_
        refine t_normal ?_
        refine c_seq (by kernel_rfl) ?_
        refine c_block (id := 3) (by kernel_rfl) ?_
        refine c_seq (by kernel_rfl) ?_
        refine c_text (id := 14) (by kernel_rfl) [(0, 2), (1, 2), (2, 2)] (by kernel_rfl) ?_
        refine q2 (o_s 56 (.index 156 (.tmp 53) (.tmp 54)) 155 (by kernel_rfl)) F (by decide) (v := .agg (rs (rowF n)).toArray) (x_row Tryd.underlying156 (Tryd.sizeOf155 W) (Tryd.isAgg155 W) (F.slot rfl) (F.slot rfl) (by omega) (rowsV_at n (by omega)) (by rw [rowsV_len]; omega)) (fun a F => ?_)
        refine sq_new (o_s 12 (.alloc 155) 0 (by kernel_rfl)) trivial F (by decide) H [.int .i64 0, .int .i64 0, .int .i64 0, .int .i64 0, .int .i64 0, .int .i64 0, .int .i64 0, .int .i64 0, .int .i64 0, .int .i64 0, .int .i64 0, .int .i64 0, .int .i64 0, .int .i64 0, .int .i64 0, .int .i64 0] 155 (x_alloc Tryd.zeroValue155 rfl) ?_
        intro g12 W a hg12 H F
        refine ⟨(fun _ => trivial), ?_⟩
        refine sq_put (M := [Asn.blk p (wsN 8 h) 115, Asn.rb 0 (wsN 8 firstsF) Ta, Asn.rb 1 rowsV Tb, Asn.blk g1 (wsN 16 m0) 154, Asn.blk g5 (wsN 16 (rounds m0 n S0)) 154, Asn.blk g12 (rs (rowF n)) 155]) (o_n (.store 155 (.tmp 12) (.tmp 56)) 0 (by kernel_rfl)) trivial F (x_storeAll H (k := 5) rfl (Tryd.sizeOf155 W) (F.slot rfl) (F.slot rfl) (rs_len _) rfl (rs_one _)) ?_
        intro W H
        refine ⟨(fun _ => trivial), ?_⟩
        unfold wpSeq
        refine t_normal ?_
        refine c_seq (by kernel_rfl) ?_
        obtain ⟨V1, hV1⟩ : ∃ Z_, Z_ = rounds m0 n S0 := ⟨_, rfl⟩
        rw [← hV1] at H
        have H : St w Sf Rf [Asn.blk p (wsN 8 h) 115, Asn.rb 0 (wsN 8 firstsF) Ta, Asn.rb 1 rowsV Tb, Asn.blk g1 (wsN 16 m0) 154, Asn.blk g5 (wsN 16 V1) 154, Asn.blk g12 (rs (rowF n)) 155] W := H
        refine c_text (id := 15) (by kernel_rfl) [(0, 2)] (by kernel_rfl) ?_
        have HS := H.select [4, 3, 5] [Asn.blk g5 (wsN 16 V1) 154, Asn.blk g1 (wsN 16 m0) 154, Asn.blk g12 (rs (rowF n)) 155] rfl (by decide)
        refine sqc (o_s 57 (.call { callee := (.value (.func 123)), args := #[(.tmp 10), (.tmp 8), (.tmp 12)], argTypes := #[158, 158, 159] }) 0 (by kernel_rfl)) trivial F (by decide) (x_call Tryd.func123 (by kernel_rfl) rfl (args_3 (F.slot rfl) (F.slot rfl) (F.slot rfl))) (cols_calls g5 g1 g12 V1 m0 (rowF n) (rowF_lt n) W HS) ?_
        rintro e W ⟨rfl, H1⟩
        refine ⟨_, rfl, fun a F => ?_⟩
        have H := H.back [4, 3, 5] [Asn.blk g5 (wsN 16 V1) 154, Asn.blk g1 (wsN 16 m0) 154, Asn.blk g12 (rs (rowF n)) 155] rfl (by decide) [Asn.blk g5 (wsN 16 (colsF m0 (rowF n) V1)) 154, Asn.blk g1 (wsN 16 m0) 154, Asn.blk g12 (rs (rowF n)) 155] [] rfl H1
        clear HS
        have H : St w Sf Rf [Asn.blk p (wsN 8 h) 115, Asn.rb 0 (wsN 8 firstsF) Ta, Asn.rb 1 rowsV Tb, Asn.blk g1 (wsN 16 m0) 154, Asn.blk g5 (wsN 16 (colsF m0 (rowF n) V1)) 154, Asn.blk g12 (rs (rowF n)) 155] W := H
        refine ⟨(fun _ => trivial), ?_⟩
        unfold wpSeq
        refine t_normal ?_
        obtain ⟨V2, hV2⟩ : ∃ Z_, Z_ = colsF m0 (rowF n) V1 := ⟨_, rfl⟩
        rw [← hV2] at H
        have H : St w Sf Rf [Asn.blk p (wsN 8 h) 115, Asn.rb 0 (wsN 8 firstsF) Ta, Asn.rb 1 rowsV Tb, Asn.blk g1 (wsN 16 m0) 154, Asn.blk g5 (wsN 16 V2) 154, Asn.blk g12 (rs (rowF n)) 155] W := H
        refine c_text (id := 16) (by kernel_rfl) [(0, 2)] (by kernel_rfl) ?_
        have HS := H.select [4, 3, 5] [Asn.blk g5 (wsN 16 V2) 154, Asn.blk g1 (wsN 16 m0) 154, Asn.blk g12 (rs (rowF n)) 155] rfl (by decide)
        refine sqc (o_s 58 (.call { callee := (.value (.func 124)), args := #[(.tmp 10), (.tmp 8), (.tmp 12)], argTypes := #[158, 158, 159] }) 0 (by kernel_rfl)) trivial F (by decide) (x_call Tryd.func124 (by kernel_rfl) rfl (args_3 (F.slot rfl) (F.slot rfl) (F.slot rfl))) (diags_calls g5 g1 g12 V2 m0 (rowF n) (rowF_lt n) W HS) ?_
        rintro e W ⟨rfl, H1⟩
        refine ⟨_, rfl, fun a F => ?_⟩
        have H := H.back [4, 3, 5] [Asn.blk g5 (wsN 16 V2) 154, Asn.blk g1 (wsN 16 m0) 154, Asn.blk g12 (rs (rowF n)) 155] rfl (by decide) [Asn.blk g5 (wsN 16 (diagsF m0 (rowF n) V2)) 154, Asn.blk g1 (wsN 16 m0) 154, Asn.blk g12 (rs (rowF n)) 155] [] rfl H1
        clear HS
        have H : St w Sf Rf [Asn.blk p (wsN 8 h) 115, Asn.rb 0 (wsN 8 firstsF) Ta, Asn.rb 1 rowsV Tb, Asn.blk g1 (wsN 16 m0) 154, Asn.blk g5 (wsN 16 (diagsF m0 (rowF n) V2)) 154, Asn.blk g12 (rs (rowF n)) 155] W := H
        refine ⟨(fun _ => trivial), ?_⟩
        unfold wpSeq
        refine b_normal ?_
        refine t_normal ?_
        refine c_text (id := 17) (by kernel_rfl) [(0, 2), (1, 2)] (by kernel_rfl) ?_
        refine q2 (o_s 59 (.binOp .add 3 (.tmp 54) (.const (.int .i64 1)) 3) 3 (by kernel_rfl)) F (by decide) (v := .int .i64 (IntKind.i64.wrap ((n : Int) + 1))) (x_int (F.slot rfl) rfl rfl) (fun a F => ?_)
        refine q2 (o_s 54 (.move (.tmp 59)) 3 (by kernel_rfl)) F (by decide) (x_move (F.slot rfl)) (fun a F => ?_)
        unfold wpSeq
        refine t_normal ?_
        have F_ := F
        rw [show diagsF m0 (rowF n) V2 = rounds m0 (n + 1) S0 from by rw [hV2, hV1]; rfl] at H
        have H := H.front 5
        have F := F.at 54 rfl (v' := .int .i64 ((n + 1 : Nat) : Int)) (congrArg (Value.int .i64) ((wrap_i64 _ (by omega) (by omega)).trans (by omega)))
        exact ⟨k - 1, by omega, n + 1, F.less _ (subc rfl (subc rfl (subc rfl (subc rfl (subc rfl (subc rfl (subc rfl (subc rfl (subc rfl (subc rfl (subc rfl (subc rfl (subc rfl (subc rfl (subc rfl (subc rfl (subc rfl (subc rfl (subc rfl (subc rfl (subc rfl (subc rfl (subc rfl (subc rfl (subc rfl (subc rfl (subc rfl (subc rfl (subc rfl sub0))))))))))))))))))))))))))))), H, (by omega), (by omega)⟩
      · have hb11d := of_decide_eq_false hb11
        have F := F.at 55 rfl (v' := .bool false) (congrArg Value.bool hb11)
        refine c_no (c := .tmp 55) (by kernel_rfl) (F.slot rfl) ?_
        refine c_exit (id := 2) (by kernel_rfl) ?_
        refine t_exit ?_
        refine t_exit ?_
        refine b_here ?_
        refine t_normal ?_
        refine c_seq (by kernel_rfl) ?_
        obtain rfl : n = 10 := by omega
        obtain ⟨V0, hV0⟩ : ∃ Z_, Z_ = rounds m0 10 S0 := ⟨_, rfl⟩
        rw [← hV0] at H
        have hx0 : wsN 8 h = wsN 8 (xorP h V0 0) := by congr 1
        rw [hx0] at H
        have H : St w Sf Rf [Asn.blk p (wsN 8 (xorP h V0 0)) 115, Asn.rb 0 (wsN 8 firstsF) Ta, Asn.rb 1 rowsV Tb, Asn.blk g1 (wsN 16 m0) 154, Asn.blk g5 (wsN 16 V0) 154] W := H
        refine c_text (id := 18) (by kernel_rfl) [(0, 2)] (by kernel_rfl) ?_
        refine q2 (o_s 60 (.move (.const (.int .i64 0))) 3 (by kernel_rfl)) F (by decide) (v := .int .i64 0) (x_move rfl) (fun a F => ?_)
        unfold wpSeq
        refine t_normal ?_
        refine c_block (id := 4) (by kernel_rfl) ?_
        refine c_loop (by kernel_rfl) (fun k a W => ∃ (n : Nat), Fr 80 [(0, .pointer (some ⟨p, 0, none⟩)), (1, .string s), (2, .int .i64 t), (3, .bool last), (8, .pointer (some ⟨g1, 0, none⟩)), (14, .string s), (15, .int .i64 (s.size : Int)), (16, .int .i64 (s.toList.length : Int)), (17, .bool false), (10, .pointer (some ⟨g5, 0, none⟩)), (34, .slice (some ⟨g5, 0, none⟩) 16 16), (35, .pointer (some ⟨p, 0, none⟩)), (36, .pointer (some ⟨p, 0, none⟩)), (37, .slice (some ⟨p, 0, none⟩) 8 8), (39, .slice (some ⟨g5, 8, none⟩) 8 8), (40, .slice (some ⟨0, 0, none⟩) 8 8), (42, .pointer (some ⟨g5, 12, none⟩)), (43, u ((over 8 8 (over 0 8 (fun _ => 0) h) firstsF) 12)), (44, .int .i64 t), (45, u (BitVec.ofInt 32 t)), (46, u (((over 8 8 (over 0 8 (fun _ => 0) h) firstsF) 12) ^^^ (BitVec.ofInt 32 t))), (47, .pointer (some ⟨g5, 12, none⟩)), (48, .bool true), (49, .pointer (some ⟨g5, 14, none⟩)), (50, u (w_8 14)), (51, u (~~~(w_8 14))), (52, .pointer (some ⟨g5, 14, none⟩)), (53, .agg rowsV.toArray), (54, .int .i64 (10 : Int)), (55, .bool false), (60, .int .i64 (n : Int))] a ∧ St w Sf Rf [Asn.blk p (wsN 8 (xorP h V0 n)) 115, Asn.rb 0 (wsN 8 firstsF) Ta, Asn.rb 1 rowsV Tb, Asn.blk g1 (wsN 16 m0) 154, Asn.blk g5 (wsN 16 V0) 154] W ∧ (n ≤ 8) ∧ (k + n = 8)) 8 ⟨0, F.less _ (subc rfl (subc rfl (subc rfl (subc rfl (subc rfl (subc rfl (subc rfl (subc rfl (subc rfl (subc rfl (subc rfl (subc rfl (subc rfl (subc rfl (subc rfl (subc rfl (subc rfl (subc rfl (subc rfl (subc rfl (subc rfl (subc rfl (subc rfl (subc rfl (subc rfl (subc rfl (subc rfl (subc rfl (subc rfl (subc rfl (subc rfl sub0))))))))))))))))))))))))))))))), H, (by decide), rfl⟩ ?_
        rintro k a W ⟨n, F, H, hn, hkn⟩
        refine c_seq (by kernel_rfl) ?_
        refine c_text (id := 19) (by kernel_rfl) [(0, 2)] (by kernel_rfl) ?_
        refine q2 (o_s 61 (.binOp .lss 3 (.tmp 60) (.const (.int .i64 8)) 3) 0 (by kernel_rfl)) F (by decide) (v := .bool (decide ((n : Int) < (8 : Int)))) (x_int (F.slot rfl) rfl rfl) (fun a F => ?_)
        unfold wpSeq
        have H : St w Sf Rf [Asn.blk p (wsN 8 (xorP h V0 n)) 115, Asn.rb 0 (wsN 8 firstsF) Ta, Asn.rb 1 rowsV Tb, Asn.blk g1 (wsN 16 m0) 154, Asn.blk g5 (wsN 16 V0) 154] W := H
        refine t_normal ?_
        refine c_seq (by kernel_rfl) ?_
        rcases bool_or (decide ((n : Int) < (8 : Int))) with hb13 | hb13
        · have hb13d := of_decide_eq_true hb13
          have F := F.at 61 rfl (v' := .bool true) (congrArg Value.bool hb13)
          refine c_yes (c := .tmp 61) (by kernel_rfl) (F.slot rfl) ?_
          refine c_skip (by kernel_rfl) ?_
          refine t_normal ?_
          refine c_seq (by kernel_rfl) ?_
          refine c_block (id := 5) (by kernel_rfl) ?_
          refine c_seq (by kernel_rfl) ?_
          refine c_text (id := 20) (by kernel_rfl) [(0, 2), (1, 2)] (by kernel_rfl) ?_
          refine q2 (o_s 62 (.move (.tmp 60)) 3 (by kernel_rfl)) F (by decide) (x_move (F.slot rfl)) (fun a F => ?_)
          refine q2 (o_s 13 (.assign (.tmp 62)) 3 (by kernel_rfl)) F (by decide) (v := .int .i64 (n : Int)) (x_assign (F.slot rfl)) (fun a F => ?_)
          unfold wpSeq
          refine t_normal ?_
          have hn8 : n < 8 := by omega
          refine c_drawn (id := 21) (by kernel_rfl) (by kernel_rfl) (Vs [Asn.blk p (wsN 8 (xorP h V0 n)) 115, Asn.blk g5 (wsN 16 V0) 154]) [0, 0, 1, 7, 15, 0, 32, 96, 0, 256, 768, 1792, 4064, 8191, 1, 32767, 65535] [16] [(0, 0), (1, 0), (2, 0), (3, 0), (5, 0), (6, 0), (8, 0), (9, 0), (10, 0), (14, 0), (4, 1), (7, 1), (11, 1), (12, 0), (13, 0), (15, 0), (16, 2)] (by kernel_rfl) (fun _ _ d _ _ h => by cases d <;> exact h) (Vs.drew ⟨H.get 0 rfl, H.get 4 rfl, trivial⟩) ?_
          have H := H.drew
          generalize World.drew W = W at H ⊢
          refine q0 (o_s 63 (.move (.tmp 0)) 153 (by kernel_rfl)) F (by decide) (fun W_ => x_move (F.slot rfl)) (fun a F => ?_)
          refine q0 (o_s 64 (.move (.tmp 13)) 3 (by kernel_rfl)) F (by decide) (fun W_ => x_move (F.slot rfl)) (fun a F => ?_)
          refine q0 (o_s 65 (.nilCheck (.tmp 63)) 0 (by kernel_rfl)) F (by decide) (v := .pointer (some ⟨p, 0, none⟩)) (fun W_ => x_nil (F.slot rfl)) (fun a F => ?_)
          refine q0 (o_s 66 (.indexAddr 115 (.tmp 65) (.tmp 64)) 0 (by kernel_rfl)) F (by decide) (v := .pointer (some ⟨p, n, none⟩)) (fun W_ => (x_indexAr Tryd.underlying115 (Tryd.sizeOf113 W_) (F.slot rfl) (F.slot rfl) (Int.natCast_nonneg _) (by have := (show n < 8 by omega); omega)).trans (by rw [addo]; simp)) (fun a F => ?_)
          refine q0 (o_s 68 (.move (.tmp 13)) 3 (by kernel_rfl)) F (by decide) (fun W_ => x_move (F.slot rfl)) (fun a F => ?_)
          refine q0 (o_s 69 (.indexAddr 154 (.tmp 10) (.tmp 68)) 0 (by kernel_rfl)) F (by decide) (v := .pointer (some ⟨g5, n, none⟩)) (fun W_ => (x_indexAr Tryd.underlying154 (Tryd.sizeOf113 W_) (F.slot rfl) (F.slot rfl) (Int.natCast_nonneg _) (by have := (show n < 8 by omega); omega)).trans (by rw [addo]; simp)) (fun a F => ?_)
          refine q0 (o_s 71 (.move (.tmp 13)) 3 (by kernel_rfl)) F (by decide) (fun W_ => x_move (F.slot rfl)) (fun a F => ?_)
          refine q0 (o_s 72 (.binOp .add 3 (.tmp 71) (.const (.int .i64 8)) 3) 3 (by kernel_rfl)) F (by decide) (v := .int .i64 (IntKind.i64.wrap ((n : Int) + 8))) (fun W_ => x_int (F.slot rfl) rfl rfl) (fun a F => ?_)
          have F := F.conv (v' := .int .i64 ((n + 8 : Nat) : Int)) (congrArg (Value.int .i64) ((wrap_i64 _ (by omega) (by omega)).trans (by omega)))
          refine q0 (o_s 73 (.indexAddr 154 (.tmp 10) (.tmp 72)) 0 (by kernel_rfl)) F (by decide) (v := .pointer (some ⟨g5, (n + 8), none⟩)) (fun W_ => (x_indexAr Tryd.underlying154 (Tryd.sizeOf113 W_) (F.slot rfl) (F.slot rfl) (Int.natCast_nonneg _) (by have := (show n + 8 < 16 by omega); omega)).trans (by rw [addo]; simp)) (fun a F => ?_)
          refine q0 (o_s 77 (.nilCheck (.tmp 63)) 0 (by kernel_rfl)) F (by decide) (v := .pointer (some ⟨p, 0, none⟩)) (fun W_ => x_nil (F.slot rfl)) (fun a F => ?_)
          refine q1 (o_s 67 (.load 113 (.tmp 66)) 113 (by kernel_rfl)) F (by decide) (⟨H.get 0 rfl, H.get 4 rfl, trivial⟩) (v := u ((xorP h V0 n) n)) (fun W_ hV => x_load1 (Tryd.isAgg113 W_) (F.slot rfl) (bcell hV.1 (ws_at (xorP h V0 n) (by have := (show n < 8 by omega); omega)))) (fun a F => ?_)
          refine q1 (o_s 70 (.load 113 (.tmp 69)) 113 (by kernel_rfl)) F (by decide) (⟨H.get 0 rfl, H.get 4 rfl, trivial⟩) (v := u (V0 n)) (fun W_ hV => x_load1 (Tryd.isAgg113 W_) (F.slot rfl) (bcell hV.2.1 (ws_at V0 (by have := (show n < 8 by omega); omega)))) (fun a F => ?_)
          refine q1 (o_s 74 (.load 113 (.tmp 73)) 113 (by kernel_rfl)) F (by decide) (⟨H.get 0 rfl, H.get 4 rfl, trivial⟩) (v := u (V0 (n + 8))) (fun W_ hV => x_load1 (Tryd.isAgg113 W_) (F.slot rfl) (bcell hV.2.1 (ws_at V0 (by have := (show n + 8 < 16 by omega); omega)))) (fun a F => ?_)
          refine q0 (o_s 75 (.binOp .xor 113 (.tmp 70) (.tmp 74) 113) 113 (by kernel_rfl)) F (by decide) (v := u ((V0 n) ^^^ (V0 (n + 8)))) (fun W_ => x_xor32 (F.slot rfl) (F.slot rfl)) (fun a F => ?_)
          refine q0 (o_s 76 (.binOp .xor 113 (.tmp 67) (.tmp 75) 113) 113 (by kernel_rfl)) F (by decide) (v := u (((xorP h V0 n) n) ^^^ ((V0 n) ^^^ (V0 (n + 8))))) (fun W_ => x_xor32 (F.slot rfl) (F.slot rfl)) (fun a F => ?_)
          refine q0 (o_s 78 (.indexAddr 115 (.tmp 77) (.tmp 64)) 0 (by kernel_rfl)) F (by decide) (v := .pointer (some ⟨p, n, none⟩)) (fun W_ => (x_indexAr Tryd.underlying115 (Tryd.sizeOf113 W_) (F.slot rfl) (F.slot rfl) (Int.natCast_nonneg _) (by have := (show n < 8 by omega); omega)).trans (by rw [addo]; simp)) (fun a F => ?_)
          obtain ⟨w_15, ew_15⟩ : ∃ Z_, Z_ = upd (xorP h V0 n) n (((xorP h V0 n) n) ^^^ ((V0 n) ^^^ (V0 (n + 8)))) := ⟨_, rfl⟩
          refine sq_put (M := [Asn.blk p (wsN 8 w_15) 115, Asn.rb 0 (wsN 8 firstsF) Ta, Asn.rb 1 rowsV Tb, Asn.blk g1 (wsN 16 m0) 154, Asn.blk g5 (wsN 16 V0) 154]) (o_n (.store 113 (.tmp 78) (.tmp 76)) 0 (by kernel_rfl)) trivial F (by rw [ew_15, ← ws_upd (xorP h V0 n) (by have := (show n < 8 by omega); omega) (((xorP h V0 n) n) ^^^ ((V0 n) ^^^ (V0 (n + 8))))]; exact x_store1 H (k := 0) rfl (Tryd.sizeOf113 W) (F.slot rfl) (F.slot rfl) rfl rfl (by rw [wsN_len]; exact (by have := (show n < 8 by omega); omega))) ?_
          intro W H
          refine ⟨(fun h => absurd (by decide) h), ?_⟩
          unfold wpSeq
          refine b_normal ?_
          refine t_normal ?_
          refine c_text (id := 22) (by kernel_rfl) [(0, 2), (1, 2)] (by kernel_rfl) ?_
          refine q2 (o_s 79 (.binOp .add 3 (.tmp 60) (.const (.int .i64 1)) 3) 3 (by kernel_rfl)) F (by decide) (v := .int .i64 (IntKind.i64.wrap ((n : Int) + 1))) (x_int (F.slot rfl) rfl rfl) (fun a F => ?_)
          refine q2 (o_s 60 (.move (.tmp 79)) 3 (by kernel_rfl)) F (by decide) (x_move (F.slot rfl)) (fun a F => ?_)
          unfold wpSeq
          refine t_normal ?_
          have F_ := F
          rw [show w_15 = xorP h V0 (n + 1) from ew_15.trans (xorP_succ _ _ _)] at H
          have F := F.at 60 rfl (v' := .int .i64 ((n + 1 : Nat) : Int)) (congrArg (Value.int .i64) ((wrap_i64 _ (by omega) (by omega)).trans (by omega)))
          exact ⟨k - 1, by omega, n + 1, F.less _ (subc rfl (subc rfl (subc rfl (subc rfl (subc rfl (subc rfl (subc rfl (subc rfl (subc rfl (subc rfl (subc rfl (subc rfl (subc rfl (subc rfl (subc rfl (subc rfl (subc rfl (subc rfl (subc rfl (subc rfl (subc rfl (subc rfl (subc rfl (subc rfl (subc rfl (subc rfl (subc rfl (subc rfl (subc rfl (subc rfl (subc rfl sub0))))))))))))))))))))))))))))))), H, (by omega), (by omega)⟩
        · have hb13d := of_decide_eq_false hb13
          have F := F.at 61 rfl (v' := .bool false) (congrArg Value.bool hb13)
          refine c_no (c := .tmp 61) (by kernel_rfl) (F.slot rfl) ?_
          refine c_exit (id := 4) (by kernel_rfl) ?_
          refine t_exit ?_
          refine t_exit ?_
          refine b_here ?_
          refine p_end Tryd.results97 F ?_
          obtain rfl : n = 8 := by omega
          have e : wsN 8 (xorP h V0 8) = wsN 8 (blockF h s.toList t last) := wsN_congr (fun j hj => by unfold xorP blockF; rw [if_pos hj, hV0, hm0, hS0])
          rw [e] at H
          exact ⟨rfl, H.front 3⟩
    · have F := F.at 48 rfl (v' := .bool false) (congrArg Value.bool hb9)
      refine c_no (c := .tmp 48) (by kernel_rfl) (F.slot rfl) ?_
      refine c_skip (by kernel_rfl) ?_
      refine t_normal ?_
      refine c_seq (by kernel_rfl) ?_
      refine c_seq (by kernel_rfl) ?_
      have hS : wsN 16 w_8 = wsN 16 (startF h (BitVec.ofInt 32 t) last) := wsN_congr (fun j hj => by have := start_eq h (BitVec.ofInt 32 t) last j hj; rw [hb9, if_neg (by decide), ← ew_8] at this; rw [hb9]; exact this)
      obtain ⟨S0, hS0⟩ : ∃ Z_, Z_ = startF h (BitVec.ofInt 32 t) last := ⟨_, rfl⟩
      rw [hS, ← hS0] at H
      have H : St w Sf Rf [Asn.blk p (wsN 8 h) 115, Asn.rb 0 (wsN 8 firstsF) Ta, Asn.rb 1 rowsV Tb, Asn.blk g1 (wsN 16 m0) 154, Asn.blk g5 (wsN 16 (rounds m0 0 S0)) 154] W := H
      refine c_text (id := 12) (by kernel_rfl) [(0, 2), (1, 2)] (by kernel_rfl) ?_
      have hT : W.heap[1]? = some (.cells rowsV.toArray Tb (0, 0)) := H.rd 2 rfl
      refine q2 (o_s 53 (.load 156 (.global 1)) 156 (by kernel_rfl)) F (by decide) (v := .agg rowsV.toArray) (x_loadB (Tryd.isAgg156 W) rowsV (by rw [rowsV_len]; exact Tryd.sizeOf156 W) rfl hT) (fun a F => ?_)
      refine q2 (o_s 54 (.move (.const (.int .i64 0))) 3 (by kernel_rfl)) F (by decide) (v := .int .i64 0) (x_move rfl) (fun a F => ?_)
      unfold wpSeq
      refine t_normal ?_
      refine c_block (id := 2) (by kernel_rfl) ?_
      refine c_loop (by kernel_rfl) (fun k a W => ∃ (n : Nat), Fr 80 [(0, .pointer (some ⟨p, 0, none⟩)), (1, .string s), (2, .int .i64 t), (3, .bool last), (8, .pointer (some ⟨g1, 0, none⟩)), (14, .string s), (15, .int .i64 (s.size : Int)), (16, .int .i64 (s.toList.length : Int)), (17, .bool false), (10, .pointer (some ⟨g5, 0, none⟩)), (34, .slice (some ⟨g5, 0, none⟩) 16 16), (35, .pointer (some ⟨p, 0, none⟩)), (36, .pointer (some ⟨p, 0, none⟩)), (37, .slice (some ⟨p, 0, none⟩) 8 8), (39, .slice (some ⟨g5, 8, none⟩) 8 8), (40, .slice (some ⟨0, 0, none⟩) 8 8), (42, .pointer (some ⟨g5, 12, none⟩)), (43, u ((over 8 8 (over 0 8 (fun _ => 0) h) firstsF) 12)), (44, .int .i64 t), (45, u (BitVec.ofInt 32 t)), (46, u (((over 8 8 (over 0 8 (fun _ => 0) h) firstsF) 12) ^^^ (BitVec.ofInt 32 t))), (47, .pointer (some ⟨g5, 12, none⟩)), (48, .bool false), (53, .agg rowsV.toArray), (54, .int .i64 (n : Int))] a ∧ St w Sf Rf [Asn.blk p (wsN 8 h) 115, Asn.rb 0 (wsN 8 firstsF) Ta, Asn.rb 1 rowsV Tb, Asn.blk g1 (wsN 16 m0) 154, Asn.blk g5 (wsN 16 (rounds m0 n S0)) 154] W ∧ (n ≤ 10) ∧ (k + n = 10)) 10 ⟨0, F.less _ (subc rfl (subc rfl (subc rfl (subc rfl (subc rfl (subc rfl (subc rfl (subc rfl (subc rfl (subc rfl (subc rfl (subc rfl (subc rfl (subc rfl (subc rfl (subc rfl (subc rfl (subc rfl (subc rfl (subc rfl (subc rfl (subc rfl (subc rfl (subc rfl (subc rfl sub0))))))))))))))))))))))))), H, (by decide), rfl⟩ ?_
      rintro k a W ⟨n, F, H, hn, hkn⟩
      refine c_seq (by kernel_rfl) ?_
      refine c_text (id := 13) (by kernel_rfl) [(0, 2)] (by kernel_rfl) ?_
      refine q2 (o_s 55 (.binOp .lss 3 (.tmp 54) (.const (.int .i64 10)) 3) 0 (by kernel_rfl)) F (by decide) (v := .bool (decide ((n : Int) < (10 : Int)))) (x_int (F.slot rfl) rfl rfl) (fun a F => ?_)
      unfold wpSeq
      have H : St w Sf Rf [Asn.blk p (wsN 8 h) 115, Asn.rb 0 (wsN 8 firstsF) Ta, Asn.rb 1 rowsV Tb, Asn.blk g1 (wsN 16 m0) 154, Asn.blk g5 (wsN 16 (rounds m0 n S0)) 154] W := H
      refine t_normal ?_
      refine c_seq (by kernel_rfl) ?_
      rcases bool_or (decide ((n : Int) < (10 : Int))) with hb16 | hb16
      · have hb16d := of_decide_eq_true hb16
        have F := F.at 55 rfl (v' := .bool true) (congrArg Value.bool hb16)
        refine c_yes (c := .tmp 55) (by kernel_rfl) (F.slot rfl) ?_
        refine c_skip (by kernel_rfl) ?_
        refine t_normal ?_
        refine c_seq (by kernel_rfl) ?_
        refine c_block (id := 3) (by kernel_rfl) ?_
        refine c_seq (by kernel_rfl) ?_
        refine c_text (id := 14) (by kernel_rfl) [(0, 2), (1, 2), (2, 2)] (by kernel_rfl) ?_
        refine q2 (o_s 56 (.index 156 (.tmp 53) (.tmp 54)) 155 (by kernel_rfl)) F (by decide) (v := .agg (rs (rowF n)).toArray) (x_row Tryd.underlying156 (Tryd.sizeOf155 W) (Tryd.isAgg155 W) (F.slot rfl) (F.slot rfl) (by omega) (rowsV_at n (by omega)) (by rw [rowsV_len]; omega)) (fun a F => ?_)
        refine sq_new (o_s 12 (.alloc 155) 0 (by kernel_rfl)) trivial F (by decide) H [.int .i64 0, .int .i64 0, .int .i64 0, .int .i64 0, .int .i64 0, .int .i64 0, .int .i64 0, .int .i64 0, .int .i64 0, .int .i64 0, .int .i64 0, .int .i64 0, .int .i64 0, .int .i64 0, .int .i64 0, .int .i64 0] 155 (x_alloc Tryd.zeroValue155 rfl) ?_
        intro g17 W a hg17 H F
        refine ⟨(fun _ => trivial), ?_⟩
        refine sq_put (M := [Asn.blk p (wsN 8 h) 115, Asn.rb 0 (wsN 8 firstsF) Ta, Asn.rb 1 rowsV Tb, Asn.blk g1 (wsN 16 m0) 154, Asn.blk g5 (wsN 16 (rounds m0 n S0)) 154, Asn.blk g17 (rs (rowF n)) 155]) (o_n (.store 155 (.tmp 12) (.tmp 56)) 0 (by kernel_rfl)) trivial F (x_storeAll H (k := 5) rfl (Tryd.sizeOf155 W) (F.slot rfl) (F.slot rfl) (rs_len _) rfl (rs_one _)) ?_
        intro W H
        refine ⟨(fun _ => trivial), ?_⟩
        unfold wpSeq
        refine t_normal ?_
        refine c_seq (by kernel_rfl) ?_
        obtain ⟨V1, hV1⟩ : ∃ Z_, Z_ = rounds m0 n S0 := ⟨_, rfl⟩
        rw [← hV1] at H
        have H : St w Sf Rf [Asn.blk p (wsN 8 h) 115, Asn.rb 0 (wsN 8 firstsF) Ta, Asn.rb 1 rowsV Tb, Asn.blk g1 (wsN 16 m0) 154, Asn.blk g5 (wsN 16 V1) 154, Asn.blk g17 (rs (rowF n)) 155] W := H
        refine c_text (id := 15) (by kernel_rfl) [(0, 2)] (by kernel_rfl) ?_
        have HS := H.select [4, 3, 5] [Asn.blk g5 (wsN 16 V1) 154, Asn.blk g1 (wsN 16 m0) 154, Asn.blk g17 (rs (rowF n)) 155] rfl (by decide)
        refine sqc (o_s 57 (.call { callee := (.value (.func 123)), args := #[(.tmp 10), (.tmp 8), (.tmp 12)], argTypes := #[158, 158, 159] }) 0 (by kernel_rfl)) trivial F (by decide) (x_call Tryd.func123 (by kernel_rfl) rfl (args_3 (F.slot rfl) (F.slot rfl) (F.slot rfl))) (cols_calls g5 g1 g17 V1 m0 (rowF n) (rowF_lt n) W HS) ?_
        rintro e W ⟨rfl, H1⟩
        refine ⟨_, rfl, fun a F => ?_⟩
        have H := H.back [4, 3, 5] [Asn.blk g5 (wsN 16 V1) 154, Asn.blk g1 (wsN 16 m0) 154, Asn.blk g17 (rs (rowF n)) 155] rfl (by decide) [Asn.blk g5 (wsN 16 (colsF m0 (rowF n) V1)) 154, Asn.blk g1 (wsN 16 m0) 154, Asn.blk g17 (rs (rowF n)) 155] [] rfl H1
        clear HS
        have H : St w Sf Rf [Asn.blk p (wsN 8 h) 115, Asn.rb 0 (wsN 8 firstsF) Ta, Asn.rb 1 rowsV Tb, Asn.blk g1 (wsN 16 m0) 154, Asn.blk g5 (wsN 16 (colsF m0 (rowF n) V1)) 154, Asn.blk g17 (rs (rowF n)) 155] W := H
        refine ⟨(fun _ => trivial), ?_⟩
        unfold wpSeq
        refine t_normal ?_
        obtain ⟨V2, hV2⟩ : ∃ Z_, Z_ = colsF m0 (rowF n) V1 := ⟨_, rfl⟩
        rw [← hV2] at H
        have H : St w Sf Rf [Asn.blk p (wsN 8 h) 115, Asn.rb 0 (wsN 8 firstsF) Ta, Asn.rb 1 rowsV Tb, Asn.blk g1 (wsN 16 m0) 154, Asn.blk g5 (wsN 16 V2) 154, Asn.blk g17 (rs (rowF n)) 155] W := H
        refine c_text (id := 16) (by kernel_rfl) [(0, 2)] (by kernel_rfl) ?_
        have HS := H.select [4, 3, 5] [Asn.blk g5 (wsN 16 V2) 154, Asn.blk g1 (wsN 16 m0) 154, Asn.blk g17 (rs (rowF n)) 155] rfl (by decide)
        refine sqc (o_s 58 (.call { callee := (.value (.func 124)), args := #[(.tmp 10), (.tmp 8), (.tmp 12)], argTypes := #[158, 158, 159] }) 0 (by kernel_rfl)) trivial F (by decide) (x_call Tryd.func124 (by kernel_rfl) rfl (args_3 (F.slot rfl) (F.slot rfl) (F.slot rfl))) (diags_calls g5 g1 g17 V2 m0 (rowF n) (rowF_lt n) W HS) ?_
        rintro e W ⟨rfl, H1⟩
        refine ⟨_, rfl, fun a F => ?_⟩
        have H := H.back [4, 3, 5] [Asn.blk g5 (wsN 16 V2) 154, Asn.blk g1 (wsN 16 m0) 154, Asn.blk g17 (rs (rowF n)) 155] rfl (by decide) [Asn.blk g5 (wsN 16 (diagsF m0 (rowF n) V2)) 154, Asn.blk g1 (wsN 16 m0) 154, Asn.blk g17 (rs (rowF n)) 155] [] rfl H1
        clear HS
        have H : St w Sf Rf [Asn.blk p (wsN 8 h) 115, Asn.rb 0 (wsN 8 firstsF) Ta, Asn.rb 1 rowsV Tb, Asn.blk g1 (wsN 16 m0) 154, Asn.blk g5 (wsN 16 (diagsF m0 (rowF n) V2)) 154, Asn.blk g17 (rs (rowF n)) 155] W := H
        refine ⟨(fun _ => trivial), ?_⟩
        unfold wpSeq
        refine b_normal ?_
        refine t_normal ?_
        refine c_text (id := 17) (by kernel_rfl) [(0, 2), (1, 2)] (by kernel_rfl) ?_
        refine q2 (o_s 59 (.binOp .add 3 (.tmp 54) (.const (.int .i64 1)) 3) 3 (by kernel_rfl)) F (by decide) (v := .int .i64 (IntKind.i64.wrap ((n : Int) + 1))) (x_int (F.slot rfl) rfl rfl) (fun a F => ?_)
        refine q2 (o_s 54 (.move (.tmp 59)) 3 (by kernel_rfl)) F (by decide) (x_move (F.slot rfl)) (fun a F => ?_)
        unfold wpSeq
        refine t_normal ?_
        have F_ := F
        rw [show diagsF m0 (rowF n) V2 = rounds m0 (n + 1) S0 from by rw [hV2, hV1]; rfl] at H
        have H := H.front 5
        have F := F.at 54 rfl (v' := .int .i64 ((n + 1 : Nat) : Int)) (congrArg (Value.int .i64) ((wrap_i64 _ (by omega) (by omega)).trans (by omega)))
        exact ⟨k - 1, by omega, n + 1, F.less _ (subc rfl (subc rfl (subc rfl (subc rfl (subc rfl (subc rfl (subc rfl (subc rfl (subc rfl (subc rfl (subc rfl (subc rfl (subc rfl (subc rfl (subc rfl (subc rfl (subc rfl (subc rfl (subc rfl (subc rfl (subc rfl (subc rfl (subc rfl (subc rfl (subc rfl sub0))))))))))))))))))))))))), H, (by omega), (by omega)⟩
      · have hb16d := of_decide_eq_false hb16
        have F := F.at 55 rfl (v' := .bool false) (congrArg Value.bool hb16)
        refine c_no (c := .tmp 55) (by kernel_rfl) (F.slot rfl) ?_
        refine c_exit (id := 2) (by kernel_rfl) ?_
        refine t_exit ?_
        refine t_exit ?_
        refine b_here ?_
        refine t_normal ?_
        refine c_seq (by kernel_rfl) ?_
        obtain rfl : n = 10 := by omega
        obtain ⟨V0, hV0⟩ : ∃ Z_, Z_ = rounds m0 10 S0 := ⟨_, rfl⟩
        rw [← hV0] at H
        have hx0 : wsN 8 h = wsN 8 (xorP h V0 0) := by congr 1
        rw [hx0] at H
        have H : St w Sf Rf [Asn.blk p (wsN 8 (xorP h V0 0)) 115, Asn.rb 0 (wsN 8 firstsF) Ta, Asn.rb 1 rowsV Tb, Asn.blk g1 (wsN 16 m0) 154, Asn.blk g5 (wsN 16 V0) 154] W := H
        refine c_text (id := 18) (by kernel_rfl) [(0, 2)] (by kernel_rfl) ?_
        refine q2 (o_s 60 (.move (.const (.int .i64 0))) 3 (by kernel_rfl)) F (by decide) (v := .int .i64 0) (x_move rfl) (fun a F => ?_)
        unfold wpSeq
        refine t_normal ?_
        refine c_block (id := 4) (by kernel_rfl) ?_
        refine c_loop (by kernel_rfl) (fun k a W => ∃ (n : Nat), Fr 80 [(0, .pointer (some ⟨p, 0, none⟩)), (1, .string s), (2, .int .i64 t), (3, .bool last), (8, .pointer (some ⟨g1, 0, none⟩)), (14, .string s), (15, .int .i64 (s.size : Int)), (16, .int .i64 (s.toList.length : Int)), (17, .bool false), (10, .pointer (some ⟨g5, 0, none⟩)), (34, .slice (some ⟨g5, 0, none⟩) 16 16), (35, .pointer (some ⟨p, 0, none⟩)), (36, .pointer (some ⟨p, 0, none⟩)), (37, .slice (some ⟨p, 0, none⟩) 8 8), (39, .slice (some ⟨g5, 8, none⟩) 8 8), (40, .slice (some ⟨0, 0, none⟩) 8 8), (42, .pointer (some ⟨g5, 12, none⟩)), (43, u ((over 8 8 (over 0 8 (fun _ => 0) h) firstsF) 12)), (44, .int .i64 t), (45, u (BitVec.ofInt 32 t)), (46, u (((over 8 8 (over 0 8 (fun _ => 0) h) firstsF) 12) ^^^ (BitVec.ofInt 32 t))), (47, .pointer (some ⟨g5, 12, none⟩)), (48, .bool false), (53, .agg rowsV.toArray), (54, .int .i64 (10 : Int)), (55, .bool false), (60, .int .i64 (n : Int))] a ∧ St w Sf Rf [Asn.blk p (wsN 8 (xorP h V0 n)) 115, Asn.rb 0 (wsN 8 firstsF) Ta, Asn.rb 1 rowsV Tb, Asn.blk g1 (wsN 16 m0) 154, Asn.blk g5 (wsN 16 V0) 154] W ∧ (n ≤ 8) ∧ (k + n = 8)) 8 ⟨0, F.less _ (subc rfl (subc rfl (subc rfl (subc rfl (subc rfl (subc rfl (subc rfl (subc rfl (subc rfl (subc rfl (subc rfl (subc rfl (subc rfl (subc rfl (subc rfl (subc rfl (subc rfl (subc rfl (subc rfl (subc rfl (subc rfl (subc rfl (subc rfl (subc rfl (subc rfl (subc rfl (subc rfl sub0))))))))))))))))))))))))))), H, (by decide), rfl⟩ ?_
        rintro k a W ⟨n, F, H, hn, hkn⟩
        refine c_seq (by kernel_rfl) ?_
        refine c_text (id := 19) (by kernel_rfl) [(0, 2)] (by kernel_rfl) ?_
        refine q2 (o_s 61 (.binOp .lss 3 (.tmp 60) (.const (.int .i64 8)) 3) 0 (by kernel_rfl)) F (by decide) (v := .bool (decide ((n : Int) < (8 : Int)))) (x_int (F.slot rfl) rfl rfl) (fun a F => ?_)
        unfold wpSeq
        have H : St w Sf Rf [Asn.blk p (wsN 8 (xorP h V0 n)) 115, Asn.rb 0 (wsN 8 firstsF) Ta, Asn.rb 1 rowsV Tb, Asn.blk g1 (wsN 16 m0) 154, Asn.blk g5 (wsN 16 V0) 154] W := H
        refine t_normal ?_
        refine c_seq (by kernel_rfl) ?_
        rcases bool_or (decide ((n : Int) < (8 : Int))) with hb18 | hb18
        · have hb18d := of_decide_eq_true hb18
          have F := F.at 61 rfl (v' := .bool true) (congrArg Value.bool hb18)
          refine c_yes (c := .tmp 61) (by kernel_rfl) (F.slot rfl) ?_
          refine c_skip (by kernel_rfl) ?_
          refine t_normal ?_
          refine c_seq (by kernel_rfl) ?_
          refine c_block (id := 5) (by kernel_rfl) ?_
          refine c_seq (by kernel_rfl) ?_
          refine c_text (id := 20) (by kernel_rfl) [(0, 2), (1, 2)] (by kernel_rfl) ?_
          refine q2 (o_s 62 (.move (.tmp 60)) 3 (by kernel_rfl)) F (by decide) (x_move (F.slot rfl)) (fun a F => ?_)
          refine q2 (o_s 13 (.assign (.tmp 62)) 3 (by kernel_rfl)) F (by decide) (v := .int .i64 (n : Int)) (x_assign (F.slot rfl)) (fun a F => ?_)
          unfold wpSeq
          refine t_normal ?_
          have hn8 : n < 8 := by omega
          refine c_drawn (id := 21) (by kernel_rfl) (by kernel_rfl) (Vs [Asn.blk p (wsN 8 (xorP h V0 n)) 115, Asn.blk g5 (wsN 16 V0) 154]) [0, 0, 1, 7, 15, 0, 32, 96, 0, 256, 768, 1792, 4064, 8191, 1, 32767, 65535] [16] [(0, 0), (1, 0), (2, 0), (3, 0), (5, 0), (6, 0), (8, 0), (9, 0), (10, 0), (14, 0), (4, 1), (7, 1), (11, 1), (12, 0), (13, 0), (15, 0), (16, 2)] (by kernel_rfl) (fun _ _ d _ _ h => by cases d <;> exact h) (Vs.drew ⟨H.get 0 rfl, H.get 4 rfl, trivial⟩) ?_
          have H := H.drew
          generalize World.drew W = W at H ⊢
          refine q0 (o_s 63 (.move (.tmp 0)) 153 (by kernel_rfl)) F (by decide) (fun W_ => x_move (F.slot rfl)) (fun a F => ?_)
          refine q0 (o_s 64 (.move (.tmp 13)) 3 (by kernel_rfl)) F (by decide) (fun W_ => x_move (F.slot rfl)) (fun a F => ?_)
          refine q0 (o_s 65 (.nilCheck (.tmp 63)) 0 (by kernel_rfl)) F (by decide) (v := .pointer (some ⟨p, 0, none⟩)) (fun W_ => x_nil (F.slot rfl)) (fun a F => ?_)
          refine q0 (o_s 66 (.indexAddr 115 (.tmp 65) (.tmp 64)) 0 (by kernel_rfl)) F (by decide) (v := .pointer (some ⟨p, n, none⟩)) (fun W_ => (x_indexAr Tryd.underlying115 (Tryd.sizeOf113 W_) (F.slot rfl) (F.slot rfl) (Int.natCast_nonneg _) (by have := (show n < 8 by omega); omega)).trans (by rw [addo]; simp)) (fun a F => ?_)
          refine q0 (o_s 68 (.move (.tmp 13)) 3 (by kernel_rfl)) F (by decide) (fun W_ => x_move (F.slot rfl)) (fun a F => ?_)
          refine q0 (o_s 69 (.indexAddr 154 (.tmp 10) (.tmp 68)) 0 (by kernel_rfl)) F (by decide) (v := .pointer (some ⟨g5, n, none⟩)) (fun W_ => (x_indexAr Tryd.underlying154 (Tryd.sizeOf113 W_) (F.slot rfl) (F.slot rfl) (Int.natCast_nonneg _) (by have := (show n < 8 by omega); omega)).trans (by rw [addo]; simp)) (fun a F => ?_)
          refine q0 (o_s 71 (.move (.tmp 13)) 3 (by kernel_rfl)) F (by decide) (fun W_ => x_move (F.slot rfl)) (fun a F => ?_)
          refine q0 (o_s 72 (.binOp .add 3 (.tmp 71) (.const (.int .i64 8)) 3) 3 (by kernel_rfl)) F (by decide) (v := .int .i64 (IntKind.i64.wrap ((n : Int) + 8))) (fun W_ => x_int (F.slot rfl) rfl rfl) (fun a F => ?_)
          have F := F.conv (v' := .int .i64 ((n + 8 : Nat) : Int)) (congrArg (Value.int .i64) ((wrap_i64 _ (by omega) (by omega)).trans (by omega)))
          refine q0 (o_s 73 (.indexAddr 154 (.tmp 10) (.tmp 72)) 0 (by kernel_rfl)) F (by decide) (v := .pointer (some ⟨g5, (n + 8), none⟩)) (fun W_ => (x_indexAr Tryd.underlying154 (Tryd.sizeOf113 W_) (F.slot rfl) (F.slot rfl) (Int.natCast_nonneg _) (by have := (show n + 8 < 16 by omega); omega)).trans (by rw [addo]; simp)) (fun a F => ?_)
          refine q0 (o_s 77 (.nilCheck (.tmp 63)) 0 (by kernel_rfl)) F (by decide) (v := .pointer (some ⟨p, 0, none⟩)) (fun W_ => x_nil (F.slot rfl)) (fun a F => ?_)
          refine q1 (o_s 67 (.load 113 (.tmp 66)) 113 (by kernel_rfl)) F (by decide) (⟨H.get 0 rfl, H.get 4 rfl, trivial⟩) (v := u ((xorP h V0 n) n)) (fun W_ hV => x_load1 (Tryd.isAgg113 W_) (F.slot rfl) (bcell hV.1 (ws_at (xorP h V0 n) (by have := (show n < 8 by omega); omega)))) (fun a F => ?_)
          refine q1 (o_s 70 (.load 113 (.tmp 69)) 113 (by kernel_rfl)) F (by decide) (⟨H.get 0 rfl, H.get 4 rfl, trivial⟩) (v := u (V0 n)) (fun W_ hV => x_load1 (Tryd.isAgg113 W_) (F.slot rfl) (bcell hV.2.1 (ws_at V0 (by have := (show n < 8 by omega); omega)))) (fun a F => ?_)
          refine q1 (o_s 74 (.load 113 (.tmp 73)) 113 (by kernel_rfl)) F (by decide) (⟨H.get 0 rfl, H.get 4 rfl, trivial⟩) (v := u (V0 (n + 8))) (fun W_ hV => x_load1 (Tryd.isAgg113 W_) (F.slot rfl) (bcell hV.2.1 (ws_at V0 (by have := (show n + 8 < 16 by omega); omega)))) (fun a F => ?_)
          refine q0 (o_s 75 (.binOp .xor 113 (.tmp 70) (.tmp 74) 113) 113 (by kernel_rfl)) F (by decide) (v := u ((V0 n) ^^^ (V0 (n + 8)))) (fun W_ => x_xor32 (F.slot rfl) (F.slot rfl)) (fun a F => ?_)
          refine q0 (o_s 76 (.binOp .xor 113 (.tmp 67) (.tmp 75) 113) 113 (by kernel_rfl)) F (by decide) (v := u (((xorP h V0 n) n) ^^^ ((V0 n) ^^^ (V0 (n + 8))))) (fun W_ => x_xor32 (F.slot rfl) (F.slot rfl)) (fun a F => ?_)
          refine q0 (o_s 78 (.indexAddr 115 (.tmp 77) (.tmp 64)) 0 (by kernel_rfl)) F (by decide) (v := .pointer (some ⟨p, n, none⟩)) (fun W_ => (x_indexAr Tryd.underlying115 (Tryd.sizeOf113 W_) (F.slot rfl) (F.slot rfl) (Int.natCast_nonneg _) (by have := (show n < 8 by omega); omega)).trans (by rw [addo]; simp)) (fun a F => ?_)
          obtain ⟨w_20, ew_20⟩ : ∃ Z_, Z_ = upd (xorP h V0 n) n (((xorP h V0 n) n) ^^^ ((V0 n) ^^^ (V0 (n + 8)))) := ⟨_, rfl⟩
          refine sq_put (M := [Asn.blk p (wsN 8 w_20) 115, Asn.rb 0 (wsN 8 firstsF) Ta, Asn.rb 1 rowsV Tb, Asn.blk g1 (wsN 16 m0) 154, Asn.blk g5 (wsN 16 V0) 154]) (o_n (.store 113 (.tmp 78) (.tmp 76)) 0 (by kernel_rfl)) trivial F (by rw [ew_20, ← ws_upd (xorP h V0 n) (by have := (show n < 8 by omega); omega) (((xorP h V0 n) n) ^^^ ((V0 n) ^^^ (V0 (n + 8))))]; exact x_store1 H (k := 0) rfl (Tryd.sizeOf113 W) (F.slot rfl) (F.slot rfl) rfl rfl (by rw [wsN_len]; exact (by have := (show n < 8 by omega); omega))) ?_
          intro W H
          refine ⟨(fun h => absurd (by decide) h), ?_⟩
          unfold wpSeq
          refine b_normal ?_
          refine t_normal ?_
          refine c_text (id := 22) (by kernel_rfl) [(0, 2), (1, 2)] (by kernel_rfl) ?_
          refine q2 (o_s 79 (.binOp .add 3 (.tmp 60) (.const (.int .i64 1)) 3) 3 (by kernel_rfl)) F (by decide) (v := .int .i64 (IntKind.i64.wrap ((n : Int) + 1))) (x_int (F.slot rfl) rfl rfl) (fun a F => ?_)
          refine q2 (o_s 60 (.move (.tmp 79)) 3 (by kernel_rfl)) F (by decide) (x_move (F.slot rfl)) (fun a F => ?_)
          unfold wpSeq
          refine t_normal ?_
          have F_ := F
          rw [show w_20 = xorP h V0 (n + 1) from ew_20.trans (xorP_succ _ _ _)] at H
          have F := F.at 60 rfl (v' := .int .i64 ((n + 1 : Nat) : Int)) (congrArg (Value.int .i64) ((wrap_i64 _ (by omega) (by omega)).trans (by omega)))
          exact ⟨k - 1, by omega, n + 1, F.less _ (subc rfl (subc rfl (subc rfl (subc rfl (subc rfl (subc rfl (subc rfl (subc rfl (subc rfl (subc rfl (subc rfl (subc rfl (subc rfl (subc rfl (subc rfl (subc rfl (subc rfl (subc rfl (subc rfl (subc rfl (subc rfl (subc rfl (subc rfl (subc rfl (subc rfl (subc rfl (subc rfl sub0))))))))))))))))))))))))))), H, (by omega), (by omega)⟩
        · have hb18d := of_decide_eq_false hb18
          have F := F.at 61 rfl (v' := .bool false) (congrArg Value.bool hb18)
          refine c_no (c := .tmp 61) (by kernel_rfl) (F.slot rfl) ?_
          refine c_exit (id := 4) (by kernel_rfl) ?_
          refine t_exit ?_
          refine t_exit ?_
          refine b_here ?_
          refine p_end Tryd.results97 F ?_
          obtain rfl : n = 8 := by omega
          have e : wsN 8 (xorP h V0 8) = wsN 8 (blockF h s.toList t last) := wsN_congr (fun j hj => by unfold xorP blockF; rw [if_pos hj, hV0, hm0, hS0])
          rw [e] at H
          exact ⟨rfl, H.front 3⟩
end Go.Proofs.YtndicjikjcifaaaDoor
