/- Texts joined by wip/tools/slim2.py: Mixsum, Bdig, Batdig, Bchecks, Payc, Codec, Batcod, Batdec, Batrdec, Batreads, Bwp, Bworks, Bback, Seals, Opsl, Laidmix, Browb, Browc. -/
import Derived.Test.YtndicjikjcifaaaDoorJ5
import Derived.Test.YtndicjikjcifaaaDoorJ4
import Derived.Test.YtndicjikjcifaaaDoorJ3
import Derived.Test.YtndicjikjcifaaaDoorCards
import Derived.OpenShut
import Derived.ChangeArms
import Derived.LaidMore
import Derived.Lay
/- mix.Sum. -/
namespace Go.Proofs.YtndicjikjcifaaaDoor
open Go.RowKit Go.Proofs.YtndicjikjcifaaaDoorW.PrintWords Go.Proofs.YtndicjikjcifaaaDoorW.PrintLast
set_option linter.unusedVariables false
set_option linter.unusedSimpArgs false
set_option maxRecDepth 100000
open Bl
theorem begun_calls {Ta Tb : TypeId} (w : World) {Sf Rf : Nat → Prop} (H : St w Sf Rf [Asn.rb 0 (wsN 8 firstsF) Ta, Asn.rb 1 rowsV Tb] w) : Calls Tryd.prog 86 #[.int .i64 0] w fun e W => e = .returned (.agg (wsN 8 (beginF 0)).toArray) ∧ St w Sf Rf [Asn.rb 0 (wsN 8 firstsF) Ta, Asn.rb 1 rowsV Tb] W := by
  refine c_enter2 (args := [.int .i64 0]) (S := Sf) (R := Rf) (M := [Asn.rb 0 (wsN 8 firstsF) Ta, Asn.rb 1 rowsV Tb]) Tryd.func86 (by kernel_rfl) 14 Tryd.ntmps86 (Nat.le_of_ble_eq_true rfl) (H) (fun a W F H => ?_)
  have F := F.less [(0, .int .i64 0)] (subc rfl sub0)
  refine c_seq (by kernel_rfl) ?_
  refine c_text (id := 0) (by kernel_rfl) [(0, 2)] (by kernel_rfl) ?_
  refine sq_new (o_s 2 (.alloc 115) 0 (by kernel_rfl)) trivial F (by decide) H [.int .u32 0, .int .u32 0, .int .u32 0, .int .u32 0, .int .u32 0, .int .u32 0, .int .u32 0, .int .u32 0] 115 (x_alloc Tryd.zeroValue115 rfl) ?_
  intro g1 W a hg1 H F
  refine ⟨(fun _ => trivial), ?_⟩
  unfold wpSeq
  have H : St w Sf Rf [Asn.rb 0 (wsN 8 firstsF) Ta, Asn.rb 1 rowsV Tb, Asn.blk g1 [.int .u32 0, .int .u32 0, .int .u32 0, .int .u32 0, .int .u32 0, .int .u32 0, .int .u32 0, .int .u32 0] 115] W := H
  refine t_normal ?_
  refine c_seq (by kernel_rfl) ?_
  refine c_text (id := 1) (by kernel_rfl) [(0, 2), (1, 2), (2, 2)] (by kernel_rfl) ?_
  refine q2 (o_s 4 (.load 115 (.global 0)) 115 (by kernel_rfl)) F (by decide) (v := .agg (wsN 8 firstsF).toArray) (x_loadB (Tryd.isAgg115 W) (wsN 8 firstsF) (by rw [wsN_len]; exact Tryd.sizeOf115 W) rfl (H.rd 0 rfl)) (fun a F => ?_)
  refine sq_new (o_s 3 (.alloc 115) 0 (by kernel_rfl)) trivial F (by decide) H [.int .u32 0, .int .u32 0, .int .u32 0, .int .u32 0, .int .u32 0, .int .u32 0, .int .u32 0, .int .u32 0] 115 (x_alloc Tryd.zeroValue115 rfl) ?_
  intro g2 W a hg2 H F
  refine ⟨(fun _ => trivial), ?_⟩
  refine sq_put (M := [Asn.rb 0 (wsN 8 firstsF) Ta, Asn.rb 1 rowsV Tb, Asn.blk g1 [.int .u32 0, .int .u32 0, .int .u32 0, .int .u32 0, .int .u32 0, .int .u32 0, .int .u32 0, .int .u32 0] 115, Asn.blk g2 (wsN 8 firstsF) 115]) (o_n (.store 115 (.tmp 3) (.tmp 4)) 0 (by kernel_rfl)) trivial F (x_storeAll H (k := 3) rfl (Tryd.sizeOf115 W) (F.slot rfl) (F.slot rfl) (wsN_len _ _) rfl (ws_one _)) ?_
  intro W H
  refine ⟨(fun _ => trivial), ?_⟩
  unfold wpSeq
  refine t_normal ?_
  refine c_seq (by kernel_rfl) ?_
  refine c_text (id := 2) (by kernel_rfl) [(0, 2), (1, 2), (2, 2), (3, 2), (4, 2), (5, 2), (6, 2), (7, 2), (8, 2)] (by kernel_rfl) ?_
  refine q2 (o_s 5 (.indexAddr 115 (.tmp 3) (.const (.int .i64 0))) 0 (by kernel_rfl)) F (by decide) (v := .pointer (some ⟨g2, 0, none⟩)) (x_ixc Tryd.underlying115 (Tryd.sizeOf113 W) (F.slot rfl) rfl (by decide)) (fun a F => ?_)
  refine q2 (o_s 6 (.load 113 (.tmp 5)) 113 (by kernel_rfl)) F (by decide) (v := u (firstsF 0)) (x_load1 (Tryd.isAgg113 W) (F.slot rfl) (H.cell 3 rfl (ws_at firstsF (by decide)))) (fun a F => ?_)
  refine q2 (o_s 7 (.move (.tmp 0)) 3 (by kernel_rfl)) F (by decide) (x_move (F.slot rfl)) (fun a F => ?_)
  refine q2 (o_s 8 (.binOp .mul 3 (.const (.int .i64 256)) (.tmp 7) 3) 3 (by kernel_rfl)) F (by decide) (v := .int .i64 0) (x_int rfl (F.slot rfl) rfl) (fun a F => ?_)
  refine q2 (o_s 9 (.convert 3 113 (.tmp 8)) 113 (by kernel_rfl)) F (by decide) (v := u (BitVec.ofInt 32 0)) (x_toU32 Tryd.underlying3 Tryd.underlying113 (F.slot rfl)) (fun a F => ?_)
  refine q2 (o_s 10 (.binOp .xor 113 (.const (.int .u32 16842784)) (.tmp 9) 113) 113 (by kernel_rfl)) F (by decide) (v := u ((16842784#32) ^^^ (BitVec.ofInt 32 0))) (x_xor32 rfl (F.slot rfl)) (fun a F => ?_)
  refine q2 (o_s 11 (.binOp .xor 113 (.tmp 6) (.tmp 10) 113) 113 (by kernel_rfl)) F (by decide) (v := u ((firstsF 0) ^^^ ((16842784#32) ^^^ (BitVec.ofInt 32 0)))) (x_xor32 (F.slot rfl) (F.slot rfl)) (fun a F => ?_)
  refine q2 (o_s 12 (.indexAddr 115 (.tmp 3) (.const (.int .i64 0))) 0 (by kernel_rfl)) F (by decide) (v := .pointer (some ⟨g2, 0, none⟩)) (x_ixc Tryd.underlying115 (Tryd.sizeOf113 W) (F.slot rfl) rfl (by decide)) (fun a F => ?_)
  obtain ⟨w_3, ew_3⟩ : ∃ Z_, Z_ = upd firstsF 0 ((firstsF 0) ^^^ ((16842784#32) ^^^ (BitVec.ofInt 32 0))) := ⟨_, rfl⟩
  refine sq_put (M := [Asn.rb 0 (wsN 8 firstsF) Ta, Asn.rb 1 rowsV Tb, Asn.blk g1 [.int .u32 0, .int .u32 0, .int .u32 0, .int .u32 0, .int .u32 0, .int .u32 0, .int .u32 0, .int .u32 0] 115, Asn.blk g2 (wsN 8 w_3) 115]) (o_n (.store 113 (.tmp 12) (.tmp 11)) 0 (by kernel_rfl)) trivial F (by rw [ew_3, ← ws_upd firstsF (by decide) ((firstsF 0) ^^^ ((16842784#32) ^^^ (BitVec.ofInt 32 0)))]; exact x_store1 H (k := 3) rfl (Tryd.sizeOf113 W) (F.slot rfl) (F.slot rfl) rfl rfl (by rw [wsN_len]; exact (by decide))) ?_
  intro W H
  refine ⟨(fun _ => trivial), ?_⟩
  unfold wpSeq
  refine t_normal ?_
  refine c_seq (by kernel_rfl) ?_
  refine c_text (id := 3) (by kernel_rfl) [(0, 2), (1, 2)] (by kernel_rfl) ?_
  refine q2 (o_s 13 (.load 115 (.tmp 3)) 115 (by kernel_rfl)) F (by decide) (v := .agg (wsN 8 w_3).toArray) (x_loadB (Tryd.isAgg115 W) (wsN 8 w_3) (by rw [wsN_len]; exact Tryd.sizeOf115 W) (F.slot rfl) (H.blk 3 rfl)) (fun a F => ?_)
  refine sq_put (M := [Asn.rb 0 (wsN 8 firstsF) Ta, Asn.rb 1 rowsV Tb, Asn.blk g1 (wsN 8 w_3) 115, Asn.blk g2 (wsN 8 w_3) 115]) (o_n (.store 115 (.tmp 2) (.tmp 13)) 0 (by kernel_rfl)) trivial F (x_storeAll H (k := 2) rfl (Tryd.sizeOf115 W) (F.slot rfl) (F.slot rfl) (wsN_len _ _) rfl (ws_one _)) ?_
  intro W H
  refine ⟨(fun _ => trivial), ?_⟩
  unfold wpSeq
  refine t_normal ?_
  refine c_ret (by kernel_rfl) ?_
  refine p_cell Tryd.results86 F rfl (H.blk 2 rfl) (Tryd.isAgg115 W) (Tryd.sizeOf115 W) ?_
  refine ⟨?_, H.front 2⟩
  have e : w_3 = beginF 0 := by rw [ew_3]; funext j; unfold upd beginF; by_cases c : j = 0 <;> simp [c]
  rw [e]
set_option maxHeartbeats 1000000 in
theorem finish_calls {Ta Tb : TypeId} (h : Words) (s : ByteArray) (hs : s.size < 4611686018427387904) (w : World) {Sf Rf : Nat → Prop} (H : St w Sf Rf [Asn.rb 0 (wsN 8 firstsF) Ta, Asn.rb 1 rowsV Tb] w) : Calls Tryd.prog 87 #[.agg (wsN 8 h).toArray, .string s, .int .i64 0] w fun e W => e = .returned (.string ⟨(outF (finF s.toList 0 s.toList.length 0 h)).toArray⟩) ∧ St w Sf Rf [Asn.rb 0 (wsN 8 firstsF) Ta, Asn.rb 1 rowsV Tb] W := by
  have hsz := toList_size s
  refine c_enter2 (args := [.agg (wsN 8 h).toArray, .string s, .int .i64 0]) (S := Sf) (R := Rf) (M := [Asn.rb 0 (wsN 8 firstsF) Ta, Asn.rb 1 rowsV Tb]) Tryd.func87 (by kernel_rfl) 70 Tryd.ntmps87 (Nat.le_of_ble_eq_true rfl) (H) (fun a W F H => ?_)
  have F := F.less [(0, .agg (wsN 8 h).toArray), (1, .string s), (2, .int .i64 0)] (subc rfl (subc rfl (subc rfl sub0)))
  refine c_seq (by kernel_rfl) ?_
  refine c_text (id := 0) (by kernel_rfl) [(0, 2), (1, 2)] (by kernel_rfl) ?_
  refine sq_new (o_s 3 (.box 115 (.tmp 0)) 0 (by kernel_rfl)) trivial F (by decide) H (wsN 8 h) 115 (x_box (F.slot rfl) rfl) ?_
  intro g1 W a hg1 H F
  refine ⟨(fun _ => trivial), ?_⟩
  refine q2 (o_s 6 (.assign (.const (.string { data := #[] }))) 9 (by kernel_rfl)) F (by decide) (v := .string ⟨#[]⟩) (x_assign rfl) (fun a F => ?_)
  unfold wpSeq
  have H : St w Sf Rf [Asn.rb 0 (wsN 8 firstsF) Ta, Asn.rb 1 rowsV Tb, Asn.blk g1 (wsN 8 h) 115] W := H
  refine t_normal ?_
  refine c_seq (by kernel_rfl) ?_
  refine c_text (id := 1) (by kernel_rfl) [(0, 2)] (by kernel_rfl) ?_
  refine q2 (o_s 7 (.assign (.const (.int .i64 0))) 3 (by kernel_rfl)) F (by decide) (v := .int .i64 0) (x_assign rfl) (fun a F => ?_)
  unfold wpSeq
  refine t_normal ?_
  refine c_seq (by kernel_rfl) ?_
  refine c_block (id := 0) (by kernel_rfl) ?_
  refine c_loop (by kernel_rfl) (fun k a W => ∃ (q : Nat) (h1 : Words), Fr 70 [(0, .agg (wsN 8 h).toArray), (1, .string s), (2, .int .i64 0), (3, .pointer (some ⟨g1, 0, none⟩)), (6, .string ⟨#[]⟩), (7, .int .i64 (q : Int))] a ∧ St w Sf Rf [Asn.rb 0 (wsN 8 firstsF) Ta, Asn.rb 1 rowsV Tb, Asn.blk g1 (wsN 8 h1) 115] W ∧ (q ≤ s.toList.length) ∧ (s.toList.length ≤ q + 64 * k + 64) ∧ (finF s.toList 0 s.toList.length 0 h = finF s.toList 0 k q h1)) s.toList.length ⟨0, h, F.less _ (subc rfl (subc rfl (subc rfl (subc rfl (subc rfl (subc rfl sub0)))))), H, (Nat.zero_le _), (by omega), rfl⟩ ?_
  rintro k a W ⟨q, h1, F, H, hq, hl, hF⟩
  refine c_seq (by kernel_rfl) ?_
  refine c_seq (by kernel_rfl) ?_
  refine c_text (id := 2) (by kernel_rfl) [(0, 2), (1, 2), (2, 2), (3, 2), (4, 2)] (by kernel_rfl) ?_
  refine q2 (o_s 11 (.move (.tmp 1)) 9 (by kernel_rfl)) F (by decide) (x_move (F.slot rfl)) (fun a F => ?_)
  refine q2 (o_s 12 (.call { callee := (.builtin .len), args := #[(.tmp 11)], argTypes := #[9] }) 3 (by kernel_rfl)) F (by decide) (v := .int .i64 (s.size : Int)) (x_lenS Tryd.underlying9 (F.slot rfl)) (fun a F => ?_)
  refine q2 (o_s 13 (.move (.tmp 7)) 3 (by kernel_rfl)) F (by decide) (x_move (F.slot rfl)) (fun a F => ?_)
  refine q2 (o_s 14 (.binOp .sub 3 (.tmp 12) (.tmp 13) 3) 3 (by kernel_rfl)) F (by decide) (v := .int .i64 (IntKind.i64.wrap ((s.size : Int) - (q : Int)))) (x_int (F.slot rfl) (F.slot rfl) rfl) (fun a F => ?_)
  have F := F.conv (v' := .int .i64 ((s.size : Int) - (q : Int))) (congrArg (Value.int .i64) ((wrap_i64 _ (by omega) (by omega)).trans (by omega)))
  refine q2 (o_s 15 (.binOp .gtr 3 (.tmp 14) (.const (.int .i64 64)) 3) 4 (by kernel_rfl)) F (by decide) (v := .bool (decide (((s.size : Int) - (q : Int)) > (64 : Int)))) (x_int (F.slot rfl) rfl rfl) (fun a F => ?_)
  unfold wpSeq
  have H : St w Sf Rf [Asn.rb 0 (wsN 8 firstsF) Ta, Asn.rb 1 rowsV Tb, Asn.blk g1 (wsN 8 h1) 115] W := H
  refine t_normal ?_
  rcases bool_or (decide (((s.size : Int) - (q : Int)) > (64 : Int))) with hb2 | hb2
  · have hb2d := of_decide_eq_true hb2
    have F := F.at 15 rfl (v' := .bool true) (congrArg Value.bool hb2)
    refine c_yes (c := .tmp 15) (by kernel_rfl) (F.slot rfl) ?_
    refine c_skip (by kernel_rfl) ?_
    refine t_normal ?_
    refine c_seq (by kernel_rfl) ?_
    refine c_block (id := 1) (by kernel_rfl) ?_
    refine c_text (id := 4) (by kernel_rfl) [(0, 2), (1, 2), (2, 2), (3, 2), (4, 2), (5, 2), (6, 2), (7, 2), (8, 2), (9, 2)] (by kernel_rfl) ?_
    refine q2 (o_s 18 (.move (.tmp 1)) 9 (by kernel_rfl)) F (by decide) (x_move (F.slot rfl)) (fun a F => ?_)
    refine q2 (o_s 19 (.move (.tmp 7)) 3 (by kernel_rfl)) F (by decide) (x_move (F.slot rfl)) (fun a F => ?_)
    refine q2 (o_s 20 (.move (.tmp 7)) 3 (by kernel_rfl)) F (by decide) (x_move (F.slot rfl)) (fun a F => ?_)
    refine q2 (o_s 21 (.binOp .add 3 (.tmp 20) (.const (.int .i64 64)) 3) 3 (by kernel_rfl)) F (by decide) (v := .int .i64 (IntKind.i64.wrap ((q : Int) + 64))) (x_int (F.slot rfl) rfl rfl) (fun a F => ?_)
    have F := F.conv (v' := .int .i64 ((q + 64 : Nat) : Int)) (congrArg (Value.int .i64) ((wrap_i64 _ (by omega) (by omega)).trans (by omega)))
    refine q2 (o_s 22 (.slice 9 (.tmp 18) (some (.tmp 19)) (some (.tmp 21)) none) 9 (by kernel_rfl)) F (by decide) (v := .string (s.extract (q : Int).toNat ((q + 64 : Nat) : Int).toNat)) (x_sliceSS Tryd.underlying9 (F.slot rfl) (F.slot rfl) (F.slot rfl) (by omega) (by omega) (by omega)) (fun a F => ?_)
    refine q2 (o_s 23 (.move (.tmp 2)) 3 (by kernel_rfl)) F (by decide) (x_move (F.slot rfl)) (fun a F => ?_)
    refine q2 (o_s 24 (.move (.tmp 7)) 3 (by kernel_rfl)) F (by decide) (x_move (F.slot rfl)) (fun a F => ?_)
    refine q2 (o_s 25 (.binOp .add 3 (.tmp 23) (.tmp 24) 3) 3 (by kernel_rfl)) F (by decide) (v := .int .i64 (IntKind.i64.wrap (0 + (q : Int)))) (x_int (F.slot rfl) (F.slot rfl) rfl) (fun a F => ?_)
    have F := F.conv (v' := .int .i64 (q : Int)) (congrArg (Value.int .i64) ((wrap_i64 _ (by omega) (by omega)).trans (by omega)))
    refine q2 (o_s 26 (.binOp .add 3 (.tmp 25) (.const (.int .i64 64)) 3) 3 (by kernel_rfl)) F (by decide) (v := .int .i64 (IntKind.i64.wrap ((q : Int) + 64))) (x_int (F.slot rfl) rfl rfl) (fun a F => ?_)
    have F := F.conv (v' := .int .i64 ((q + 64 : Nat) : Int)) (congrArg (Value.int .i64) ((wrap_i64 _ (by omega) (by omega)).trans (by omega)))
    have hx : (s.extract (q : Int).toNat ((q + 64 : Nat) : Int).toNat).toList = ((s.toList.drop q).take 64) := by rw [Lib.extract_toList, ← Lib.toList_data, Int.toNat_natCast, Int.toNat_natCast, Nat.add_sub_cancel_left]
    have HS := H.select [2, 0, 1] [Asn.blk g1 (wsN 8 h1) 115, Asn.rb 0 (wsN 8 firstsF) Ta, Asn.rb 1 rowsV Tb] rfl (by decide)
    obtain ⟨m, hm, hfm⟩ := fin_step s.toList k q h1 (by omega) hl
    refine sqc (o_s 27 (.call { callee := (.value (.func 97)), args := #[(.tmp 3), (.tmp 22), (.tmp 26), (.const (.bool false))], argTypes := #[115, 9, 3, 4] }) 0 (by kernel_rfl)) trivial F (by decide) (x_call Tryd.func97 (by kernel_rfl) rfl (args_4 (F.slot rfl) (F.slot rfl) (F.slot rfl) rfl)) (block_calls g1 h1 (s.extract (q : Int).toNat ((q + 64 : Nat) : Int).toNat) (by rw [hx]; simp; omega) ((q + 64 : Nat) : Int) false W HS) ?_
    rintro e W ⟨rfl, H1⟩
    refine ⟨_, rfl, fun a F => ?_⟩
    rw [hx, show ((q + 64 : Nat) : Int) = (0 + q + 64) from by push_cast; omega] at H1
    have H := H.back [2, 0, 1] [Asn.blk g1 (wsN 8 h1) 115, Asn.rb 0 (wsN 8 firstsF) Ta, Asn.rb 1 rowsV Tb] rfl (by decide) [Asn.blk g1 (wsN 8 (blockF h1 ((s.toList.drop q).take 64) (0 + q + 64) false)) 115, Asn.rb 0 (wsN 8 firstsF) Ta, Asn.rb 1 rowsV Tb] [] rfl H1
    clear HS
    have H : St w Sf Rf [Asn.rb 0 (wsN 8 firstsF) Ta, Asn.rb 1 rowsV Tb, Asn.blk g1 (wsN 8 (blockF h1 ((s.toList.drop q).take 64) (0 + q + 64) false)) 115] W := H
    refine ⟨(fun _ => trivial), ?_⟩
    unfold wpSeq
    refine b_normal ?_
    refine t_normal ?_
    refine c_text (id := 3) (by kernel_rfl) [(0, 2), (1, 2), (2, 2)] (by kernel_rfl) ?_
    refine q2 (o_s 16 (.move (.tmp 7)) 3 (by kernel_rfl)) F (by decide) (x_move (F.slot rfl)) (fun a F => ?_)
    refine q2 (o_s 17 (.binOp .add 3 (.tmp 16) (.const (.int .i64 64)) 3) 3 (by kernel_rfl)) F (by decide) (v := .int .i64 (IntKind.i64.wrap ((q : Int) + 64))) (x_int (F.slot rfl) rfl rfl) (fun a F => ?_)
    refine q2 (o_s 7 (.assign (.tmp 17)) 3 (by kernel_rfl)) F (by decide) (v := .int .i64 (IntKind.i64.wrap ((q : Int) + 64))) (x_assign (F.slot rfl)) (fun a F => ?_)
    unfold wpSeq
    refine t_normal ?_
    have F_ := F
    have F := F.at 7 rfl (v' := .int .i64 ((q + 64 : Nat) : Int)) (congrArg (Value.int .i64) ((wrap_i64 _ (by omega) (by omega)).trans (by omega)))
    exact ⟨k - 1, by omega, q + 64, _, F.less _ (subc rfl (subc rfl (subc rfl (subc rfl (subc rfl (subc rfl sub0)))))), H, (by omega), (by omega), (by rw [hm, Nat.add_sub_cancel]; exact hF.trans hfm)⟩
  · have hb2d := of_decide_eq_false hb2
    have F := F.at 15 rfl (v' := .bool false) (congrArg Value.bool hb2)
    refine c_no (c := .tmp 15) (by kernel_rfl) (F.slot rfl) ?_
    refine c_exit (id := 0) (by kernel_rfl) ?_
    refine t_exit ?_
    refine t_exit ?_
    refine b_here ?_
    refine t_normal ?_
    refine c_seq (by kernel_rfl) ?_
    refine c_text (id := 5) (by kernel_rfl) [(0, 2), (1, 2), (2, 2), (3, 2), (4, 2), (5, 2), (6, 2), (7, 2)] (by kernel_rfl) ?_
    refine q2 (o_s 28 (.move (.tmp 1)) 9 (by kernel_rfl)) F (by decide) (x_move (F.slot rfl)) (fun a F => ?_)
    refine q2 (o_s 29 (.move (.tmp 7)) 3 (by kernel_rfl)) F (by decide) (x_move (F.slot rfl)) (fun a F => ?_)
    refine q2 (o_s 30 (.slice 9 (.tmp 28) (some (.tmp 29)) none none) 9 (by kernel_rfl)) F (by decide) (v := .string (s.extract (q : Int).toNat s.size)) (x_sliceS Tryd.underlying9 (F.slot rfl) (F.slot rfl) (by omega) (by omega)) (fun a F => ?_)
    refine q2 (o_s 31 (.move (.tmp 2)) 3 (by kernel_rfl)) F (by decide) (x_move (F.slot rfl)) (fun a F => ?_)
    refine q2 (o_s 32 (.move (.tmp 1)) 9 (by kernel_rfl)) F (by decide) (x_move (F.slot rfl)) (fun a F => ?_)
    refine q2 (o_s 33 (.call { callee := (.builtin .len), args := #[(.tmp 32)], argTypes := #[9] }) 3 (by kernel_rfl)) F (by decide) (v := .int .i64 (s.size : Int)) (x_lenS Tryd.underlying9 (F.slot rfl)) (fun a F => ?_)
    refine q2 (o_s 34 (.binOp .add 3 (.tmp 31) (.tmp 33) 3) 3 (by kernel_rfl)) F (by decide) (v := .int .i64 (IntKind.i64.wrap (0 + (s.size : Int)))) (x_int (F.slot rfl) (F.slot rfl) rfl) (fun a F => ?_)
    have F := F.conv (v' := .int .i64 (s.size : Int)) (congrArg (Value.int .i64) ((wrap_i64 _ (by omega) (by omega)).trans (by omega)))
    have hx : (s.extract (q : Int).toNat s.size).toList = (s.toList.drop q) := by rw [Lib.extract_toList, ← Lib.toList_data, Int.toNat_natCast]; exact List.take_of_length_le (by rw [List.length_drop]; omega)
    have HS := H.select [2, 0, 1] [Asn.blk g1 (wsN 8 h1) 115, Asn.rb 0 (wsN 8 firstsF) Ta, Asn.rb 1 rowsV Tb] rfl (by decide)
    refine sqc (o_s 35 (.call { callee := (.value (.func 97)), args := #[(.tmp 3), (.tmp 30), (.tmp 34), (.const (.bool true))], argTypes := #[115, 9, 3, 4] }) 0 (by kernel_rfl)) trivial F (by decide) (x_call Tryd.func97 (by kernel_rfl) rfl (args_4 (F.slot rfl) (F.slot rfl) (F.slot rfl) rfl)) (block_calls g1 h1 (s.extract (q : Int).toNat s.size) (by rw [hx]; simp; omega) (s.size : Int) true W HS) ?_
    rintro e W ⟨rfl, H1⟩
    refine ⟨_, rfl, fun a F => ?_⟩
    rw [hx, show (s.size : Int) = (0 + s.toList.length) from by push_cast; omega] at H1
    have H := H.back [2, 0, 1] [Asn.blk g1 (wsN 8 h1) 115, Asn.rb 0 (wsN 8 firstsF) Ta, Asn.rb 1 rowsV Tb] rfl (by decide) [Asn.blk g1 (wsN 8 (blockF h1 (s.toList.drop q) (0 + s.toList.length) true)) 115, Asn.rb 0 (wsN 8 firstsF) Ta, Asn.rb 1 rowsV Tb] [] rfl H1
    clear HS
    have H : St w Sf Rf [Asn.rb 0 (wsN 8 firstsF) Ta, Asn.rb 1 rowsV Tb, Asn.blk g1 (wsN 8 (blockF h1 (s.toList.drop q) (0 + s.toList.length) true)) 115] W := H
    refine ⟨(fun _ => trivial), ?_⟩
    unfold wpSeq
    refine t_normal ?_
    refine c_seq (by kernel_rfl) ?_
    obtain ⟨h2, hh2⟩ : ∃ Z_, Z_ = (blockF h1 (s.toList.drop q) (0 + s.toList.length) true) := ⟨_, rfl⟩
    rw [← hh2] at H
    have hF := hF.trans (fin_end s.toList k q h1 (by omega))
    rw [← hh2] at hF
    have H : St w Sf Rf [Asn.rb 0 (wsN 8 firstsF) Ta, Asn.rb 1 rowsV Tb, Asn.blk g1 (wsN 8 h2) 115] W := H
    refine c_text (id := 6) (by kernel_rfl) [(0, 2)] (by kernel_rfl) ?_
    refine sq_new (o_s 8 (.alloc 125) 0 (by kernel_rfl)) trivial F (by decide) H [.int .u8 0, .int .u8 0, .int .u8 0, .int .u8 0, .int .u8 0, .int .u8 0, .int .u8 0, .int .u8 0, .int .u8 0, .int .u8 0, .int .u8 0, .int .u8 0, .int .u8 0, .int .u8 0, .int .u8 0, .int .u8 0, .int .u8 0, .int .u8 0, .int .u8 0, .int .u8 0, .int .u8 0, .int .u8 0, .int .u8 0, .int .u8 0, .int .u8 0, .int .u8 0, .int .u8 0, .int .u8 0, .int .u8 0, .int .u8 0, .int .u8 0, .int .u8 0] 125 (x_alloc Tryd.zeroValue125 rfl) ?_
    intro g3 W a hg3 H F
    refine ⟨(fun _ => trivial), ?_⟩
    unfold wpSeq
    have H : St w Sf Rf [Asn.rb 0 (wsN 8 firstsF) Ta, Asn.rb 1 rowsV Tb, Asn.blk g1 (wsN 8 h2) 115, Asn.blk g3 [.int .u8 0, .int .u8 0, .int .u8 0, .int .u8 0, .int .u8 0, .int .u8 0, .int .u8 0, .int .u8 0, .int .u8 0, .int .u8 0, .int .u8 0, .int .u8 0, .int .u8 0, .int .u8 0, .int .u8 0, .int .u8 0, .int .u8 0, .int .u8 0, .int .u8 0, .int .u8 0, .int .u8 0, .int .u8 0, .int .u8 0, .int .u8 0, .int .u8 0, .int .u8 0, .int .u8 0, .int .u8 0, .int .u8 0, .int .u8 0, .int .u8 0, .int .u8 0] 125] W := H
    refine t_normal ?_
    refine c_seq (by kernel_rfl) ?_
    refine c_seq (by kernel_rfl) ?_
    have e0 : bsN 32 (outP h2 0) = [.int .u8 0, .int .u8 0, .int .u8 0, .int .u8 0, .int .u8 0, .int .u8 0, .int .u8 0, .int .u8 0, .int .u8 0, .int .u8 0, .int .u8 0, .int .u8 0, .int .u8 0, .int .u8 0, .int .u8 0, .int .u8 0, .int .u8 0, .int .u8 0, .int .u8 0, .int .u8 0, .int .u8 0, .int .u8 0, .int .u8 0, .int .u8 0, .int .u8 0, .int .u8 0, .int .u8 0, .int .u8 0, .int .u8 0, .int .u8 0, .int .u8 0, .int .u8 0] := by simp [bsN, outP, List.range_succ]
    rw [← e0] at H
    have H : St w Sf Rf [Asn.rb 0 (wsN 8 firstsF) Ta, Asn.rb 1 rowsV Tb, Asn.blk g1 (wsN 8 h2) 115, Asn.blk g3 (bsN 32 (outP h2 0)) 125] W := H
    refine c_text (id := 7) (by kernel_rfl) [(0, 2), (1, 2)] (by kernel_rfl) ?_
    refine q2 (o_s 36 (.load 115 (.tmp 3)) 115 (by kernel_rfl)) F (by decide) (v := .agg (wsN 8 h2).toArray) (x_loadB (Tryd.isAgg115 W) (wsN 8 h2) (by rw [wsN_len]; exact Tryd.sizeOf115 W) (F.slot rfl) (H.blk 2 rfl)) (fun a F => ?_)
    refine q2 (o_s 37 (.move (.const (.int .i64 0))) 3 (by kernel_rfl)) F (by decide) (v := .int .i64 0) (x_move rfl) (fun a F => ?_)
    unfold wpSeq
    refine t_normal ?_
    refine c_block (id := 2) (by kernel_rfl) ?_
    refine c_loop (by kernel_rfl) (fun k a W => ∃ (n : Nat), Fr 70 [(0, .agg (wsN 8 h).toArray), (1, .string s), (2, .int .i64 0), (3, .pointer (some ⟨g1, 0, none⟩)), (6, .string ⟨#[]⟩), (7, .int .i64 (q : Int)), (11, .string s), (12, .int .i64 (s.size : Int)), (13, .int .i64 (q : Int)), (14, .int .i64 ((s.size : Int) - (q : Int))), (15, .bool false), (28, .string s), (29, .int .i64 (q : Int)), (30, .string (s.extract (q : Int).toNat s.size)), (31, .int .i64 0), (32, .string s), (33, .int .i64 (s.size : Int)), (34, .int .i64 (s.size : Int)), (8, .pointer (some ⟨g3, 0, none⟩)), (36, .agg (wsN 8 h2).toArray), (37, .int .i64 (n : Int))] a ∧ St w Sf Rf [Asn.rb 0 (wsN 8 firstsF) Ta, Asn.rb 1 rowsV Tb, Asn.blk g1 (wsN 8 h2) 115, Asn.blk g3 (bsN 32 (outP h2 n)) 125] W ∧ (n ≤ 8) ∧ (k + n = 8)) 8 ⟨0, F.less _ (subc rfl (subc rfl (subc rfl (subc rfl (subc rfl (subc rfl (subc rfl (subc rfl (subc rfl (subc rfl (subc rfl (subc rfl (subc rfl (subc rfl (subc rfl (subc rfl (subc rfl (subc rfl (subc rfl (subc rfl (subc rfl sub0))))))))))))))))))))), H, (by decide), rfl⟩ ?_
    rintro k a W ⟨n, F, H, hn, hkn⟩
    refine c_seq (by kernel_rfl) ?_
    refine c_text (id := 8) (by kernel_rfl) [(0, 2)] (by kernel_rfl) ?_
    refine q2 (o_s 38 (.binOp .lss 3 (.tmp 37) (.const (.int .i64 8)) 3) 0 (by kernel_rfl)) F (by decide) (v := .bool (decide ((n : Int) < (8 : Int)))) (x_int (F.slot rfl) rfl rfl) (fun a F => ?_)
    unfold wpSeq
    have H : St w Sf Rf [Asn.rb 0 (wsN 8 firstsF) Ta, Asn.rb 1 rowsV Tb, Asn.blk g1 (wsN 8 h2) 115, Asn.blk g3 (bsN 32 (outP h2 n)) 125] W := H
    refine t_normal ?_
    refine c_seq (by kernel_rfl) ?_
    rcases bool_or (decide ((n : Int) < (8 : Int))) with hb4 | hb4
    · have hb4d := of_decide_eq_true hb4
      have F := F.at 38 rfl (v' := .bool true) (congrArg Value.bool hb4)
      refine c_yes (c := .tmp 38) (by kernel_rfl) (F.slot rfl) ?_
      refine c_skip (by kernel_rfl) ?_
      refine t_normal ?_
      refine c_seq (by kernel_rfl) ?_
      refine c_block (id := 3) (by kernel_rfl) ?_
      refine c_seq (by kernel_rfl) ?_
      refine c_text (id := 9) (by kernel_rfl) [(0, 2), (1, 2), (2, 2), (3, 2)] (by kernel_rfl) ?_
      refine q2 (o_s 39 (.move (.tmp 37)) 3 (by kernel_rfl)) F (by decide) (x_move (F.slot rfl)) (fun a F => ?_)
      refine q2 (o_s 40 (.index 115 (.tmp 36) (.tmp 37)) 113 (by kernel_rfl)) F (by decide) (v := u (h2 n)) (x_word Tryd.underlying115 (Tryd.sizeOf113 W) (Tryd.isAgg113 W) (F.slot rfl) (F.slot rfl) (by omega)) (fun a F => ?_)
      refine q2 (o_s 9 (.assign (.tmp 39)) 3 (by kernel_rfl)) F (by decide) (v := .int .i64 (n : Int)) (x_assign (F.slot rfl)) (fun a F => ?_)
      refine q2 (o_s 10 (.assign (.tmp 40)) 113 (by kernel_rfl)) F (by decide) (v := u (h2 n)) (x_assign (F.slot rfl)) (fun a F => ?_)
      unfold wpSeq
      refine t_normal ?_
      refine c_text (id := 10) (by kernel_rfl) [(0, 2), (1, 2), (2, 2), (3, 2), (4, 2), (5, 2), (6, 2), (7, 2), (8, 2), (9, 2), (10, 2), (11, 2), (12, 2), (13, 2), (14, 2), (15, 2), (16, 2), (17, 2), (18, 2), (19, 2), (20, 2), (21, 2), (22, 2), (23, 2), (24, 2), (25, 2), (26, 2), (27, 2), (28, 2), (29, 2)] (by kernel_rfl) ?_
      refine q2 (o_s 41 (.move (.tmp 9)) 3 (by kernel_rfl)) F (by decide) (x_move (F.slot rfl)) (fun a F => ?_)
      refine q2 (o_s 42 (.binOp .mul 3 (.const (.int .i64 4)) (.tmp 41) 3) 3 (by kernel_rfl)) F (by decide) (v := .int .i64 (IntKind.i64.wrap (4 * (n : Int)))) (x_int rfl (F.slot rfl) rfl) (fun a F => ?_)
      have F := F.conv (v' := .int .i64 ((4 * n : Nat) : Int)) (congrArg (Value.int .i64) ((wrap_i64 _ (by omega) (by omega)).trans (by omega)))
      refine q2 (o_s 43 (.move (.tmp 9)) 3 (by kernel_rfl)) F (by decide) (x_move (F.slot rfl)) (fun a F => ?_)
      refine q2 (o_s 44 (.binOp .mul 3 (.const (.int .i64 4)) (.tmp 43) 3) 3 (by kernel_rfl)) F (by decide) (v := .int .i64 (IntKind.i64.wrap (4 * (n : Int)))) (x_int rfl (F.slot rfl) rfl) (fun a F => ?_)
      have F := F.conv (v' := .int .i64 ((4 * n : Nat) : Int)) (congrArg (Value.int .i64) ((wrap_i64 _ (by omega) (by omega)).trans (by omega)))
      refine q2 (o_s 45 (.binOp .add 3 (.tmp 44) (.const (.int .i64 1)) 3) 3 (by kernel_rfl)) F (by decide) (v := .int .i64 (IntKind.i64.wrap (((4 * n : Nat) : Int) + 1))) (x_int (F.slot rfl) rfl rfl) (fun a F => ?_)
      have F := F.conv (v' := .int .i64 ((4 * n + 1 : Nat) : Int)) (congrArg (Value.int .i64) ((wrap_i64 _ (by omega) (by omega)).trans (by omega)))
      refine q2 (o_s 46 (.move (.tmp 9)) 3 (by kernel_rfl)) F (by decide) (x_move (F.slot rfl)) (fun a F => ?_)
      refine q2 (o_s 47 (.binOp .mul 3 (.const (.int .i64 4)) (.tmp 46) 3) 3 (by kernel_rfl)) F (by decide) (v := .int .i64 (IntKind.i64.wrap (4 * (n : Int)))) (x_int rfl (F.slot rfl) rfl) (fun a F => ?_)
      have F := F.conv (v' := .int .i64 ((4 * n : Nat) : Int)) (congrArg (Value.int .i64) ((wrap_i64 _ (by omega) (by omega)).trans (by omega)))
      refine q2 (o_s 48 (.binOp .add 3 (.tmp 47) (.const (.int .i64 2)) 3) 3 (by kernel_rfl)) F (by decide) (v := .int .i64 (IntKind.i64.wrap (((4 * n : Nat) : Int) + 2))) (x_int (F.slot rfl) rfl rfl) (fun a F => ?_)
      have F := F.conv (v' := .int .i64 ((4 * n + 2 : Nat) : Int)) (congrArg (Value.int .i64) ((wrap_i64 _ (by omega) (by omega)).trans (by omega)))
      refine q2 (o_s 49 (.move (.tmp 9)) 3 (by kernel_rfl)) F (by decide) (x_move (F.slot rfl)) (fun a F => ?_)
      refine q2 (o_s 50 (.binOp .mul 3 (.const (.int .i64 4)) (.tmp 49) 3) 3 (by kernel_rfl)) F (by decide) (v := .int .i64 (IntKind.i64.wrap (4 * (n : Int)))) (x_int rfl (F.slot rfl) rfl) (fun a F => ?_)
      have F := F.conv (v' := .int .i64 ((4 * n : Nat) : Int)) (congrArg (Value.int .i64) ((wrap_i64 _ (by omega) (by omega)).trans (by omega)))
      refine q2 (o_s 51 (.binOp .add 3 (.tmp 50) (.const (.int .i64 3)) 3) 3 (by kernel_rfl)) F (by decide) (v := .int .i64 (IntKind.i64.wrap (((4 * n : Nat) : Int) + 3))) (x_int (F.slot rfl) rfl rfl) (fun a F => ?_)
      have F := F.conv (v' := .int .i64 ((4 * n + 3 : Nat) : Int)) (congrArg (Value.int .i64) ((wrap_i64 _ (by omega) (by omega)).trans (by omega)))
      refine q2 (o_s 52 (.move (.tmp 10)) 113 (by kernel_rfl)) F (by decide) (x_move (F.slot rfl)) (fun a F => ?_)
      refine q2 (o_s 53 (.convert 113 5 (.tmp 52)) 5 (by kernel_rfl)) F (by decide) (v := .int .u8 ((UInt8.ofNat (h2 n).toNat).toNat : Int)) (x_toU8 Tryd.underlying113 Tryd.underlying5 (F.slot rfl)) (fun a F => ?_)
      refine q2 (o_s 54 (.move (.tmp 10)) 113 (by kernel_rfl)) F (by decide) (x_move (F.slot rfl)) (fun a F => ?_)
      refine q2 (o_s 55 (.binOp .shr 113 (.tmp 54) (.const (.int .u64 8)) 105) 113 (by kernel_rfl)) F (by decide) (v := u ((h2 n) >>> 8)) (x_shr32 (n := 8) (by decide) (F.slot rfl) rfl) (fun a F => ?_)
      refine q2 (o_s 56 (.convert 113 5 (.tmp 55)) 5 (by kernel_rfl)) F (by decide) (v := .int .u8 ((UInt8.ofNat ((h2 n) >>> 8).toNat).toNat : Int)) (x_toU8 Tryd.underlying113 Tryd.underlying5 (F.slot rfl)) (fun a F => ?_)
      refine q2 (o_s 57 (.move (.tmp 10)) 113 (by kernel_rfl)) F (by decide) (x_move (F.slot rfl)) (fun a F => ?_)
      refine q2 (o_s 58 (.binOp .shr 113 (.tmp 57) (.const (.int .u64 16)) 105) 113 (by kernel_rfl)) F (by decide) (v := u ((h2 n) >>> 16)) (x_shr32 (n := 16) (by decide) (F.slot rfl) rfl) (fun a F => ?_)
      refine q2 (o_s 59 (.convert 113 5 (.tmp 58)) 5 (by kernel_rfl)) F (by decide) (v := .int .u8 ((UInt8.ofNat ((h2 n) >>> 16).toNat).toNat : Int)) (x_toU8 Tryd.underlying113 Tryd.underlying5 (F.slot rfl)) (fun a F => ?_)
      refine q2 (o_s 60 (.move (.tmp 10)) 113 (by kernel_rfl)) F (by decide) (x_move (F.slot rfl)) (fun a F => ?_)
      refine q2 (o_s 61 (.binOp .shr 113 (.tmp 60) (.const (.int .u64 24)) 105) 113 (by kernel_rfl)) F (by decide) (v := u ((h2 n) >>> 24)) (x_shr32 (n := 24) (by decide) (F.slot rfl) rfl) (fun a F => ?_)
      refine q2 (o_s 62 (.convert 113 5 (.tmp 61)) 5 (by kernel_rfl)) F (by decide) (v := .int .u8 ((UInt8.ofNat ((h2 n) >>> 24).toNat).toNat : Int)) (x_toU8 Tryd.underlying113 Tryd.underlying5 (F.slot rfl)) (fun a F => ?_)
      refine q2 (o_s 63 (.indexAddr 125 (.tmp 8) (.tmp 42)) 0 (by kernel_rfl)) F (by decide) (v := .pointer (some ⟨g3, (4 * n), none⟩)) ((x_indexAr Tryd.underlying125 (Tryd.sizeOf5 W) (F.slot rfl) (F.slot rfl) (by omega) (by omega)).trans (by rw [addo]; simp)) (fun a F => ?_)
      refine sq_put (M := [Asn.rb 0 (wsN 8 firstsF) Ta, Asn.rb 1 rowsV Tb, Asn.blk g1 (wsN 8 h2) 115, Asn.blk g3 (bsN 32 (updB (outP h2 n) (4 * n) (UInt8.ofNat (h2 n).toNat))) 125]) (o_n (.store 5 (.tmp 63) (.tmp 53)) 0 (by kernel_rfl)) trivial F (by rw [← bs_upd (outP h2 n) (by omega) (UInt8.ofNat (h2 n).toNat)]; exact x_store1 H (k := 3) rfl (Tryd.sizeOf5 W) (F.slot rfl) (F.slot rfl) rfl rfl (by rw [bsN_len]; omega)) ?_
      intro W H
      refine ⟨(fun _ => trivial), ?_⟩
      refine q2 (o_s 64 (.indexAddr 125 (.tmp 8) (.tmp 45)) 0 (by kernel_rfl)) F (by decide) (v := .pointer (some ⟨g3, (4 * n + 1), none⟩)) ((x_indexAr Tryd.underlying125 (Tryd.sizeOf5 W) (F.slot rfl) (F.slot rfl) (by omega) (by omega)).trans (by rw [addo]; simp)) (fun a F => ?_)
      refine sq_put (M := [Asn.rb 0 (wsN 8 firstsF) Ta, Asn.rb 1 rowsV Tb, Asn.blk g1 (wsN 8 h2) 115, Asn.blk g3 (bsN 32 (updB (updB (outP h2 n) (4 * n) (UInt8.ofNat (h2 n).toNat)) (4 * n + 1) (UInt8.ofNat ((h2 n) >>> 8).toNat))) 125]) (o_n (.store 5 (.tmp 64) (.tmp 56)) 0 (by kernel_rfl)) trivial F (by rw [← bs_upd (updB (outP h2 n) (4 * n) (UInt8.ofNat (h2 n).toNat)) (by omega) (UInt8.ofNat ((h2 n) >>> 8).toNat)]; exact x_store1 H (k := 3) rfl (Tryd.sizeOf5 W) (F.slot rfl) (F.slot rfl) rfl rfl (by rw [bsN_len]; omega)) ?_
      intro W H
      refine ⟨(fun _ => trivial), ?_⟩
      refine q2 (o_s 65 (.indexAddr 125 (.tmp 8) (.tmp 48)) 0 (by kernel_rfl)) F (by decide) (v := .pointer (some ⟨g3, (4 * n + 2), none⟩)) ((x_indexAr Tryd.underlying125 (Tryd.sizeOf5 W) (F.slot rfl) (F.slot rfl) (by omega) (by omega)).trans (by rw [addo]; simp)) (fun a F => ?_)
      refine sq_put (M := [Asn.rb 0 (wsN 8 firstsF) Ta, Asn.rb 1 rowsV Tb, Asn.blk g1 (wsN 8 h2) 115, Asn.blk g3 (bsN 32 (updB (updB (updB (outP h2 n) (4 * n) (UInt8.ofNat (h2 n).toNat)) (4 * n + 1) (UInt8.ofNat ((h2 n) >>> 8).toNat)) (4 * n + 2) (UInt8.ofNat ((h2 n) >>> 16).toNat))) 125]) (o_n (.store 5 (.tmp 65) (.tmp 59)) 0 (by kernel_rfl)) trivial F (by rw [← bs_upd (updB (updB (outP h2 n) (4 * n) (UInt8.ofNat (h2 n).toNat)) (4 * n + 1) (UInt8.ofNat ((h2 n) >>> 8).toNat)) (by omega) (UInt8.ofNat ((h2 n) >>> 16).toNat)]; exact x_store1 H (k := 3) rfl (Tryd.sizeOf5 W) (F.slot rfl) (F.slot rfl) rfl rfl (by rw [bsN_len]; omega)) ?_
      intro W H
      refine ⟨(fun _ => trivial), ?_⟩
      refine q2 (o_s 66 (.indexAddr 125 (.tmp 8) (.tmp 51)) 0 (by kernel_rfl)) F (by decide) (v := .pointer (some ⟨g3, (4 * n + 3), none⟩)) ((x_indexAr Tryd.underlying125 (Tryd.sizeOf5 W) (F.slot rfl) (F.slot rfl) (by omega) (by omega)).trans (by rw [addo]; simp)) (fun a F => ?_)
      refine sq_put (M := [Asn.rb 0 (wsN 8 firstsF) Ta, Asn.rb 1 rowsV Tb, Asn.blk g1 (wsN 8 h2) 115, Asn.blk g3 (bsN 32 (updB (updB (updB (updB (outP h2 n) (4 * n) (UInt8.ofNat (h2 n).toNat)) (4 * n + 1) (UInt8.ofNat ((h2 n) >>> 8).toNat)) (4 * n + 2) (UInt8.ofNat ((h2 n) >>> 16).toNat)) (4 * n + 3) (UInt8.ofNat ((h2 n) >>> 24).toNat))) 125]) (o_n (.store 5 (.tmp 66) (.tmp 62)) 0 (by kernel_rfl)) trivial F (by rw [← bs_upd (updB (updB (updB (outP h2 n) (4 * n) (UInt8.ofNat (h2 n).toNat)) (4 * n + 1) (UInt8.ofNat ((h2 n) >>> 8).toNat)) (4 * n + 2) (UInt8.ofNat ((h2 n) >>> 16).toNat)) (by omega) (UInt8.ofNat ((h2 n) >>> 24).toNat)]; exact x_store1 H (k := 3) rfl (Tryd.sizeOf5 W) (F.slot rfl) (F.slot rfl) rfl rfl (by rw [bsN_len]; omega)) ?_
      intro W H
      refine ⟨(fun _ => trivial), ?_⟩
      unfold wpSeq
      have F := F.less [(0, .agg (wsN 8 h).toArray), (1, .string s), (2, .int .i64 0), (3, .pointer (some ⟨g1, 0, none⟩)), (6, .string ⟨#[]⟩), (7, .int .i64 (q : Int)), (11, .string s), (12, .int .i64 (s.size : Int)), (13, .int .i64 (q : Int)), (14, .int .i64 ((s.size : Int) - (q : Int))), (15, .bool false), (28, .string s), (29, .int .i64 (q : Int)), (30, .string (s.extract (q : Int).toNat s.size)), (31, .int .i64 0), (32, .string s), (33, .int .i64 (s.size : Int)), (34, .int .i64 (s.size : Int)), (8, .pointer (some ⟨g3, 0, none⟩)), (36, .agg (wsN 8 h2).toArray), (37, .int .i64 (n : Int)), (38, .bool true), (39, .int .i64 (n : Int)), (40, u (h2 n))] (subc rfl (subc rfl (subc rfl (subc rfl (subc rfl (subc rfl (subc rfl (subc rfl (subc rfl (subc rfl (subc rfl (subc rfl (subc rfl (subc rfl (subc rfl (subc rfl (subc rfl (subc rfl (subc rfl (subc rfl (subc rfl (subc rfl (subc rfl (subc rfl sub0))))))))))))))))))))))))
      refine b_normal ?_
      refine t_normal ?_
      refine c_text (id := 11) (by kernel_rfl) [(0, 2), (1, 2)] (by kernel_rfl) ?_
      refine q2 (o_s 67 (.binOp .add 3 (.tmp 37) (.const (.int .i64 1)) 3) 3 (by kernel_rfl)) F (by decide) (v := .int .i64 (IntKind.i64.wrap ((n : Int) + 1))) (x_int (F.slot rfl) rfl rfl) (fun a F => ?_)
      refine q2 (o_s 37 (.move (.tmp 67)) 3 (by kernel_rfl)) F (by decide) (x_move (F.slot rfl)) (fun a F => ?_)
      unfold wpSeq
      refine t_normal ?_
      have F_ := F
      rw [outP_succ] at H
      have F := F.at 37 rfl (v' := .int .i64 ((n + 1 : Nat) : Int)) (congrArg (Value.int .i64) ((wrap_i64 _ (by omega) (by omega)).trans (by omega)))
      exact ⟨k - 1, by omega, n + 1, F.less _ (subc rfl (subc rfl (subc rfl (subc rfl (subc rfl (subc rfl (subc rfl (subc rfl (subc rfl (subc rfl (subc rfl (subc rfl (subc rfl (subc rfl (subc rfl (subc rfl (subc rfl (subc rfl (subc rfl (subc rfl (subc rfl sub0))))))))))))))))))))), H, (by omega), (by omega)⟩
    · have hb4d := of_decide_eq_false hb4
      have F := F.at 38 rfl (v' := .bool false) (congrArg Value.bool hb4)
      refine c_no (c := .tmp 38) (by kernel_rfl) (F.slot rfl) ?_
      refine c_exit (id := 2) (by kernel_rfl) ?_
      refine t_exit ?_
      refine t_exit ?_
      refine b_here ?_
      refine t_normal ?_
      refine c_seq (by kernel_rfl) ?_
      refine c_text (id := 12) (by kernel_rfl) [(0, 2), (1, 2), (2, 2)] (by kernel_rfl) ?_
      refine q2 (o_s 68 (.slice 125 (.tmp 8) none none none) 104 (by kernel_rfl)) F (by decide) (v := .slice (some ⟨g3, 0, none⟩) 32 32) (x_sliceAr Tryd.underlying125 (Tryd.sizeOf5 W) (F.slot rfl) (by decide)) (fun a F => ?_)
      obtain rfl : n = 8 := by omega
      refine q2 (o_s 69 (.convert 104 9 (.tmp 68)) 9 (by kernel_rfl)) F (by decide) (v := .string ⟨(outF h2).toArray⟩) (x_bytes Tryd.underlying104 Tryd.underlying5 Tryd.underlying9 (F.slot rfl) (H.blk 3 rfl) (out_all h2)) (fun a F => ?_)
      refine q2 (o_s 6 (.assign (.tmp 69)) 9 (by kernel_rfl)) F (by decide) (v := .string ⟨(outF h2).toArray⟩) (x_assign (F.slot rfl)) (fun a F => ?_)
      unfold wpSeq
      have H : St w Sf Rf [Asn.rb 0 (wsN 8 firstsF) Ta, Asn.rb 1 rowsV Tb, Asn.blk g1 (wsN 8 h2) 115, Asn.blk g3 (bsN 32 (outP h2 8)) 125] W := H
      refine t_normal ?_
      refine c_ret (by kernel_rfl) ?_
      refine p_tmp Tryd.results87 F rfl ?_
      rw [hF]
      exact ⟨rfl, H.front 2⟩
theorem sum_calls {Ta Tb : TypeId} (s : ByteArray) (hs : s.size < 4611686018427387904) (w : World) (h0 : w.heap[0]? = some (.cells (wsN 8 firstsF).toArray Ta (0, 0))) (h1 : w.heap[1]? = some (.cells rowsV.toArray Tb (0, 0))) :
    Calls Tryd.prog 66 #[.string s] w fun e W => e = .returned (.string ⟨(sumF s.toList).toArray⟩) ∧ Below w.heap.size w W := by
  have H0 : St w (fun _ => False) (fun _ => True) [Asn.rb 0 (wsN 8 firstsF) Ta, Asn.rb 1 rowsV Tb] w := St.rbs h0 h1
  refine c_enter2 (args := [.string s]) (S := (fun _ => False)) (R := (fun _ => True)) (M := [Asn.rb 0 (wsN 8 firstsF) Ta, Asn.rb 1 rowsV Tb]) Tryd.func66 (by kernel_rfl) 6 Tryd.ntmps66 (Nat.le_of_ble_eq_true rfl) (H0) (fun a W F H => ?_)
  have F := F.less [(0, .string s)] (subc rfl sub0)
  refine c_seq (by kernel_rfl) ?_
  refine c_text (id := 0) (by kernel_rfl) [(0, 2)] (by kernel_rfl) ?_
  refine q2 (o_s 2 (.assign (.const (.string { data := #[] }))) 9 (by kernel_rfl)) F (by decide) (v := .string ⟨#[]⟩) (x_assign rfl) (fun a F => ?_)
  unfold wpSeq
  have H : St w (fun _ => False) (fun _ => True) [Asn.rb 0 (wsN 8 firstsF) Ta, Asn.rb 1 rowsV Tb] W := H
  refine t_normal ?_
  refine c_seq (by kernel_rfl) ?_
  refine c_text (id := 1) (by kernel_rfl) [(0, 2), (1, 2), (2, 2), (3, 2)] (by kernel_rfl) ?_
  have HS := H.select [0, 1] [Asn.rb 0 (wsN 8 firstsF) Ta, Asn.rb 1 rowsV Tb] rfl (by decide)
  refine sqc (o_s 3 (.call { callee := (.value (.func 86)), args := #[(.const (.int .i64 0))], argTypes := #[3] }) 115 (by kernel_rfl)) trivial F (by decide) (x_call Tryd.func86 (by kernel_rfl) rfl (args_1 rfl)) (begun_calls W HS) ?_
  rintro e W ⟨rfl, H1⟩
  refine ⟨_, rfl, fun a F => ?_⟩
  have H := H.back [0, 1] [Asn.rb 0 (wsN 8 firstsF) Ta, Asn.rb 1 rowsV Tb] rfl (by decide) [Asn.rb 0 (wsN 8 firstsF) Ta, Asn.rb 1 rowsV Tb] [] rfl H1
  clear HS H1
  refine ⟨(fun _ => trivial), ?_⟩
  refine q2 (o_s 4 (.move (.tmp 0)) 9 (by kernel_rfl)) F (by decide) (x_move (F.slot rfl)) (fun a F => ?_)
  have HS := H.select [0, 1] [Asn.rb 0 (wsN 8 firstsF) Ta, Asn.rb 1 rowsV Tb] rfl (by decide)
  refine sqc (o_s 5 (.call { callee := (.value (.func 87)), args := #[(.tmp 3), (.tmp 4), (.const (.int .i64 0))], argTypes := #[115, 9, 3] }) 9 (by kernel_rfl)) trivial F (by decide) (x_call Tryd.func87 (by kernel_rfl) rfl (args_3 (F.slot rfl) (F.slot rfl) rfl)) (finish_calls (beginF 0) s hs W HS) ?_
  rintro e W ⟨rfl, H1⟩
  refine ⟨_, rfl, fun a F => ?_⟩
  have H := H.back [0, 1] [Asn.rb 0 (wsN 8 firstsF) Ta, Asn.rb 1 rowsV Tb] rfl (by decide) [Asn.rb 0 (wsN 8 firstsF) Ta, Asn.rb 1 rowsV Tb] [] rfl H1
  clear HS H1
  refine ⟨(fun _ => trivial), ?_⟩
  refine q2 (o_s 2 (.assign (.tmp 5)) 9 (by kernel_rfl)) F (by decide) (v := .string ⟨(outF (finF s.toList 0 s.toList.length 0 (beginF 0))).toArray⟩) (x_assign (F.slot rfl)) (fun a F => ?_)
  unfold wpSeq
  refine t_normal ?_
  refine c_ret (by kernel_rfl) ?_
  refine p_tmp Tryd.results66 F rfl ?_
  exact ⟨rfl, H.ends⟩
end Go.Proofs.YtndicjikjcifaaaDoor

/- batch.Digest. -/
namespace Go.Proofs.YtndicjikjcifaaaDoor
open Go.RowKit Go.Proofs.YtndicjikjcifaaaDoorW.PrintWords Go.Proofs.YtndicjikjcifaaaDoorW.PrintLast
set_option linter.unusedVariables false
set_option linter.unusedSimpArgs false
set_option maxRecDepth 100000
open Bl
open PB (S33 k33)
def bdig (a n : Int) (l : List S33) : ByteArray := if (benc a n l).2 = 0 then ⟨(sumF (benc a n l).1.toList).toArray⟩ else ⟨#[]⟩
theorem bdig_calls {Ta Tb : TypeId} (au n : Int) (A : Option Addr) (c : Nat) (l : List S33) (w : World) (hr : k33.C w A l.length l) (hc : l.length ≤ c) (hl : l.length < 4611686018427387904) (hp : ∀ t ∈ l, 0 ≤ t.f3 ∧ 0 ≤ t.f4) (hsz : bchk au n l = 0 → (lbL (l.map encT)).length ≤ 140737488355328) (h16 : bchk au n l = 0 → l.length ≤ 16) (hw : (wI au).size ≤ 100 ∧ (wI n).size ≤ 100)
    (hb : (benc au n l).1.size < 4611686018427387904) (h0 : w.heap[0]? = some (.cells (wsN 8 firstsF).toArray Ta (0, 0))) (h1 : w.heap[1]? = some (.cells rowsV.toArray Tb (0, 0))) :
    Calls Tryd.prog 35 #[.agg #[.int .i64 au, .int .i64 n, .slice A l.length c]] w fun e w' => e = .returned (.string (bdig au n l)) ∧ Below w.heap.size w w' := by
  have H0 : St w (fun _ => False) (fun _ => True) [Asn.ft (fun W => k33.C W A l.length l) (fun k => k < w.heap.size)] w := (St.first w _ _).old _ (k33_old hr) (fun B hB => by cases hB)
  obtain ⟨b, x, he⟩ : ∃ b x, benc au n l = (b, x) := ⟨_, _, rfl⟩
  rw [he] at hb
  dsimp only at hb
  refine c_enter2 (args := [.agg #[.int .i64 au, .int .i64 n, .slice A l.length c]]) (S := (fun _ => False)) (R := (fun _ => True)) (M := [Asn.ft (fun W => k33.C W A l.length l) (fun k => k < w.heap.size)]) Tryd.func35 (by kernel_rfl) 14 Tryd.ntmps35 (Nat.le_of_ble_eq_true rfl) (H0) (fun a W F H => ?_)
  have F := F.less [(0, .agg #[.int .i64 au, .int .i64 n, .slice A l.length c])] (subc rfl sub0)
  refine c_seq (by kernel_rfl) ?_
  refine c_text (id := 0) (by kernel_rfl) [(0, 2), (1, 2)] (by kernel_rfl) ?_
  refine sq_new (o_s 1 (.box 40 (.tmp 0)) 0 (by kernel_rfl)) trivial F (by decide) H [.int .i64 au, .int .i64 n, .slice A l.length c] 40 (x_box (F.slot rfl) rfl) ?_
  intro g1 W a hg1 H F
  refine ⟨(fun _ => trivial), ?_⟩
  refine q2 (o_s 2 (.assign (.const (.string { data := #[] }))) 9 (by kernel_rfl)) F (by decide) (v := .string ⟨#[]⟩) (x_assign rfl) (fun a F => ?_)
  unfold wpSeq
  have H : St w (fun _ => False) (fun _ => True) [Asn.ft (fun W => k33.C W A l.length l) (fun k => k < w.heap.size), Asn.blk g1 [.int .i64 au, .int .i64 n, .slice A l.length c] 40] W := H
  refine t_normal ?_
  refine c_seq (by kernel_rfl) ?_
  refine c_text (id := 1) (by kernel_rfl) [(0, 2), (1, 2), (2, 2), (3, 2), (4, 2), (5, 2), (6, 2)] (by kernel_rfl) ?_
  refine q2 (o_s 6 (.load 40 (.tmp 1)) 40 (by kernel_rfl)) F (by decide) (v := .agg #[.int .i64 au, .int .i64 n, .slice A l.length c]) (x_loadB (Tryd.isAgg40 W) [.int .i64 au, .int .i64 n, .slice A l.length c] (Tryd.sizeOf40 W) (F.slot rfl) (H.blk 1 rfl)) (fun a F => ?_)
  have HK := benc_calls au n A c l W (H.rd 0 rfl) hc hl hp hsz h16 hw
  rw [he] at HK
  refine sqc (o_s 7 (.call { callee := (.value (.func 31)), args := #[(.tmp 6)], argTypes := #[40] }) 55 (by kernel_rfl)) trivial F (by decide) (x_call Tryd.func31 (by kernel_rfl) rfl (args_1 (F.slot rfl))) (HK) ?_
  rintro e W ⟨rfl, hB⟩
  refine ⟨_, rfl, fun a F => ?_⟩
  have H := H.below hB
  refine ⟨(fun _ => trivial), ?_⟩
  refine q2 (o_s 5 (.move (.tmp 7)) 55 (by kernel_rfl)) F (by decide) (x_move (F.slot rfl)) (fun a F => ?_)
  refine q2 (o_s 8 (.extract (.tmp 5) 0) 9 (by kernel_rfl)) F (by decide) (v := .string b) (x_extract (F.slot rfl) rfl) (fun a F => ?_)
  refine q2 (o_s 9 (.extract (.tmp 5) 1) 24 (by kernel_rfl)) F (by decide) (v := .int .i64 x) (x_extract (F.slot rfl) rfl) (fun a F => ?_)
  refine q2 (o_s 3 (.assign (.tmp 8)) 9 (by kernel_rfl)) F (by decide) (v := .string b) (x_assign (F.slot rfl)) (fun a F => ?_)
  refine q2 (o_s 4 (.assign (.tmp 9)) 24 (by kernel_rfl)) F (by decide) (v := .int .i64 x) (x_assign (F.slot rfl)) (fun a F => ?_)
  unfold wpSeq
  refine t_normal ?_
  refine c_seq (by kernel_rfl) ?_
  refine c_seq (by kernel_rfl) ?_
  refine c_text (id := 2) (by kernel_rfl) [(0, 2), (1, 2)] (by kernel_rfl) ?_
  refine q2 (o_s 10 (.move (.tmp 4)) 24 (by kernel_rfl)) F (by decide) (x_move (F.slot rfl)) (fun a F => ?_)
  refine q2 (o_s 11 (.binOp .neq 24 (.tmp 10) (.const (.int .i64 0)) 24) 4 (by kernel_rfl)) F (by decide) (v := .bool (x != (0 : Int))) (x_int (F.slot rfl) rfl rfl) (fun a F => ?_)
  unfold wpSeq
  refine t_normal ?_
  rcases bool_or (x != (0 : Int)) with hb2 | hb2
  · have F := F.at 11 rfl (v' := .bool true) (congrArg Value.bool hb2)
    refine c_yes (c := .tmp 11) (by kernel_rfl) (F.slot rfl) ?_
    refine c_seq (by kernel_rfl) ?_
    refine c_text (id := 3) (by kernel_rfl) [(0, 2)] (by kernel_rfl) ?_
    refine q2 (o_s 2 (.assign (.const (.string { data := #[] }))) 9 (by kernel_rfl)) F (by decide) (v := .string ⟨#[]⟩) (x_assign rfl) (fun a F => ?_)
    unfold wpSeq
    refine t_normal ?_
    refine c_ret (by kernel_rfl) ?_
    refine t_ret ?_
    refine p_tmp Tryd.results35 F rfl ?_
    have hx : x ≠ 0 := by simpa using hb2
    rw [show bdig au n l = ⟨#[]⟩ from by unfold bdig; rw [he]; exact if_neg hx]
    exact ⟨rfl, H.ends⟩
  · have F := F.at 11 rfl (v' := .bool false) (congrArg Value.bool hb2)
    refine c_no (c := .tmp 11) (by kernel_rfl) (F.slot rfl) ?_
    refine c_skip (by kernel_rfl) ?_
    refine t_normal ?_
    refine c_seq (by kernel_rfl) ?_
    refine c_text (id := 4) (by kernel_rfl) [(0, 2), (1, 2), (2, 2)] (by kernel_rfl) ?_
    refine q2 (o_s 12 (.move (.tmp 3)) 9 (by kernel_rfl)) F (by decide) (x_move (F.slot rfl)) (fun a F => ?_)
    have e0 := H.low.block _ (blk_lt h0) (fun h => h)
    have e1 := H.low.block _ (blk_lt h1) (fun h => h)
    refine sqc (o_s 13 (.call { callee := (.value (.func 66)), args := #[(.tmp 12)], argTypes := #[9] }) 9 (by kernel_rfl)) trivial F (by decide) (x_call Tryd.func66 (by kernel_rfl) rfl (args_1 (F.slot rfl))) (sum_calls b hb W (e0.trans h0) (e1.trans h1)) ?_
    rintro e W ⟨rfl, hB⟩
    refine ⟨_, rfl, fun a F => ?_⟩
    have H := H.below hB
    refine ⟨(fun _ => trivial), ?_⟩
    refine q2 (o_s 2 (.assign (.tmp 13)) 9 (by kernel_rfl)) F (by decide) (v := .string ⟨(sumF b.toList).toArray⟩) (x_assign (F.slot rfl)) (fun a F => ?_)
    unfold wpSeq
    refine t_normal ?_
    refine c_ret (by kernel_rfl) ?_
    refine p_tmp Tryd.results35 F rfl ?_
    have hx : x = 0 := by simpa using hb2
    rw [show bdig au n l = ⟨(sumF b.toList).toArray⟩ from by unfold bdig; rw [he]; exact if_pos hx]
    exact ⟨rfl, H.ends⟩
end Go.Proofs.YtndicjikjcifaaaDoor

/- batch.Digest, with no condition beyond the row's own and the two variables. -/
namespace Go.Proofs.YtndicjikjcifaaaDoor
open Go.RowKit Go.Shelf Go.Lib Go.Proofs.YtndicjikjcifaaaDoorW.PrintWords Go.Proofs.YtndicjikjcifaaaDoorW.PrintLast Bl
open PB (S33 k33)
theorem bdig_calls' {Ta Tb : TypeId} (au n : Int) (A : Option Addr) (c : Nat) (l : List S33) (w : World) (hr : k33.C w A l.length l) (hc : l.length ≤ c) (hl : l.length < 4611686018427387904) (hp : ∀ t ∈ l, 0 ≤ t.f3 ∧ 0 ≤ t.f4)
    (h0 : w.heap[0]? = some (.cells (wsN 8 firstsF).toArray Ta (0, 0))) (h1 : w.heap[1]? = some (.cells rowsV.toArray Tb (0, 0))) :
    Calls Tryd.prog 35 #[.agg #[.int .i64 au, .int .i64 n, .slice A l.length c]] w fun e w' => e = .returned (.string (bdig au n l)) ∧ Below w.heap.size w w' :=
  bdig_calls au n A c l w hr hc hl hp (fun h => Nat.le_trans (batch_size h) (by decide)) (fun h => (bchk_ok h).2.2.2.2.2.1) ⟨wI_size au, wI_size n⟩ (Nat.lt_of_le_of_lt (benc_size au n l) (by decide)) h0 h1
end Go.Proofs.YtndicjikjcifaaaDoor

/- BatchChecks. -/
namespace Go.Proofs.YtndicjikjcifaaaDoor
open Go.RowKit Go.Proofs.YtndicjikjcifaaaDoorW.PrintWords Go.Proofs.YtndicjikjcifaaaDoorW.PrintLast
set_option linter.unusedVariables false
set_option linter.unusedSimpArgs false
set_option maxRecDepth 100000
open Bl
open PB (S33 k33)
theorem rbdig_calls (au n : Int) (A : Option Addr) (c : Nat) (l : List S33) (w : World) (hr : k33.C w A l.length l) (hc : l.length ≤ c) (hl : l.length < 4611686018427387904) (hL : ∀ t ∈ l, LimT t) (hp : ∀ t ∈ l, 0 ≤ t.f3 ∧ 0 ≤ t.f4) :
    Calls Tryd.prog 36 #[.agg #[.int .i64 au, .int .i64 n, .slice A l.length c]] w fun e w' => e = .returned (.string (bdig au n l)) ∧ Below w.heap.size w w' := by
  have H0 : St w (fun _ => False) (fun _ => True) [Asn.rd k33 (fun k => k < w.heap.size) A l.length l] w := (St.first w _ _).old _ (k33_oldC hr) (fun B hB => by cases hB)
  have hb := benc_size au n l
  obtain ⟨b, x, he⟩ : ∃ b x, benc au n l = (b, x) := ⟨_, _, rfl⟩
  rw [he] at hb
  dsimp only at hb
  refine c_enter2 (args := [.agg #[.int .i64 au, .int .i64 n, .slice A l.length c]]) (S := (fun _ => False)) (R := (fun _ => True)) (M := [Asn.rd k33 (fun k => k < w.heap.size) A l.length l]) Tryd.func36 (by kernel_rfl) 14 Tryd.ntmps36 (Nat.le_of_ble_eq_true rfl) (H0) (fun a W F H => ?_)
  have F := F.less [(0, .agg #[.int .i64 au, .int .i64 n, .slice A l.length c])] (subc rfl sub0)
  refine c_seq (by kernel_rfl) ?_
  refine c_text (id := 0) (by kernel_rfl) [(0, 2), (1, 2)] (by kernel_rfl) ?_
  refine sq_new (o_s 1 (.box 40 (.tmp 0)) 0 (by kernel_rfl)) trivial F (by decide) H [.int .i64 au, .int .i64 n, .slice A l.length c] 40 (x_box (F.slot rfl) rfl) ?_
  intro g1 W a hg1 H F
  refine ⟨(fun _ => trivial), ?_⟩
  refine q2 (o_s 2 (.assign (.const (.string { data := #[] }))) 9 (by kernel_rfl)) F (by decide) (v := .string ⟨#[]⟩) (x_assign rfl) (fun a F => ?_)
  unfold wpSeq
  have H : St w (fun _ => False) (fun _ => True) [Asn.rd k33 (fun k => k < w.heap.size) A l.length l, Asn.blk g1 [.int .i64 au, .int .i64 n, .slice A l.length c] 40] W := H
  refine t_normal ?_
  refine c_seq (by kernel_rfl) ?_
  refine c_text (id := 1) (by kernel_rfl) [(0, 2), (1, 2), (2, 2), (3, 2), (4, 2), (5, 2), (6, 2)] (by kernel_rfl) ?_
  refine q2 (o_s 6 (.load 40 (.tmp 1)) 40 (by kernel_rfl)) F (by decide) (v := .agg #[.int .i64 au, .int .i64 n, .slice A l.length c]) (x_loadB (Tryd.isAgg40 W) [.int .i64 au, .int .i64 n, .slice A l.length c] (Tryd.sizeOf40 W) (F.slot rfl) (H.blk 1 rfl)) (fun a F => ?_)
  have HK := rbenc_calls au n A c l W (H.rd 0 rfl) hc hl hL hp
  rw [he] at HK
  refine sqc (o_s 7 (.call { callee := (.value (.func 32)), args := #[(.tmp 6)], argTypes := #[40] }) 55 (by kernel_rfl)) trivial F (by decide) (x_call Tryd.func32 (by kernel_rfl) rfl (args_1 (F.slot rfl))) (HK) ?_
  rintro e W ⟨rfl, hB⟩
  refine ⟨_, rfl, fun a F => ?_⟩
  have H := H.below hB
  refine ⟨(fun _ => trivial), ?_⟩
  refine q2 (o_s 5 (.move (.tmp 7)) 55 (by kernel_rfl)) F (by decide) (x_move (F.slot rfl)) (fun a F => ?_)
  refine q2 (o_s 8 (.extract (.tmp 5) 0) 9 (by kernel_rfl)) F (by decide) (v := .string b) (x_extract (F.slot rfl) rfl) (fun a F => ?_)
  refine q2 (o_s 9 (.extract (.tmp 5) 1) 24 (by kernel_rfl)) F (by decide) (v := .int .i64 x) (x_extract (F.slot rfl) rfl) (fun a F => ?_)
  refine q2 (o_s 3 (.assign (.tmp 8)) 9 (by kernel_rfl)) F (by decide) (v := .string b) (x_assign (F.slot rfl)) (fun a F => ?_)
  refine q2 (o_s 4 (.assign (.tmp 9)) 24 (by kernel_rfl)) F (by decide) (v := .int .i64 x) (x_assign (F.slot rfl)) (fun a F => ?_)
  unfold wpSeq
  refine t_normal ?_
  refine c_seq (by kernel_rfl) ?_
  refine c_seq (by kernel_rfl) ?_
  refine c_text (id := 2) (by kernel_rfl) [(0, 2), (1, 2)] (by kernel_rfl) ?_
  refine q2 (o_s 10 (.move (.tmp 4)) 24 (by kernel_rfl)) F (by decide) (x_move (F.slot rfl)) (fun a F => ?_)
  refine q2 (o_s 11 (.binOp .neq 24 (.tmp 10) (.const (.int .i64 0)) 24) 4 (by kernel_rfl)) F (by decide) (v := .bool (x != (0 : Int))) (x_int (F.slot rfl) rfl rfl) (fun a F => ?_)
  unfold wpSeq
  refine t_normal ?_
  rcases bool_or (x != (0 : Int)) with hb2 | hb2
  · have F := F.at 11 rfl (v' := .bool true) (congrArg Value.bool hb2)
    refine c_yes (c := .tmp 11) (by kernel_rfl) (F.slot rfl) ?_
    refine c_seq (by kernel_rfl) ?_
    refine c_text (id := 3) (by kernel_rfl) [(0, 2)] (by kernel_rfl) ?_
    refine q2 (o_s 2 (.assign (.const (.string { data := #[] }))) 9 (by kernel_rfl)) F (by decide) (v := .string ⟨#[]⟩) (x_assign rfl) (fun a F => ?_)
    unfold wpSeq
    refine t_normal ?_
    refine c_ret (by kernel_rfl) ?_
    refine t_ret ?_
    refine p_tmp Tryd.results36 F rfl ?_
    have hx : x ≠ 0 := by simpa using hb2
    rw [show bdig au n l = ⟨#[]⟩ from by unfold bdig; rw [he]; exact if_neg hx]
    exact ⟨rfl, H.ends⟩
  · have F := F.at 11 rfl (v' := .bool false) (congrArg Value.bool hb2)
    refine c_no (c := .tmp 11) (by kernel_rfl) (F.slot rfl) ?_
    refine c_skip (by kernel_rfl) ?_
    refine t_normal ?_
    refine c_seq (by kernel_rfl) ?_
    refine c_text (id := 4) (by kernel_rfl) [(0, 2), (1, 2), (2, 2)] (by kernel_rfl) ?_
    refine q2 (o_s 12 (.move (.tmp 3)) 9 (by kernel_rfl)) F (by decide) (x_move (F.slot rfl)) (fun a F => ?_)
    refine sqc (o_s 13 (.call { callee := (.value (.func 67)), args := #[(.tmp 12)], argTypes := #[9] }) 9 (by kernel_rfl)) trivial F (by decide) (x_call Tryd.func67 (by kernel_rfl) rfl (args_1 (F.slot rfl))) (rsum_calls b (by omega) W) ?_
    rintro e W ⟨rfl, hB⟩
    refine ⟨_, rfl, fun a F => ?_⟩
    have H := H.below hB
    refine ⟨(fun _ => trivial), ?_⟩
    refine q2 (o_s 2 (.assign (.tmp 13)) 9 (by kernel_rfl)) F (by decide) (v := .string ⟨(sumF b.toList).toArray⟩) (x_assign (F.slot rfl)) (fun a F => ?_)
    unfold wpSeq
    refine t_normal ?_
    refine c_ret (by kernel_rfl) ?_
    refine p_tmp Tryd.results36 F rfl ?_
    have hx : x = 0 := by simpa using hb2
    rw [show bdig au n l = ⟨(sumF b.toList).toArray⟩ from by unfold bdig; rw [he]; exact if_pos hx]
    exact ⟨rfl, H.ends⟩
set_option maxHeartbeats 1000000 in
theorem batchChecks_calls {Ta Tb : TypeId} (au n : Int) (A : Option Addr) (c : Nat) (l : List S33) (w : World) (hr : k33.C w A l.length l) (hc : l.length ≤ c) (hl : l.length < 1034834473200) (hLB : ∀ t ∈ l, LenB t) (hL : ∀ t ∈ l, LimT t) (hp : ∀ t ∈ l, 0 ≤ t.f3 ∧ 0 ≤ t.f4)
    (h0 : w.heap[0]? = some (.cells (wsN 8 firstsF).toArray Ta (0, 0))) (h1 : w.heap[1]? = some (.cells rowsV.toArray Tb (0, 0))) : Calls Tryd.prog 6 #[.agg #[.int .i64 au, .int .i64 n, .slice A l.length c]] w fun e W => e = .returned (.bool true) ∧ Below w.heap.size w W := by
  have H0 : St w (fun _ => False) (fun _ => True) [Asn.rd k33 (fun k => k < w.heap.size) A l.length l] w := (St.first w _ _).old _ (k33_oldC hr) (fun B hB => by cases hB)
  obtain ⟨b, x, he⟩ : ∃ b x, benc au n l = (b, x) := ⟨_, _, rfl⟩
  refine c_enter2 (args := [.agg #[.int .i64 au, .int .i64 n, .slice A l.length c]]) (S := (fun _ => False)) (R := (fun _ => True)) (M := [Asn.rd k33 (fun k => k < w.heap.size) A l.length l]) Tryd.func6 (by kernel_rfl) 51 Tryd.ntmps6 (Nat.le_of_ble_eq_true rfl) (H0) (fun a W F H => ?_)
  have F := F.less [(0, .agg #[.int .i64 au, .int .i64 n, .slice A l.length c])] (subc rfl sub0)
  refine c_seq (by kernel_rfl) ?_
  refine c_text (id := 0) (by kernel_rfl) [(0, 2), (1, 2)] (by kernel_rfl) ?_
  refine sq_new (o_s 1 (.box 40 (.tmp 0)) 0 (by kernel_rfl)) trivial F (by decide) H [.int .i64 au, .int .i64 n, .slice A l.length c] 40 (x_box (F.slot rfl) rfl) ?_
  intro g1 W a hg1 H F
  refine ⟨(fun _ => trivial), ?_⟩
  refine q2 (o_s 2 (.assign (.const (.bool false))) 4 (by kernel_rfl)) F (by decide) (v := .bool false) (x_assign rfl) (fun a F => ?_)
  unfold wpSeq
  have H : St w (fun _ => False) (fun _ => True) [Asn.rd k33 (fun k => k < w.heap.size) A l.length l, Asn.blk g1 [.int .i64 au, .int .i64 n, .slice A l.length c] 40] W := H
  refine t_normal ?_
  refine c_seq (by kernel_rfl) ?_
  refine c_seq (by kernel_rfl) ?_
  refine c_text (id := 1) (by kernel_rfl) [(0, 2), (1, 2), (2, 2), (3, 2)] (by kernel_rfl) ?_
  refine q2 (o_s 8 (.fieldAddr 40 (.tmp 1) 2) 0 (by kernel_rfl)) F (by decide) (v := .pointer (some ⟨g1, 2, none⟩)) (x_field0 Tryd.underlying40 rfl rfl (Tryd.sizeOf38 W) (F.slot rfl)) (fun a F => ?_)
  refine q2 (o_s 9 (.load 38 (.tmp 8)) 38 (by kernel_rfl)) F (by decide) (v := .slice A l.length c) (x_load1 (Tryd.isAgg38 W) (F.slot rfl) (H.cell 1 rfl rfl)) (fun a F => ?_)
  refine q2 (o_s 10 (.call { callee := (.builtin .len), args := #[(.tmp 9)], argTypes := #[38] }) 3 (by kernel_rfl)) F (by decide) (v := .int .i64 (l.length : Int)) (x_lenL Tryd.underlying38 (F.slot rfl)) (fun a F => ?_)
  refine q2 (o_s 11 (.binOp .gtr 3 (.tmp 10) (.const (.int .i64 100)) 3) 4 (by kernel_rfl)) F (by decide) (v := .bool (decide ((l.length : Int) > (100 : Int)))) (x_int (F.slot rfl) rfl rfl) (fun a F => ?_)
  unfold wpSeq
  refine t_normal ?_
  rcases bool_or (decide ((l.length : Int) > (100 : Int))) with hb2 | hb2
  · have hb2d := of_decide_eq_true hb2
    have F := F.at 11 rfl (v' := .bool true) (congrArg Value.bool hb2)
    refine c_yes (c := .tmp 11) (by kernel_rfl) (F.slot rfl) ?_
    refine c_seq (by kernel_rfl) ?_
    refine c_text (id := 2) (by kernel_rfl) [(0, 2)] (by kernel_rfl) ?_
    refine q2 (o_s 2 (.assign (.const (.bool true))) 4 (by kernel_rfl)) F (by decide) (v := .bool true) (x_assign rfl) (fun a F => ?_)
    unfold wpSeq
    refine t_normal ?_
    refine c_ret (by kernel_rfl) ?_
    refine t_ret ?_
    refine p_tmp Tryd.results6 F rfl ?_
    exact ⟨rfl, H.ends⟩
  · have hb2d := of_decide_eq_false hb2
    have F := F.at 11 rfl (v' := .bool false) (congrArg Value.bool hb2)
    refine c_no (c := .tmp 11) (by kernel_rfl) (F.slot rfl) ?_
    refine c_skip (by kernel_rfl) ?_
    refine t_normal ?_
    refine c_seq (by kernel_rfl) ?_
    refine c_text (id := 3) (by kernel_rfl) [(0, 2), (1, 2), (2, 2), (3, 2)] (by kernel_rfl) ?_
    refine q2 (o_s 12 (.load 40 (.tmp 1)) 40 (by kernel_rfl)) F (by decide) (v := .agg #[.int .i64 au, .int .i64 n, .slice A l.length c]) (x_loadB (Tryd.isAgg40 W) [.int .i64 au, .int .i64 n, .slice A l.length c] (Tryd.sizeOf40 W) (F.slot rfl) (H.blk 1 rfl)) (fun a F => ?_)
    refine sqc (o_s 13 (.call { callee := (.value (.func 30)), args := #[(.tmp 12)], argTypes := #[40] }) 40 (by kernel_rfl)) trivial F (by decide) (x_call Tryd.func30 (by kernel_rfl) rfl (args_1 (F.slot rfl))) (bown_calls au n A c l W hl hLB (H.rd 0 rfl) hc) ?_
    rintro e W ⟨Ao, co, rfl, hco, hF, hB⟩
    refine ⟨_, rfl, fun a F => ?_⟩
    have H := H.freshF hB _ _ hF (fun k hk => hk)
    have H : St w (fun _ => False) (fun _ => True) [Asn.rd k33 (fun k => k < w.heap.size) A l.length l, Asn.blk g1 [.int .i64 au, .int .i64 n, .slice A l.length c] 40, Asn.rd k33 _ Ao l.length l] W := H
    refine ⟨(fun _ => trivial), ?_⟩
    refine sq_new (o_s 3 (.alloc 40) 0 (by kernel_rfl)) trivial F (by decide) H [.int .i64 0, .int .i64 0, .slice none 0 0] 40 (x_alloc Tryd.zeroValue40 rfl) ?_
    intro g3 W a hg3 H F
    refine ⟨(fun _ => trivial), ?_⟩
    refine sq_put (M := [Asn.rd k33 (fun k => k < w.heap.size) A l.length l, Asn.blk g1 [.int .i64 au, .int .i64 n, .slice A l.length c] 40, Asn.rd k33 _ Ao l.length l, Asn.blk g3 [.int .i64 au, .int .i64 n, .slice Ao l.length co] 40]) (o_n (.store 40 (.tmp 3) (.tmp 13)) 0 (by kernel_rfl)) trivial F (x_store H (k := 3) (cs' := [.int .i64 au, .int .i64 n, .slice Ao l.length co]) rfl (Tryd.sizeOf40 W) (F.slot rfl) (F.slot rfl) rfl (Nat.le_of_ble_eq_true rfl) rfl rfl) ?_
    intro W H
    refine ⟨(fun _ => trivial), ?_⟩
    unfold wpSeq
    refine t_normal ?_
    refine c_seq (by kernel_rfl) ?_
    refine c_text (id := 4) (by kernel_rfl) [(0, 2), (1, 2), (2, 2), (3, 2), (4, 2), (5, 2), (6, 2)] (by kernel_rfl) ?_
    refine q2 (o_s 15 (.load 40 (.tmp 3)) 40 (by kernel_rfl)) F (by decide) (v := .agg #[.int .i64 au, .int .i64 n, .slice Ao l.length co]) (x_loadB (Tryd.isAgg40 W) [.int .i64 au, .int .i64 n, .slice Ao l.length co] (Tryd.sizeOf40 W) (F.slot rfl) (H.blk 3 rfl)) (fun a F => ?_)
    have HK := benc_calls' au n Ao co l W (H.rd 2 rfl) hco (by omega) hp
    rw [he] at HK
    refine sqc (o_s 16 (.call { callee := (.value (.func 31)), args := #[(.tmp 15)], argTypes := #[40] }) 55 (by kernel_rfl)) trivial F (by decide) (x_call Tryd.func31 (by kernel_rfl) rfl (args_1 (F.slot rfl))) (HK) ?_
    rintro e W ⟨rfl, hB⟩
    refine ⟨_, rfl, fun a F => ?_⟩
    have H := H.below hB
    refine ⟨(fun _ => trivial), ?_⟩
    refine q2 (o_s 14 (.move (.tmp 16)) 55 (by kernel_rfl)) F (by decide) (x_move (F.slot rfl)) (fun a F => ?_)
    refine q2 (o_s 17 (.extract (.tmp 14) 0) 9 (by kernel_rfl)) F (by decide) (v := .string b) (x_extract (F.slot rfl) rfl) (fun a F => ?_)
    refine q2 (o_s 18 (.extract (.tmp 14) 1) 24 (by kernel_rfl)) F (by decide) (v := .int .i64 x) (x_extract (F.slot rfl) rfl) (fun a F => ?_)
    refine q2 (o_s 4 (.assign (.tmp 17)) 9 (by kernel_rfl)) F (by decide) (v := .string b) (x_assign (F.slot rfl)) (fun a F => ?_)
    refine q2 (o_s 5 (.assign (.tmp 18)) 24 (by kernel_rfl)) F (by decide) (v := .int .i64 x) (x_assign (F.slot rfl)) (fun a F => ?_)
    unfold wpSeq
    refine t_normal ?_
    refine c_seq (by kernel_rfl) ?_
    refine c_text (id := 5) (by kernel_rfl) [(0, 2), (1, 2), (2, 2), (3, 2), (4, 2), (5, 2), (6, 2)] (by kernel_rfl) ?_
    refine q2 (o_s 20 (.load 40 (.tmp 1)) 40 (by kernel_rfl)) F (by decide) (v := .agg #[.int .i64 au, .int .i64 n, .slice A l.length c]) (x_loadB (Tryd.isAgg40 W) [.int .i64 au, .int .i64 n, .slice A l.length c] (Tryd.sizeOf40 W) (F.slot rfl) (H.blk 1 rfl)) (fun a F => ?_)
    have HK := rbenc_calls au n A c l W (H.rd 0 rfl) hc (by omega) hL hp
    rw [he] at HK
    refine sqc (o_s 21 (.call { callee := (.value (.func 32)), args := #[(.tmp 20)], argTypes := #[40] }) 55 (by kernel_rfl)) trivial F (by decide) (x_call Tryd.func32 (by kernel_rfl) rfl (args_1 (F.slot rfl))) (HK) ?_
    rintro e W ⟨rfl, hB⟩
    refine ⟨_, rfl, fun a F => ?_⟩
    have H := H.below hB
    refine ⟨(fun _ => trivial), ?_⟩
    refine q2 (o_s 19 (.move (.tmp 21)) 55 (by kernel_rfl)) F (by decide) (x_move (F.slot rfl)) (fun a F => ?_)
    refine q2 (o_s 22 (.extract (.tmp 19) 0) 9 (by kernel_rfl)) F (by decide) (v := .string b) (x_extract (F.slot rfl) rfl) (fun a F => ?_)
    refine q2 (o_s 23 (.extract (.tmp 19) 1) 24 (by kernel_rfl)) F (by decide) (v := .int .i64 x) (x_extract (F.slot rfl) rfl) (fun a F => ?_)
    refine q2 (o_s 6 (.assign (.tmp 22)) 9 (by kernel_rfl)) F (by decide) (v := .string b) (x_assign (F.slot rfl)) (fun a F => ?_)
    refine q2 (o_s 7 (.assign (.tmp 23)) 24 (by kernel_rfl)) F (by decide) (v := .int .i64 x) (x_assign (F.slot rfl)) (fun a F => ?_)
    unfold wpSeq
    refine t_normal ?_
    refine c_seq (by kernel_rfl) ?_
    refine c_drawn (id := 6) (by kernel_rfl) (by kernel_rfl) (Vs [Asn.blk g3 [.int .i64 au, .int .i64 n, .slice Ao l.length co] 40, Asn.blk g1 [.int .i64 au, .int .i64 n, .slice A l.length c] 40]) [0, 1, 0, 7, 15, 31, 63, 63, 255, 511, 1023, 2047, 2047, 8191, 16383, 32767, 65535, 131071, 65535, 524287, 1048575, 2097151, 4194303, 8388607, 8388607, 33554431, 67108863, 134217727] [] [(0, 1), (2, 1), (1, 2), (3, 2), (4, 0), (5, 0), (6, 0), (7, 0), (8, 0), (9, 0), (10, 0), (11, 0), (12, 0), (13, 0), (14, 0), (15, 0), (16, 1), (18, 1), (17, 2), (19, 2), (20, 0), (21, 0), (22, 0), (23, 1), (24, 1), (25, 2), (26, 0), (27, 0)] (by kernel_rfl) (fun _ _ d _ _ h => by cases d <;> exact h) (Vs.drew ⟨H.get 3 rfl, H.get 1 rfl, trivial⟩) ?_
    have H := H.drew
    generalize World.drew W = W at H ⊢
    refine q1 (o_s 24 (.load 40 (.tmp 3)) 40 (by kernel_rfl)) F (by decide) (⟨H.get 3 rfl, H.get 1 rfl, trivial⟩) (v := .agg #[.int .i64 au, .int .i64 n, .slice Ao l.length co]) (fun W_ hV => x_loadB (Tryd.isAgg40 W_) [.int .i64 au, .int .i64 n, .slice Ao l.length co] (Tryd.sizeOf40 W_) (F.slot rfl) (hV.1)) (fun a F => ?_)
    refine q1 (o_s 26 (.load 40 (.tmp 1)) 40 (by kernel_rfl)) F (by decide) (⟨H.get 3 rfl, H.get 1 rfl, trivial⟩) (v := .agg #[.int .i64 au, .int .i64 n, .slice A l.length c]) (fun W_ hV => x_loadB (Tryd.isAgg40 W_) [.int .i64 au, .int .i64 n, .slice A l.length c] (Tryd.sizeOf40 W_) (F.slot rfl) (hV.2.1)) (fun a F => ?_)
    refine sqc (o_s 25 (.call { callee := (.value (.func 33)), args := #[(.tmp 24)], argTypes := #[40] }) 24 (by kernel_rfl)) trivial F (by decide) (x_call Tryd.func33 (by kernel_rfl) rfl (args_1 (F.slot rfl))) (bchk_calls au n Ao co l W (by omega) (H.rd 2 rfl) hco) ?_
    rintro e W ⟨rfl, hB⟩
    refine ⟨_, rfl, fun a F => ?_⟩
    have H := H.below hB
    refine ⟨(fun _ => ⟨H.get 3 rfl, H.get 1 rfl, trivial⟩), ?_⟩
    refine sqc (o_s 27 (.call { callee := (.value (.func 34)), args := #[(.tmp 26)], argTypes := #[40] }) 24 (by kernel_rfl)) trivial F (by decide) (x_call Tryd.func34 (by kernel_rfl) rfl (args_1 (F.slot rfl))) (rbchk_calls au n A c l W (by omega) hL (H.rd 0 rfl) hc) ?_
    rintro e W ⟨rfl, hB⟩
    refine ⟨_, rfl, fun a F => ?_⟩
    have H := H.below hB
    refine ⟨(fun _ => ⟨H.get 3 rfl, H.get 1 rfl, trivial⟩), ?_⟩
    refine q0 (o_s 28 (.binOp .eql 24 (.tmp 25) (.tmp 27) 24) 4 (by kernel_rfl)) F (by decide) (v := .bool ((bchk au n l) == (bchk au n l))) (fun W_ => x_int (F.slot rfl) (F.slot rfl) rfl) (fun a F => ?_)
    refine q0 (o_s 29 (.move (.tmp 28)) 4 (by kernel_rfl)) F (by decide) (fun W_ => x_move (F.slot rfl)) (fun a F => ?_)
    have hb5 : ((bchk au n l) == (bchk au n l)) = true := by simp
    have F := F.at 29 rfl (v' := .bool true) (congrArg Value.bool hb5)
    refine sq0 (o_g 30 (.move (.tmp 4)) 9 5 true (by kernel_rfl)) ⟨29, by kernel_rfl, rfl⟩ F (by decide) (v := .string b) (fun W_ => x_move (F.slot rfl)) (fun a F => ?_)
    refine sq0 (o_g 31 (.move (.tmp 6)) 9 5 true (by kernel_rfl)) ⟨29, by kernel_rfl, rfl⟩ F (by decide) (v := .string b) (fun W_ => x_move (F.slot rfl)) (fun a F => ?_)
    refine sq0 (o_g 32 (.binOp .eql 9 (.tmp 30) (.tmp 31) 9) 4 5 true (by kernel_rfl)) ⟨29, by kernel_rfl, rfl⟩ F (by decide) (v := .bool (b.toList == b.toList)) (fun W_ => x_bin (F.slot rfl) (F.slot rfl) rfl) (fun a F => ?_)
    refine q0 (o_s 33 (.pick (.tmp 29) (.tmp 32) (.const (.bool false))) 4 (by kernel_rfl)) F (by decide) (v := .bool (b.toList == b.toList)) (fun W_ => x_pickT (F.slot rfl) (F.slot rfl)) (fun a F => ?_)
    refine q0 (o_s 34 (.move (.tmp 33)) 4 (by kernel_rfl)) F (by decide) (fun W_ => x_move (F.slot rfl)) (fun a F => ?_)
    have hb6 : (b.toList == b.toList) = true := by simp
    have F := F.at 34 rfl (v' := .bool true) (congrArg Value.bool hb6)
    refine sq0 (o_g 35 (.move (.tmp 5)) 24 10 true (by kernel_rfl)) ⟨34, by kernel_rfl, rfl⟩ F (by decide) (v := .int .i64 x) (fun W_ => x_move (F.slot rfl)) (fun a F => ?_)
    refine sq0 (o_g 36 (.move (.tmp 7)) 24 10 true (by kernel_rfl)) ⟨34, by kernel_rfl, rfl⟩ F (by decide) (v := .int .i64 x) (fun W_ => x_move (F.slot rfl)) (fun a F => ?_)
    refine sq0 (o_g 37 (.binOp .eql 24 (.tmp 35) (.tmp 36) 24) 4 10 true (by kernel_rfl)) ⟨34, by kernel_rfl, rfl⟩ F (by decide) (v := .bool (x == x)) (fun W_ => x_int (F.slot rfl) (F.slot rfl) rfl) (fun a F => ?_)
    refine q0 (o_s 38 (.pick (.tmp 34) (.tmp 37) (.const (.bool false))) 4 (by kernel_rfl)) F (by decide) (v := .bool (x == x)) (fun W_ => x_pickT (F.slot rfl) (F.slot rfl)) (fun a F => ?_)
    refine q0 (o_s 39 (.move (.tmp 38)) 4 (by kernel_rfl)) F (by decide) (fun W_ => x_move (F.slot rfl)) (fun a F => ?_)
    have hb7 : (x == x) = true := by simp
    have F := F.at 39 rfl (v' := .bool true) (congrArg Value.bool hb7)
    refine sq1 (o_g 40 (.load 40 (.tmp 3)) 40 15 true (by kernel_rfl)) ⟨39, by kernel_rfl, rfl⟩ F (by decide) (⟨H.get 3 rfl, H.get 1 rfl, trivial⟩) (v := .agg #[.int .i64 au, .int .i64 n, .slice Ao l.length co]) (fun W_ hV => x_loadB (Tryd.isAgg40 W_) [.int .i64 au, .int .i64 n, .slice Ao l.length co] (Tryd.sizeOf40 W_) (F.slot rfl) (hV.1)) (fun a F => ?_)
    refine sq1 (o_g 42 (.load 40 (.tmp 1)) 40 15 true (by kernel_rfl)) ⟨39, by kernel_rfl, rfl⟩ F (by decide) (⟨H.get 3 rfl, H.get 1 rfl, trivial⟩) (v := .agg #[.int .i64 au, .int .i64 n, .slice A l.length c]) (fun W_ hV => x_loadB (Tryd.isAgg40 W_) [.int .i64 au, .int .i64 n, .slice A l.length c] (Tryd.sizeOf40 W_) (F.slot rfl) (hV.2.1)) (fun a F => ?_)
    refine sqc (o_g 41 (.call { callee := (.value (.func 35)), args := #[(.tmp 40)], argTypes := #[40] }) 9 15 true (by kernel_rfl)) ⟨39, by kernel_rfl, rfl⟩ F (by decide) (x_call Tryd.func35 (by kernel_rfl) rfl (args_1 (F.slot rfl))) (bdig_calls' au n Ao co l W (H.rd 2 rfl) hco (by omega) hp ((H.low.block _ (blk_lt h0) (fun h => h)).trans h0) ((H.low.block _ (blk_lt h1) (fun h => h)).trans h1)) ?_
    rintro e W ⟨rfl, hB⟩
    refine ⟨_, rfl, fun a F => ?_⟩
    have H := H.below hB
    refine ⟨(fun _ => ⟨H.get 3 rfl, H.get 1 rfl, trivial⟩), ?_⟩
    refine sqc (o_g 43 (.call { callee := (.value (.func 36)), args := #[(.tmp 42)], argTypes := #[40] }) 9 15 true (by kernel_rfl)) ⟨39, by kernel_rfl, rfl⟩ F (by decide) (x_call Tryd.func36 (by kernel_rfl) rfl (args_1 (F.slot rfl))) (rbdig_calls au n A c l W (H.rd 0 rfl) hc (by omega) hL hp) ?_
    rintro e W ⟨rfl, hB⟩
    refine ⟨_, rfl, fun a F => ?_⟩
    have H := H.below hB
    refine ⟨(fun _ => ⟨H.get 3 rfl, H.get 1 rfl, trivial⟩), ?_⟩
    refine sq0 (o_g 44 (.binOp .eql 9 (.tmp 41) (.tmp 43) 9) 4 15 true (by kernel_rfl)) ⟨39, by kernel_rfl, rfl⟩ F (by decide) (v := .bool ((bdig au n l).toList == (bdig au n l).toList)) (fun W_ => x_bin (F.slot rfl) (F.slot rfl) rfl) (fun a F => ?_)
    refine q0 (o_s 45 (.pick (.tmp 39) (.tmp 44) (.const (.bool false))) 4 (by kernel_rfl)) F (by decide) (v := .bool ((bdig au n l).toList == (bdig au n l).toList)) (fun W_ => x_pickT (F.slot rfl) (F.slot rfl)) (fun a F => ?_)
    refine q0 (o_s 46 (.move (.tmp 45)) 4 (by kernel_rfl)) F (by decide) (fun W_ => x_move (F.slot rfl)) (fun a F => ?_)
    have hb8 : ((bdig au n l).toList == (bdig au n l).toList) = true := by simp
    have F := F.at 46 rfl (v' := .bool true) (congrArg Value.bool hb8)
    refine sq1 (o_g 47 (.load 40 (.tmp 3)) 40 22 true (by kernel_rfl)) ⟨46, by kernel_rfl, rfl⟩ F (by decide) (⟨H.get 3 rfl, H.get 1 rfl, trivial⟩) (v := .agg #[.int .i64 au, .int .i64 n, .slice Ao l.length co]) (fun W_ hV => x_loadB (Tryd.isAgg40 W_) [.int .i64 au, .int .i64 n, .slice Ao l.length co] (Tryd.sizeOf40 W_) (F.slot rfl) (hV.1)) (fun a F => ?_)
    refine sq1 (o_g 48 (.load 40 (.tmp 1)) 40 22 true (by kernel_rfl)) ⟨46, by kernel_rfl, rfl⟩ F (by decide) (⟨H.get 3 rfl, H.get 1 rfl, trivial⟩) (v := .agg #[.int .i64 au, .int .i64 n, .slice A l.length c]) (fun W_ hV => x_loadB (Tryd.isAgg40 W_) [.int .i64 au, .int .i64 n, .slice A l.length c] (Tryd.sizeOf40 W_) (F.slot rfl) (hV.2.1)) (fun a F => ?_)
    refine sqc (o_g 49 (.call { callee := (.value (.func 23)), args := #[(.tmp 47), (.tmp 48)], argTypes := #[40, 40] }) 4 22 true (by kernel_rfl)) ⟨46, by kernel_rfl, rfl⟩ F (by decide) (x_call Tryd.func23 (by kernel_rfl) rfl (args_2 (F.slot rfl) (F.slot rfl))) (bsame_calls au n Ao A co c l W (by omega) (fun t ht => ⟨by have := (hLB t ht).1; omega, by have := (hLB t ht).2; omega⟩) (H.rd 2 rfl) hco (H.rd 0 rfl) hc) ?_
    rintro e W ⟨rfl, hB⟩
    refine ⟨_, rfl, fun a F => ?_⟩
    have H := H.below hB
    refine ⟨(fun _ => ⟨H.get 3 rfl, H.get 1 rfl, trivial⟩), ?_⟩
    refine q0 (o_s 50 (.pick (.tmp 46) (.tmp 49) (.const (.bool false))) 4 (by kernel_rfl)) F (by decide) (v := .bool true) (fun W_ => x_pickT (F.slot rfl) (F.slot rfl)) (fun a F => ?_)
    refine q0 (o_s 2 (.assign (.tmp 50)) 4 (by kernel_rfl)) F (by decide) (v := .bool true) (fun W_ => x_assign (F.slot rfl)) (fun a F => ?_)
    unfold wpSeq
    have F := F.less [(0, .agg #[.int .i64 au, .int .i64 n, .slice A l.length c]), (1, .pointer (some ⟨g1, 0, none⟩)), (2, .bool true), (8, .pointer (some ⟨g1, 2, none⟩)), (9, .slice A l.length c), (10, .int .i64 (l.length : Int)), (11, .bool false), (12, .agg #[.int .i64 au, .int .i64 n, .slice A l.length c]), (13, .agg #[.int .i64 au, .int .i64 n, .slice Ao l.length co]), (3, .pointer (some ⟨g3, 0, none⟩)), (15, .agg #[.int .i64 au, .int .i64 n, .slice Ao l.length co]), (16, .tuple #[.string b, .int .i64 x]), (14, .tuple #[.string b, .int .i64 x]), (17, .string b), (18, .int .i64 x), (20, .agg #[.int .i64 au, .int .i64 n, .slice A l.length c]), (21, .tuple #[.string b, .int .i64 x]), (19, .tuple #[.string b, .int .i64 x]), (22, .string b), (23, .int .i64 x)] (subc rfl (subc rfl (subc rfl (subc rfl (subc rfl (subc rfl (subc rfl (subc rfl (subc rfl (subc rfl (subc rfl (subc rfl (subc rfl (subc rfl (subc rfl (subc rfl (subc rfl (subc rfl (subc rfl (subc rfl sub0))))))))))))))))))))
    refine t_normal ?_
    refine c_ret (by kernel_rfl) ?_
    refine p_tmp Tryd.results6 F rfl ?_
    exact ⟨rfl, H.ends⟩
end Go.Proofs.YtndicjikjcifaaaDoor

/- tusklaw05.pay. -/
namespace Go.Proofs.YtndicjikjcifaaaDoor
open Go.RowKit Go.Proofs.YtndicjikjcifaaaDoorW.PrintWords Go.Proofs.YtndicjikjcifaaaDoorW.PrintLast
set_option linter.unusedVariables false
set_option linter.unusedSimpArgs false
set_option maxRecDepth 100000
open PB (S33 k33)
end Go.Proofs.YtndicjikjcifaaaDoor

/- tx.Decode and tx.Encode turn each other round. -/
namespace Go.Proofs.YtndicjikjcifaaaDoor
open Go.RowKit Go.Shelf Go.Lib Go.Proofs.YtndicjikjcifaaaDoorW.PrintWords Go.Proofs.YtndicjikjcifaaaDoorW.PrintLast
set_option linter.unusedVariables false
set_option linter.unusedSimpArgs false
end Go.Proofs.YtndicjikjcifaaaDoor

/- batch.Decode and batch.Encode turn each other round: the plain law. -/
namespace Go.Proofs.YtndicjikjcifaaaDoor
open Go.RowKit Go.Shelf Go.Lib Go.Proofs.YtndicjikjcifaaaDoorW.PrintWords Go.Proofs.YtndicjikjcifaaaDoorW.PrintLast
open PB (S33 k33)
set_option linter.unusedVariables false
set_option linter.unusedSimpArgs false
end Go.Proofs.YtndicjikjcifaaaDoor

/- batch.Decode. -/
namespace Go.Proofs.YtndicjikjcifaaaDoor
open Go.RowKit Go.Proofs.YtndicjikjcifaaaDoorW.PrintWords Go.Proofs.YtndicjikjcifaaaDoorW.PrintLast
set_option linter.unusedVariables false
set_option linter.unusedSimpArgs false
set_option maxRecDepth 100000
open PB (S33 k33)
end Go.Proofs.YtndicjikjcifaaaDoor

/- tuskref05.Decode. -/
namespace Go.Proofs.YtndicjikjcifaaaDoor
open Go.RowKit Go.Proofs.YtndicjikjcifaaaDoorW.PrintWords Go.Proofs.YtndicjikjcifaaaDoorW.PrintLast
set_option linter.unusedVariables false
set_option linter.unusedSimpArgs false
set_option maxRecDepth 100000
open PB (S33 k33)
end Go.Proofs.YtndicjikjcifaaaDoor

/- BatchReads. -/
namespace Go.Proofs.YtndicjikjcifaaaDoor
open Go.RowKit Go.Proofs.YtndicjikjcifaaaDoorW.PrintWords Go.Proofs.YtndicjikjcifaaaDoorW.PrintLast
set_option linter.unusedVariables false
set_option linter.unusedSimpArgs false
set_option maxRecDepth 100000
open PB (S33 k33)
end Go.Proofs.YtndicjikjcifaaaDoor

/- What the laws' works() rests on; batch.Encode and batch.Decode of a batch that is right. -/
namespace Go.Proofs.YtndicjikjcifaaaDoor
open Go.RowKit Go.Proofs.YtndicjikjcifaaaDoorW.PrintWords Go.Proofs.YtndicjikjcifaaaDoorW.PrintLast
open PB (S33 k33)
set_option linter.unusedVariables false
set_option linter.unusedSimpArgs false
end Go.Proofs.YtndicjikjcifaaaDoor

/- tusklaw05.works. -/
namespace Go.Proofs.YtndicjikjcifaaaDoor
open Go.RowKit Go.Proofs.YtndicjikjcifaaaDoorW.PrintWords Go.Proofs.YtndicjikjcifaaaDoorW.PrintLast
set_option linter.unusedVariables false
set_option linter.unusedSimpArgs false
set_option maxRecDepth 100000
open PB (S33 k33)
end Go.Proofs.YtndicjikjcifaaaDoor

/- BatchBack. -/
namespace Go.Proofs.YtndicjikjcifaaaDoor
open Go.RowKit Go.Proofs.YtndicjikjcifaaaDoorW.PrintWords Go.Proofs.YtndicjikjcifaaaDoorW.PrintLast
set_option linter.unusedVariables false
set_option linter.unusedSimpArgs false
set_option maxRecDepth 100000
open PB (S33 k33)
open Bl
end Go.Proofs.YtndicjikjcifaaaDoor

/- BatchSeals. -/
namespace Go.Proofs.YtndicjikjcifaaaDoor
open Go.RowKit Go.Proofs.YtndicjikjcifaaaDoorW.PrintWords Go.Proofs.YtndicjikjcifaaaDoorW.PrintLast
set_option linter.unusedVariables false
set_option linter.unusedSimpArgs false
set_option maxRecDepth 100000
open PB (S33 k33)
end Go.Proofs.YtndicjikjcifaaaDoor

/- The batch laws' arguments: rows of operations, a transaction, a batch: from data to plain values. -/
namespace Go.Proofs.YtndicjikjcifaaaDoor
open Go.RowKit Go.Proofs.YtndicjikjcifaaaDoorW.PrintWords Go.Proofs.YtndicjikjcifaaaDoorW.PrintLast
open PB (S33 k33)
set_option linter.unusedVariables false
set_option linter.unusedSimpArgs false
def gTx (t : S33) : Prop := (Lit.int .i64 t.f0).wf = true ∧ t.f1.size ≤ 140737488351232 ∧ t.f2.size ≤ 140737488351232 ∧ (Lit.int .u64 t.f3).wf = true ∧ (Lit.int .u64 t.f4).wf = true ∧ t.f5.size ≤ 140737488351232 ∧ t.f6.size ≤ 140737488351232 ∧
  ((∀ a ∈ t.f7, a.size ≤ 140737488351232) ∧ t.f7.length * 16 ≤ 140737488351232 ∧ t.f7.length ≤ maxLen) ∧ ((∀ a ∈ t.f8, a.size ≤ 140737488351232) ∧ t.f8.length * 16 ≤ 140737488351232 ∧ t.f8.length ≤ maxLen)
theorem opensTx : Opens Tryd.prog 33 k33 gTx :=
  Opens.iso (Opens.struct (d := kTx) Tryd.underlying33 (by kernel_rfl) (Fields.cons rfl opensInt (Fields.cons rfl opensStr (Fields.cons rfl opensStr (Fields.cons rfl opensU64 (Fields.cons rfl opensU64 (Fields.cons rfl opensStr (Fields.cons rfl opensStr (Fields.cons rfl opensStrs (Fields.one rfl opensStrs)))))))))) _ (fun x => ⟨x.1, x.2.1, x.2.2.1, x.2.2.2.1, x.2.2.2.2.1, x.2.2.2.2.2.1, x.2.2.2.2.2.2.1, x.2.2.2.2.2.2.2.1, x.2.2.2.2.2.2.2.2⟩) (fun _ => rfl)
theorem gTx_lim {t : S33} (h : gTx t) : LimT t ∧ t.f7.length < 8796093022208 ∧ t.f8.length < 8796093022208 ∧ 0 ≤ t.f3 ∧ 0 ≤ t.f4 := by
  obtain ⟨g0, g1, g2, g3, g4, g5, g6, g7, g8⟩ := h
  refine ⟨⟨by omega, by omega, by omega, fun x hx => ?_, fun x hx => ?_⟩, by omega, by omega, u64_lo g3, u64_lo g4⟩
  · have := g7.1 x hx; omega
  · have := g8.1 x hx; omega
end Go.Proofs.YtndicjikjcifaaaDoor

/- What the laid variables mix.firsts and mix.rows read as, as blocks. -/
namespace Go.Proofs.YtndicjikjcifaaaDoor
open Go.RowKit Go.Proofs.YtndicjikjcifaaaDoorW.PrintWords Go.Proofs.YtndicjikjcifaaaDoorW.PrintLast Bl
set_option linter.unusedVariables false
set_option linter.unusedSimpArgs false
def flatD : Nat → DataW Unit → List Value
  | 0, _ => []
  | _ + 1, .lit (.int k n) => [.int k n]
  | m + 1, .agg l => l.flatMap (flatD m)
  | _ + 1, _ => []
theorem flat_seg {α : Type} (cs : List α) (m : Nat) : ∀ (n : Nat) (segs : List (List α)), segs.length = n → cs.length = n * m → (∀ i, i < n → segs[i]? = some ((cs.drop (i * m)).take m)) → cs = segs.flatten
  | 0, segs, h0, h1, h2 => by
    obtain rfl := List.eq_nil_of_length_eq_zero h0
    simpa using h1
  | n + 1, segs, h0, h1, h2 => by
    obtain ⟨a, r, rfl⟩ : ∃ a r, segs = a :: r := by cases segs with | nil => simp at h0 | cons a r => exact ⟨a, r, rfl⟩
    have ha : a = cs.take m := by simpa using h2 0 (by omega)
    have := flat_seg (cs.drop m) m n r (by simpa using h0) (by rw [List.length_drop, h1, Nat.succ_mul]; omega) (fun i hi => by
      have := h2 (i + 1) (by omega)
      rw [List.getElem?_cons_succ] at this
      rw [this, List.drop_drop, Nat.succ_mul, Nat.add_comm])
    rw [List.flatten_cons, ← this, ha, List.take_append_drop]
theorem flat_int {P : Program} {w : World} {T : TypeId} {k : IntKind} {fuel : Nat} {cs : List Value} {d : DataW Unit} {p : List MemPlace} (hu : P.underlying T = some (.int k)) (h : DataW.trod (fun _ => ()) P w 0 (fun _ => true) false fuel T cs = some (d, p)) (m : Nat) : cs = flatD (m + 1) d := by
  obtain ⟨n, rfl, e, _⟩ := DataW.trod_int hu h
  cases e
  rfl
theorem flat_arr {P : Program} {w : World} {T e : TypeId} {n q : Nat} {fuel : Nat} {cs : List Value} {d : DataW Unit} {p : List MemPlace} (m : Nat) (hu : P.underlying T = some (.array n e)) (hc : P.cellsOf T = n * q) (hq : P.cellsOf e = q)
    (he : ∀ fuel (cs : List Value) (d : DataW Unit) (p : List MemPlace), DataW.trod (fun _ => ()) P w 0 (fun _ => true) false fuel e cs = some (d, p) → cs = flatD m d)
    (h : DataW.trod (fun _ => ()) P w 0 (fun _ => true) false fuel T cs = some (d, p)) : cs = flatD (m + 1) d := by
  obtain ⟨xs, f, _, ex, hl, hn, hx⟩ := DataW.trod_array hu h
  cases ex
  rw [hq] at hx
  have := flat_seg cs q n (xs.map fun x => flatD m x.1) (by simpa using hn) (by rw [hl, hc]) (fun i hi => by
    have h1 := hx i hi
    rw [List.getElem?_eq_getElem (by omega)] at h1
    rw [List.getElem?_map, List.getElem?_eq_getElem (by omega), Option.map_some]
    exact congrArg some (he _ _ _ _ h1).symm)
  rw [this]
  show _ = (xs.map (·.1)).flatMap (flatD m)
  rw [List.flatMap_map, List.flatMap_def]
theorem laid_get {P : Program} {w : World} {l : List (String × DataW Unit)} (h : laidMet P l w) {n : String} {d : DataW Unit} (hm : (n, d) ∈ l) : ∃ g t cs fuel p, P.globalNamed n = some g ∧ (P.globals[g]?).map (·.type) = some t ∧ DataW.trod (fun _ => ()) P w 0 (fun _ => true) false fuel t cs.toList = some (d, p) ∧ (0 < cs.size → ∃ T, w.heap[g]? = some (.cells cs T (0, 0))) := by
  obtain ⟨ps, hv, hnd, hc⟩ := h
  clear hnd
  induction l generalizing ps with
  | nil => cases hm
  | cons x r ih =>
    obtain ⟨n', d'⟩ := x
    obtain ⟨g, t, cs, fuel, p, q, h1, h2, h3, h4, h5, rfl⟩ := hv
    rcases List.mem_cons.1 hm with e | hm
    · cases e
      refine ⟨g, t, cs, fuel, p, h1, h2, h4, fun hs => ?_⟩
      obtain ⟨⟨c, T, hb⟩, _⟩ := hc g 0 (List.mem_append_left _ (List.mem_append_left _ (List.mem_map.2 ⟨0, List.mem_range.2 hs, rfl⟩)))
      refine ⟨T, ?_⟩
      have h6 := h3
      unfold World.var? at h6
      rw [h1, Option.bind_some, hb] at h6
      obtain rfl := Option.some.inj h6
      exact hb
    · exact ih hm q h5 (fun b off hb => hc b off (List.mem_append_right _ hb))
set_option maxRecDepth 100000 in
theorem mix_laid {l : List (String × DataW Unit)} {w : World} (h : laidMetH Tryd.prog l w) (hp : (l.all fun x => x.2.handleName?.isNone) = true) (h1 : ("tusk/mix.firsts", Rows.laid_tusk_mix_firsts) ∈ l) (h2 : ("tusk/mix.rows", Rows.laid_tusk_mix_rows) ∈ l) :
    ∃ Ta Tb, w.heap[0]? = some (.cells (wsN 8 firstsF).toArray Ta (0, 0)) ∧ w.heap[1]? = some (.cells rowsV.toArray Tb (0, 0)) := by
  rw [MakeChecks.laidMetH_plain _ _ _ hp] at h
  obtain ⟨g, t, cs, fuel, p, a1, a2, a3, a4⟩ := laid_get h h1
  obtain ⟨g', t', cs', fuel', p', b1, b2, b3, b4⟩ := laid_get h h2
  obtain rfl := Option.some.inj ((show Tryd.prog.globalNamed "tusk/mix.firsts" = some 0 by kernel_rfl).symm.trans a1)
  obtain rfl := Option.some.inj ((show Tryd.prog.globalNamed "tusk/mix.rows" = some 1 by kernel_rfl).symm.trans b1)
  obtain rfl := Option.some.inj ((show (Tryd.prog.globals[0]?).map (·.type) = some 115 by kernel_rfl).symm.trans a2)
  obtain rfl := Option.some.inj ((show (Tryd.prog.globals[1]?).map (·.type) = some 156 by kernel_rfl).symm.trans b2)
  have c1 := flat_arr 1 (n := 8) (q := 1) Tryd.underlying115 (by kernel_rfl) (by kernel_rfl) (fun _ _ _ _ h => flat_int Tryd.underlying113 h 0) a3
  have c2 := flat_arr 2 (n := 10) (q := 16) Tryd.underlying156 (by kernel_rfl) (by kernel_rfl) (fun _ _ _ _ h => flat_arr 1 (n := 16) (q := 1) Tryd.underlying155 (by kernel_rfl) (by kernel_rfl) (fun _ _ _ _ h => flat_int Tryd.underlying3 h 0) h) b3
  have d1 : flatD 2 Rows.laid_tusk_mix_firsts = wsN 8 firstsF := by rfl
  have d2 : flatD 3 Rows.laid_tusk_mix_rows = rowsV := by rfl
  obtain rfl : cs = (wsN 8 firstsF).toArray := Array.toList_inj.1 (c1.trans d1)
  obtain rfl : cs' = rowsV.toArray := Array.toList_inj.1 (c2.trans d2)
  obtain ⟨Ta, e1⟩ := a4 (by decide)
  obtain ⟨Tb, e2⟩ := b4 (by decide)
  exact ⟨Ta, Tb, e1, e2⟩
end Go.Proofs.YtndicjikjcifaaaDoor

/- BatchBack's row. -/
namespace Go.Proofs.YtndicjikjcifaaaDoor
open Go.RowKit Go.Proofs.YtndicjikjcifaaaDoorW.PrintWords Go.Proofs.YtndicjikjcifaaaDoorW.PrintLast Bl
open PB (S33 k33)
set_option linter.unusedVariables false
set_option linter.unusedSimpArgs false
abbrev kBt : Kd (Int × Int × List S33) := Kd.pair (Kd.int .i64) (Kd.pair (Kd.int .i64) (Kd.slice 33 k33))
def gTxs (l : List S33) : Prop := (∀ a ∈ l, gTx a) ∧ l.length * 136 ≤ 140737488351232 ∧ l.length ≤ maxLen
theorem opensTxs : Opens Tryd.prog 38 (Kd.slice 33 k33) gTxs := Opens.slice Tryd.underlying38 (by kernel_rfl) opensTx 136 (by kernel_rfl)
theorem opensBt : Opens Tryd.prog 40 kBt (fun x => (Lit.int .i64 x.1).wf = true ∧ (Lit.int .i64 x.2.1).wf = true ∧ gTxs x.2.2) :=
  Opens.struct (d := kBt) Tryd.underlying40 (by kernel_rfl) (Fields.cons (G := fun n => (Lit.int .i64 n).wf = true) (G' := fun y : Int × List S33 => (Lit.int .i64 y.1).wf = true ∧ gTxs y.2) rfl opensInt (Fields.cons (G := fun n => (Lit.int .i64 n).wf = true) (G' := gTxs) rfl opensInt (Fields.one rfl opensTxs)))
theorem kBt_open {w : World} {cs : List Value} {x : Int × Int × List S33} (h : kBt.K w x cs) : ∃ A c, cs = [.int .i64 x.1, .int .i64 x.2.1, .slice A x.2.2.length c] ∧ x.2.2.length ≤ c ∧ k33.C w A x.2.2.length x.2.2 := by
  obtain ⟨c0, r0, rfl, e0, c1, r1, rfl, e1, A, c, rfl, hc, hC⟩ := h
  have e0 : c0 = [.int .i64 x.1] := e0
  have e1 : c1 = [.int .i64 x.2.1] := e1
  subst e0 e1
  exact ⟨A, c, rfl, hc, hC⟩
end Go.Proofs.YtndicjikjcifaaaDoor

/- BatchChecks's row. -/
namespace Go.Proofs.YtndicjikjcifaaaDoor
open Go.RowKit Go.Proofs.YtndicjikjcifaaaDoorW.PrintWords Go.Proofs.YtndicjikjcifaaaDoorW.PrintLast Bl
open PB (S33 k33)
set_option linter.unusedVariables false
set_option linter.unusedSimpArgs false
theorem batchChecks_row (cs : Array Value) (x : Int × Int × List S33) (w : World) (hK : kBt.K w x cs.toList) (hG : (Lit.int .i64 x.1).wf = true ∧ (Lit.int .i64 x.2.1).wf = true ∧ gTxs x.2.2) (hL : laidMetH Tryd.prog Rows.batchChecksRow.laid w) :
    Calls Tryd.prog 6 #[.agg cs] w fun e W => e = .returned (.bool true) ∧ Below w.heap.size w W := by
  obtain ⟨Ta, Tb, h0, h1⟩ := mix_laid hL (by kernel_rfl) (.tail _ (.head _)) (.tail _ (.tail _ (.head _)))
  obtain ⟨A, c, he, hc, hC⟩ := kBt_open hK
  obtain rfl : cs = #[.int .i64 x.1, .int .i64 x.2.1, .slice A x.2.2.length c] := Array.toList_inj.1 he
  obtain ⟨_, _, g1, g2, g3⟩ := hG
  refine batchChecks_calls x.1 x.2.1 A c x.2.2 w hC hc (by omega) (fun t ht => ?_) (fun t ht => (gTx_lim (g1 t ht)).1) (fun t ht => ?_) h0 h1
  · have := gTx_lim (g1 t ht)
    exact ⟨this.2.1, this.2.2.1⟩
  · exact (gTx_lim (g1 t ht)).2.2.2
end Go.Proofs.YtndicjikjcifaaaDoor
