/-
  The walks of streams that may be none, of New, Fork, place.
-/
import Derived.Test.YtcpbfnbfbladoaaDoorStmP
import Derived.Test.YtcpbfnbfbladoaaDoorMidA
namespace Go.Proofs.YtcpbfnbfbladoaaDoor
open Go Go.RowKit

set_option maxRecDepth 100000 in
theorem len_nil (w0 : World) :
    Calls Tryd.prog 28 #[.pointer none] w0 fun e w' => e = .returned (.int .i64 0) ∧ Chg [] w0 w' := by
  refine calls_in Tryd.func28 Tryd.ntmps28 rfl rfl ?_
  have hp := Hp.start w0
  refine sc_seq ?_
  refine sc_region ?_
  refine st_v (ov_assign rfl) rfl ?_
  refine st_nil ?_
  refine pn_then ?_
  refine sc_seq ?_
  refine sc_seq ?_
  refine sc_region ?_
  refine st_v (ov_move rfl) rfl ?_
  refine st_v (v := .bool true) ((ov_eqlP Tryd.underlying52 rfl rfl).is (rfl)) rfl ?_
  refine st_nil ?_
  refine pn_then ?_
  refine sc_true rfl ?_
  refine sc_seq ?_
  refine sc_region ?_
  refine st_v (ov_assign rfl) rfl ?_
  refine st_nil ?_
  refine pn_then ?_
  refine sc_ret ?_
  refine pr_then ?_
  refine pr_one rfl rfl ?_
  exact ⟨rfl, hp.chg⟩

set_option maxRecDepth 100000 in
theorem lenr_nil (w0 : World) :
    Calls Tryd.prog 29 #[.pointer none] w0 fun e w' => e = .returned (.int .i64 0) ∧ Chg [] w0 w' := by
  refine calls_in Tryd.func29 Tryd.ntmps29 rfl rfl ?_
  have hp := Hp.start w0
  refine sc_seq ?_
  refine sc_region ?_
  refine st_v (ov_assign rfl) rfl ?_
  refine st_nil ?_
  refine pn_then ?_
  refine sc_seq ?_
  refine sc_seq ?_
  refine sc_region ?_
  refine st_v (ov_move rfl) rfl ?_
  refine st_v (v := .bool true) ((ov_eqlP Tryd.underlying55 rfl rfl).is (rfl)) rfl ?_
  refine st_nil ?_
  refine pn_then ?_
  refine sc_true rfl ?_
  refine sc_seq ?_
  refine sc_region ?_
  refine st_v (ov_assign rfl) rfl ?_
  refine st_nil ?_
  refine pn_then ?_
  refine sc_ret ?_
  refine pr_then ?_
  refine pr_one rfl rfl ?_
  exact ⟨rfl, hp.chg⟩

set_option maxRecDepth 100000 in
theorem sums_nil (w0 : World) :
    Calls Tryd.prog 33 #[.pointer none] w0 fun e w' => e = .returned (.agg ((List.replicate 32 (0 : UInt8)).map B8).toArray) ∧ Chg [] w0 w' := by
  refine calls_in Tryd.func33 Tryd.ntmps33 rfl rfl ?_
  have hp := Hp.start w0
  refine sc_seq ?_
  refine sc_region ?_
  refine st_alloc 2 ((List.replicate 32 (0 : UInt8)).map B8) hp rfl zl39 rfl (fun b2 w hp => ?_)
  refine st_nil ?_
  refine pn_then ?_
  refine sc_seq ?_
  refine sc_region ?_
  refine st_alloc 3 ((List.replicate 32 (0 : UInt8)).map B8) hp rfl zl39 rfl (fun b3 w hp => ?_)
  refine st_nil ?_
  refine pn_then ?_
  refine sc_seq ?_
  refine sc_seq ?_
  refine sc_region ?_
  refine st_v (ov_move rfl) rfl ?_
  refine st_v (v := .bool true) ((ov_eqlP Tryd.underlying52 rfl rfl).is (rfl)) rfl ?_
  refine st_nil ?_
  refine pn_then ?_
  refine sc_true rfl ?_
  refine sc_seq ?_
  refine sc_region ?_
  refine st_v (ov_loadN rfl Tryd.underlying39 rfl (sz39.trans (by simp [*])) (hp.cells' (t := 3) rfl)) rfl ?_
  refine st_storeA 2 hp rfl rfl rfl (by simp [*]) (sz39.trans (by simp [*])) (one_all _) (fun w hp => ?_)
  refine st_nil ?_
  refine pn_then ?_
  refine sc_ret ?_
  refine pr_then ?_
  refine pr_rv1 rfl (rv_cells rfl Tryd.underlying39 rfl (sz39.trans (by simp [*])) (hp.cells' (t := 2) rfl)) ?_
  exact ⟨rfl, hp.chg⟩

set_option maxRecDepth 100000 in
theorem sumq_nil (w0 : World) :
    Calls Tryd.prog 34 #[.pointer none] w0 fun e w' => e = .returned (.agg ((List.replicate 32 (0 : UInt8)).map B8).toArray) ∧ Chg [] w0 w' := by
  refine calls_in Tryd.func34 Tryd.ntmps34 rfl rfl ?_
  have hp := Hp.start w0
  refine sc_seq ?_
  refine sc_region ?_
  refine st_alloc 2 ((List.replicate 32 (0 : UInt8)).map B8) hp rfl zl39 rfl (fun b2 w hp => ?_)
  refine st_nil ?_
  refine pn_then ?_
  refine sc_seq ?_
  refine sc_seq ?_
  refine sc_region ?_
  refine st_v (ov_move rfl) rfl ?_
  refine st_v (v := .bool true) ((ov_eqlP Tryd.underlying55 rfl rfl).is (rfl)) rfl ?_
  refine st_nil ?_
  refine pn_then ?_
  refine sc_true rfl ?_
  refine sc_seq ?_
  refine sc_region ?_
  refine st_alloc 3 ((List.replicate 32 (0 : UInt8)).map B8) hp rfl zl39 rfl (fun b3 w hp => ?_)
  refine st_nil ?_
  refine pn_then ?_
  refine sc_seq ?_
  refine sc_region ?_
  refine st_v (ov_loadN rfl Tryd.underlying39 rfl (sz39.trans (by simp [*])) (hp.cells' (t := 3) rfl)) rfl ?_
  refine st_storeA 2 hp rfl rfl rfl (by simp [*]) (sz39.trans (by simp [*])) (one_all _) (fun w hp => ?_)
  refine st_nil ?_
  refine pn_then ?_
  refine sc_ret ?_
  refine pr_then ?_
  refine pr_rv1 rfl (rv_cells rfl Tryd.underlying39 rfl (sz39.trans (by simp [*])) (hp.cells' (t := 2) rfl)) ?_
  exact ⟨rfl, hp.chg⟩

set_option maxRecDepth 100000 in
theorem mid_nil (w0 : World) :
    Calls Tryd.prog 31 #[.pointer none] w0 fun e w' => e = .returned (.agg (midc (List.replicate 8 0) 0 none 0 0).toArray) ∧ Chg [] w0 w' := by
  refine calls_in Tryd.func31 Tryd.ntmps31 rfl rfl ?_
  have hp := Hp.start w0
  refine sc_seq ?_
  refine sc_region ?_
  refine st_alloc 2 (midc (List.replicate 8 0) 0 none 0 0) hp rfl zl51 rfl (fun b2 w hp => ?_)
  refine st_nil ?_
  refine pn_then ?_
  refine sc_seq ?_
  refine sc_seq ?_
  refine sc_region ?_
  refine st_v (ov_move rfl) rfl ?_
  refine st_v (v := .bool true) ((ov_eqlP Tryd.underlying52 rfl rfl).is (rfl)) rfl ?_
  refine st_nil ?_
  refine pn_then ?_
  refine sc_true rfl ?_
  refine sc_seq ?_
  refine sc_region ?_
  refine st_v (ov_buildS (pl := #[(0, 8), (8, 1), (9, 1)]) (cells := (midc (List.replicate 8 0) 0 none 0 0)) rfl Tryd.underlying51 zl51 (by intro w; kernel_rfl) (by kernel_rfl)) rfl ?_
  refine st_storeA 2 hp rfl rfl rfl rfl (sz51.trans (by rw [midc_len List.length_replicate])) midc_one (fun w hp => ?_)
  refine st_nil ?_
  refine pn_then ?_
  refine sc_ret ?_
  refine pr_then ?_
  refine pr_rv1 rfl (rv_cells rfl Tryd.underlying51 rfl (sz51.trans (by rw [midc_len List.length_replicate])) (hp.cells' (t := 2) rfl)) ?_
  exact ⟨rfl, hp.chg⟩

set_option maxRecDepth 100000 in
theorem midr_nil (w0 : World) :
    Calls Tryd.prog 32 #[.pointer none] w0 fun e w' => e = .returned (.agg (midc (List.replicate 8 0) 0 none 0 0).toArray) ∧ Chg [] w0 w' := by
  refine calls_in Tryd.func32 Tryd.ntmps32 rfl rfl ?_
  have hp := Hp.start w0
  refine sc_seq ?_
  refine sc_region ?_
  refine st_alloc 2 (midc (List.replicate 8 0) 0 none 0 0) hp rfl zl51 rfl (fun b2 w hp => ?_)
  refine st_nil ?_
  refine pn_then ?_
  refine sc_seq ?_
  refine sc_region ?_
  refine st_alloc 3 (midc (List.replicate 8 0) 0 none 0 0) hp rfl zl51 rfl (fun b3 w hp => ?_)
  refine st_nil ?_
  refine pn_then ?_
  refine sc_seq ?_
  refine sc_seq ?_
  refine sc_region ?_
  refine st_v (ov_move rfl) rfl ?_
  refine st_v (v := .bool true) ((ov_eqlP Tryd.underlying55 rfl rfl).is (rfl)) rfl ?_
  refine st_nil ?_
  refine pn_then ?_
  refine sc_true rfl ?_
  refine sc_seq ?_
  refine sc_region ?_
  refine st_v (ov_loadN rfl Tryd.underlying51 rfl (sz51.trans (by rw [midc_len List.length_replicate])) (hp.cells' (t := 3) rfl)) rfl ?_
  refine st_storeA 2 hp rfl rfl rfl rfl (sz51.trans (by rw [midc_len List.length_replicate])) midc_one (fun w hp => ?_)
  refine st_nil ?_
  refine pn_then ?_
  refine sc_ret ?_
  refine pr_then ?_
  refine pr_rv1 rfl (rv_cells rfl Tryd.underlying51 rfl (sz51.trans (by rw [midc_len List.length_replicate])) (hp.cells' (t := 2) rfl)) ?_
  exact ⟨rfl, hp.chg⟩

set_option maxRecDepth 100000 in
theorem write_nil (ao : Option Addr) (n ca : Nat) (w0 : World) :
    Calls Tryd.prog 35 #[.pointer none, .slice ao n ca] w0 fun e w' => e = .returned (.int .i64 1) ∧ Chg [] w0 w' := by
  refine calls_in Tryd.func35 Tryd.ntmps35 rfl rfl ?_
  have hp := Hp.start w0
  refine sc_seq ?_
  refine sc_region ?_
  refine st_v (ov_assign rfl) rfl ?_
  refine st_nil ?_
  refine pn_then ?_
  refine sc_seq ?_
  refine sc_seq ?_
  refine sc_region ?_
  refine st_v (ov_move rfl) rfl ?_
  refine st_v (v := .bool true) ((ov_eqlP Tryd.underlying52 rfl rfl).is (rfl)) rfl ?_
  refine st_nil ?_
  refine pn_then ?_
  refine sc_true rfl ?_
  refine sc_seq ?_
  refine sc_region ?_
  refine st_v (ov_assign rfl) rfl ?_
  refine st_nil ?_
  refine pn_then ?_
  refine sc_ret ?_
  refine pr_then ?_
  refine pr_one rfl rfl ?_
  exact ⟨rfl, hp.chg⟩

set_option maxRecDepth 100000 in
theorem writer_nil (ao : Option Addr) (n ca : Nat) (w0 : World) :
    Calls Tryd.prog 36 #[.pointer none, .slice ao n ca] w0 fun e w' => e = .returned (.int .i64 1) ∧ Chg [] w0 w' := by
  refine calls_in Tryd.func36 Tryd.ntmps36 rfl rfl ?_
  have hp := Hp.start w0
  refine sc_seq ?_
  refine sc_region ?_
  refine st_v (ov_assign rfl) rfl ?_
  refine st_nil ?_
  refine pn_then ?_
  refine sc_seq ?_
  refine sc_seq ?_
  refine sc_region ?_
  refine st_v (ov_move rfl) rfl ?_
  refine st_v (v := .bool true) ((ov_eqlP Tryd.underlying55 rfl rfl).is (rfl)) rfl ?_
  refine st_nil ?_
  refine pn_then ?_
  refine sc_true rfl ?_
  refine sc_seq ?_
  refine sc_region ?_
  refine st_v (ov_assign rfl) rfl ?_
  refine st_nil ?_
  refine pn_then ?_
  refine sc_ret ?_
  refine pr_then ?_
  refine pr_one rfl rfl ?_
  exact ⟨rfl, hp.chg⟩

set_option maxRecDepth 100000 in
theorem fork_nil (w0 : World) :
    Calls Tryd.prog 43 #[.pointer none] w0 fun e w' => e = .returned (.pointer none) ∧ Chg [] w0 w' := by
  refine calls_in Tryd.func43 Tryd.ntmps43 rfl rfl ?_
  have hp := Hp.start w0
  refine sc_seq ?_
  refine sc_region ?_
  refine st_v (ov_assign rfl) rfl ?_
  refine st_nil ?_
  refine pn_then ?_
  refine sc_seq ?_
  refine sc_seq ?_
  refine sc_region ?_
  refine st_v (ov_move rfl) rfl ?_
  refine st_v (v := .bool true) ((ov_eqlP Tryd.underlying52 rfl rfl).is (rfl)) rfl ?_
  refine st_nil ?_
  refine pn_then ?_
  refine sc_true rfl ?_
  refine sc_seq ?_
  refine sc_region ?_
  refine st_v (ov_assign rfl) rfl ?_
  refine st_nil ?_
  refine pn_then ?_
  refine sc_ret ?_
  refine pr_then ?_
  refine pr_one rfl rfl ?_
  exact ⟨rfl, hp.chg⟩

set_option maxRecDepth 100000 in
theorem forkr_nil (w0 : World) :
    Calls Tryd.prog 44 #[.pointer none] w0 fun e w' => e = .returned (.pointer none) ∧ Chg [] w0 w' := by
  refine calls_in Tryd.func44 Tryd.ntmps44 rfl rfl ?_
  have hp := Hp.start w0
  refine sc_seq ?_
  refine sc_region ?_
  refine st_v (ov_assign rfl) rfl ?_
  refine st_nil ?_
  refine pn_then ?_
  refine sc_seq ?_
  refine sc_seq ?_
  refine sc_region ?_
  refine st_v (ov_move rfl) rfl ?_
  refine st_v (v := .bool true) ((ov_eqlP Tryd.underlying55 rfl rfl).is (rfl)) rfl ?_
  refine st_nil ?_
  refine pn_then ?_
  refine sc_true rfl ?_
  refine sc_seq ?_
  refine sc_region ?_
  refine st_v (ov_assign rfl) rfl ?_
  refine st_nil ?_
  refine pn_then ?_
  refine sc_ret ?_
  refine pr_then ?_
  refine pr_one rfl rfl ?_
  exact ⟨rfl, hp.chg⟩

set_option maxRecDepth 100000 in
theorem fork_walk (bs d : Nat) (st : List UInt32) (tl : List UInt8) (w0 : World) (hst : st.length = 8) (htl : tl.length = 64) (hB : Blk w0 ⟨some bs, strm st d tl, 91⟩) :
    Calls Tryd.prog 43 #[.pointer (some ⟨bs, 0, none⟩)] w0 fun e w' => ∃ b, e = .returned (.pointer (some ⟨b, 0, none⟩)) ∧ Left w0 w' [] [⟨some b, strm st d tl, 91⟩] := by
  refine calls_in Tryd.func43 Tryd.ntmps43 rfl rfl ?_
  have hp := Hp.start w0
  refine sc_seq ?_
  refine sc_region ?_
  refine st_v (ov_assign rfl) rfl ?_
  refine st_nil ?_
  refine pn_then ?_
  refine sc_seq ?_
  refine sc_seq ?_
  refine sc_region ?_
  refine st_v (ov_move rfl) rfl ?_
  refine st_v (v := .bool false) ((ov_eqlP Tryd.underlying52 rfl rfl).is (rfl)) rfl ?_
  refine st_nil ?_
  refine pn_then ?_
  refine sc_false rfl ?_
  refine sc_skip ?_
  refine pn_then ?_
  refine sc_seq ?_
  refine sc_region ?_
  refine st_v (ov_move rfl) rfl ?_
  refine st_v (ov_nilCheck rfl) rfl ?_
  refine st_v (ov_loadN rfl Tryd.underlying91 rfl (sz91.trans (by rw [strm_len hst htl])) (hp.old hB.cells (by simp))) rfl ?_
  refine st_alloc 3 (((List.replicate 8 (0 : UInt32)).map B32) ++ (([Value.int .i64 0]) ++ ((List.replicate 64 (0 : UInt8)).map B8))) hp rfl zl91 rfl (fun b3 w hp => ?_)
  refine st_storeA 3 hp rfl rfl rfl (by rw [strm_len hst htl]; simp) (sz91.trans (by rw [strm_len hst htl])) (strm_one _ _ _) (fun w hp => ?_)
  refine st_nil ?_
  refine pn_then ?_
  refine sc_seq ?_
  refine sc_region ?_
  refine st_v (ov_assign rfl) rfl ?_
  refine st_nil ?_
  refine pn_then ?_
  refine sc_ret ?_
  refine pr_one rfl rfl ?_
  exact ⟨b3, rfl, hp.left' (i := []) [3] (by simp) rfl⟩

set_option maxRecDepth 100000 in
theorem forkr_walk (br bf : Nat) (st0 : List UInt32) (text : List UInt8) (g : Gs) (w0 : World) (hst0 : st0.length = 8) (hB : Blk w0 ⟨some br, midc st0 (bf : Int) (adr g.ob) text.length g.cap, 97⟩) (hT : Blk w0 ⟨g.ob, text.map B8 ++ g.sp, 5⟩) (hzt : text.length ≤ 140737488351232) :
    Calls Tryd.prog 44 #[.pointer (some ⟨br, 0, none⟩)] w0 fun e w' => ∃ b g', e = .returned (.pointer (some ⟨b, 0, none⟩)) ∧ Left w0 w' [] (rsk b bf st0 text g') ∧ (text.map B8 ++ g'.sp).length = g'.cap * 1 := by
  refine calls_in Tryd.func44 Tryd.ntmps44 rfl rfl ?_
  have hp := Hp.start w0
  refine sc_seq ?_
  refine sc_region ?_
  refine st_v (ov_assign rfl) rfl ?_
  refine st_nil ?_
  refine pn_then ?_
  refine sc_seq ?_
  refine sc_seq ?_
  refine sc_region ?_
  refine st_v (ov_move rfl) rfl ?_
  refine st_v (v := .bool false) ((ov_eqlP Tryd.underlying55 rfl rfl).is (rfl)) rfl ?_
  refine st_nil ?_
  refine pn_then ?_
  refine sc_false rfl ?_
  refine sc_skip ?_
  refine pn_then ?_
  refine sc_seq ?_
  refine sc_draws_tail 9 (by kernel_rfl) (by kernel_rfl) ?_
  replace hp := hp.drew
  simp only [List.take_succ_cons, List.take_zero, List.drop_succ_cons, List.drop_zero]
  refine ss_v (ov_move rfl) rfl ?_
  refine ss_v (ov_nilCheck rfl) rfl ?_
  refine ss_v (ov_field (q := _) rfl Tryd.underlying97 rfl sz24 rfl) rfl ?_
  refine ss_v (ov_loadN rfl Tryd.underlying24 rfl (sz24.trans (by simp [hst0])) ((hp.old hB.cells (by simp))).left) rfl ?_
  refine ss_v (ov_move rfl) rfl ?_
  refine ss_v (ov_nilCheck rfl) rfl ?_
  refine ss_v (ov_field (q := _) rfl Tryd.underlying97 rfl sz3 rfl) rfl ?_
  refine ss_v (ov_load1 rfl Tryd.underlying3 rfl (midc_done (hp.old hB.cells (by simp)) hst0)) rfl ?_
  refine ss_v (ov_buildS (pl := #[(0, 8), (8, 1), (9, 1)]) (cells := midc st0 (bf : Int) none 0 0) rfl Tryd.underlying97 zl97 (by intro w; kernel_rfl) (by exact fill_mid st0 hst0 _)) rfl ?_
  refine ss_tail ?_
  refine st_box 15 hp rfl rfl rfl (fun b15 w hp => ?_)
  refine st_v (ov_assign rfl) rfl ?_
  replace hp := hp.nil 50 5
  refine st_nil ?_
  refine pn_then ?_
  refine sc_seq ?_
  obtain ⟨Hs, hHs⟩ := (hp.sub (L' := [(15, _)]) (LSub.cons rfl (LSub.nil _))).hs
  refine sc_plan Hs [0, 1, 2, 3, 4, 5, 6, 7, 8, 10, 11] [] (.take 0 (.take 1 (.take 2 (.take 3 (.load 4 (.take 5 (.take 6 (.take 7 (.load 8 (.one 9 (.take 10 (.take 11 (.one 12 .nil))))))))))))) (by kernel_rfl) (by kernel_rfl) (by repeat (first | exact calm_body _ _ _ | refine calm_then ?_ | refine calm_block ?_ | refine calm_jump ?_ | refine calm_ng ?_)) ?_
  replace hp := hp.drew
  refine sp_take rfl (fun w => ov_move rfl) rfl ?_
  refine sp_take rfl (fun w => ov_move rfl) rfl ?_
  refine sp_take rfl (fun w => ov_nilCheck rfl) rfl ?_
  refine sp_take rfl (fun w => ov_field (q := 9) rfl Tryd.underlying97 rfl sz33 rfl) rfl ?_
  refine sp_load rfl ((hHs _).2 (hp.sub (LSub.cons rfl (LSub.nil _)))) (fun w hs => have hp := (hHs w).1 hs; ov_load1 rfl Tryd.underlying33 rfl (midc_tail (hp.cells' (t := 15) rfl) hst0)) rfl ?_
  refine sp_take rfl (fun w => ov_move rfl) rfl ?_
  refine sp_take rfl (fun w => ov_nilCheck rfl) rfl ?_
  refine sp_take rfl (fun w => ov_field (q := _) rfl Tryd.underlying97 rfl sz33 rfl) rfl ?_
  refine sp_load rfl ((hHs _).2 (hp.sub (LSub.cons rfl (LSub.nil _)))) (fun w hs => have hp := (hHs w).1 hs; ov_load1 rfl Tryd.underlying33 rfl (midc_tail (hp.old hB.cells (by simp)) hst0)) rfl ?_
  refine sp_one rfl ?_
  refine st_append 50 gnil (xs := []) hp rfl rfl rfl rfl rfl Tryd.underlying33 in5 (by decide) rfl rfl (by simp) ((Rd.own hT).chg hp.chg) (by simp) (one_all _) (by omega) (fun g2 w hp hcg hf50 => ?_)
  simp only [List.nil_append] at hp hcg
  rw [Nat.zero_add]
  refine st_nil ?_
  refine sp_next (i := 9) (fun h => absurd h (by decide)) ?_
  refine sp_take rfl (fun w => ov_nilCheck rfl) rfl ?_
  refine sp_take rfl (fun w => ov_field (q := 9) rfl Tryd.underlying97 rfl sz33 rfl) rfl ?_
  refine sp_one rfl ?_
  refine st_store1 15 hp rfl rfl rfl rfl sz33 (by simp [hst0]) (fun w hp => ?_)
  rw [midc_set9 hst0] at hp
  refine st_nil ?_
  refine sp_next (i := 12) (fun h => absurd h (by decide)) ?_
  refine sp_nil ?_
  refine pn_then ?_
  refine sc_seq ?_
  refine sc_region ?_
  refine st_v (ov_move rfl) rfl ?_
  refine st_v (ov_assign rfl) rfl ?_
  refine st_nil ?_
  refine pn_then ?_
  refine sc_ret ?_
  refine pr_one rfl rfl ?_
  exact ⟨b15, g2, rfl, hp.left' (i := []) [15, 50] (by simp) rfl, hcg⟩

set_option maxRecDepth 100000 in
theorem news_walk (w0 : World) (hf : Cells w0 1 0 (fL.map B32)) :
    Calls Tryd.prog 41 #[] w0 fun e w' => ∃ b, e = .returned (.pointer (some ⟨b, 0, none⟩)) ∧ Left w0 w' [] [⟨some b, strm fL 0 (List.replicate 64 0), 91⟩] := by
  refine calls_in Tryd.func41 Tryd.ntmps41 rfl rfl ?_
  have hp := Hp.start w0
  refine sc_seq ?_
  refine sc_region ?_
  refine st_v (ov_assign rfl) rfl ?_
  refine st_nil ?_
  refine pn_then ?_
  refine sc_seq ?_
  refine sc_region ?_
  refine st_v (ov_loadN rfl Tryd.underlying24 rfl (sz24.trans (by simp; rfl)) (hp.old hf (by simp))) rfl ?_
  refine st_v (ov_buildS (pl := #[(0, 8), (8, 1), (9, 64)]) (cells := strm fL 0 (List.replicate 64 0)) rfl Tryd.underlying91 zl91 (by intro w; kernel_rfl) (by kernel_rfl)) rfl ?_
  refine st_box 3 hp rfl rfl rfl (fun b3 w hp => ?_)
  refine st_v (ov_assign rfl) rfl ?_
  refine st_nil ?_
  refine pn_then ?_
  refine sc_ret ?_
  refine pr_one rfl rfl ?_
  exact ⟨b3, rfl, hp.left' (i := []) [3] (by simp) rfl⟩

set_option maxRecDepth 100000 in
theorem newq_walk (w0 : World) :
    Calls Tryd.prog 42 #[] w0 fun e w' => ∃ b, e = .returned (.pointer (some ⟨b, 0, none⟩)) ∧ Left w0 w' [] (rsk b 0 fL [] gnil) := by
  refine calls_in Tryd.func42 Tryd.ntmps42 rfl rfl ?_
  have hp := Hp.start w0
  refine sc_seq ?_
  refine sc_region ?_
  refine st_v (ov_assign rfl) rfl ?_
  refine st_nil ?_
  refine pn_then ?_
  refine sc_seq ?_
  refine sc_region ?_
  refine st_call pl61 rfl rfl rfl (first_walk _) ?_
  rintro _ w ⟨rfl, hch⟩
  refine ⟨_, rfl, ?_⟩
  replace hp := hp.call hch
  clear hch
  refine st_v (ov_buildS (pl := #[(0, 8), (8, 1), (9, 1)]) (cells := midc fL 0 none 0 0) rfl Tryd.underlying97 zl97 (by intro w; kernel_rfl) (by kernel_rfl)) rfl ?_
  refine st_box 3 hp rfl rfl rfl (fun b3 w hp => ?_)
  refine st_v (ov_assign rfl) rfl ?_
  refine st_nil ?_
  refine pn_then ?_
  refine sc_ret ?_
  refine pr_one rfl rfl ?_
  replace hp := hp.nil 50 5
  exact ⟨b3, rfl, hp.left' (i := []) [3, 50] (by simp) rfl⟩

set_option maxRecDepth 100000 in
theorem place_walk (n : Int) (w0 : World) :
    Calls Tryd.prog 40 #[.int .i64 n] w0 fun e w' => e = .returned (.int .i64 ((plc n : Nat) : Int)) ∧ Chg [] w0 w' := by
  refine calls_in Tryd.func40 Tryd.ntmps40 rfl rfl ?_
  have hp := Hp.start w0
  have ht := tmod4 n
  refine sc_seq ?_
  refine sc_region ?_
  refine st_v (ov_assign rfl) rfl ?_
  refine st_nil ?_
  refine pn_then ?_
  refine sc_seq ?_
  refine sc_region ?_
  refine st_v (ov_move rfl) rfl ?_
  refine st_v (ov_rem rfl rfl (by decide)) rfl ?_
  refine st_v (ov_assign rfl) rfl ?_
  refine st_nil ?_
  refine pn_then ?_
  refine sc_seq ?_
  refine sc_seq ?_
  refine sc_region ?_
  refine st_v (ov_move rfl) rfl ?_
  refine st_v (ov_lss rfl rfl) rfl ?_
  refine st_nil ?_
  refine pn_then ?_
  refine sc_cond rfl (fun hc => ?_) (fun hc => ?_)
  ·
    have hc := of_decide_eq_true hc
    refine sc_region ?_
    refine st_v (ov_move rfl) rfl ?_
    refine st_v (ov_add_i64 rfl rfl (by omega)) rfl ?_
    refine st_v (ov_assign rfl) rfl ?_
    refine st_nil ?_
    refine pn_then ?_
    refine sc_seq ?_
    refine sc_region ?_
    refine st_v (ov_move rfl) rfl ?_
    refine st_v (ov_assign rfl) rfl ?_
    refine st_nil ?_
    refine pn_then ?_
    refine sc_ret ?_
    refine pr_one rfl rfl ?_
    rw [if_pos (by omega)] at ht
    exact ⟨by rw [ht], hp.chg⟩
  ·
    have hc := of_decide_eq_false hc
    refine sc_skip ?_
    refine pn_then ?_
    refine sc_seq ?_
    refine sc_region ?_
    refine st_v (ov_move rfl) rfl ?_
    refine st_v (ov_assign rfl) rfl ?_
    refine st_nil ?_
    refine pn_then ?_
    refine sc_ret ?_
    refine pr_one rfl rfl ?_
    rw [if_neg (by omega)] at ht
    exact ⟨by rw [ht], hp.chg⟩

end Go.Proofs.YtcpbfnbfbladoaaDoor
