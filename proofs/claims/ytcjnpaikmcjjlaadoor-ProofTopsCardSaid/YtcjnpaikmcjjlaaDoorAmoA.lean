/-
  The walks of both Amounts.
-/
import Derived.Test.YtcjnpaikmcjjlaaDoorFitA
import Derived.Test.YtcjnpaikmcjjlaaDoorTzA
namespace Go.Proofs.YtcjnpaikmcjjlaaDoor
open Go Go.RowKit

set_option maxRecDepth 100000 in
theorem unclesr_walk (q : Qr) (hl : logL q.len ≠ 0) (hv : 0 ≤ q.lv ∧ q.lv ≤ 48) (hu : 0 ≤ q.up ∧ q.up ≤ 48) (w0 : World) :
    Calls Tryd.prog 51 #[.agg (qcs q).toArray] w0 fun e w' => e = .returned (.int .i64 (uncL q : Nat)) ∧ Chg [] w0 w' := by
  refine calls_in Tryd.func51 Tryd.ntmps51 rfl rfl ?_
  have hp := Hp.start w0
  obtain ⟨hlen, hl9⟩ := logL_is hl
  obtain ⟨a, ha⟩ : ∃ a : Nat, q.lv = (a : Int) := ⟨q.lv.toNat, by omega⟩
  refine sc_seq ?_
  refine sc_region ?_
  refine st_box 1 hp rfl rfl rfl (fun b1 w hp => ?_)
  refine st_v (ov_assign rfl) rfl ?_
  refine st_nil ?_
  refine pn_then ?_
  refine sc_seq ?_
  refine sc_region ?_
  refine st_v (ov_assign rfl) rfl ?_
  refine st_nil ?_
  refine pn_then ?_
  refine sc_seq ?_
  refine sc_seq ?_
  obtain ⟨Hs, hHs⟩ := (hp.sub (L' := [(1, _)]) (LSub.cons rfl (LSub.nil _))).hs
  refine sc_plan Hs [0, 1, 2, 3, 5, 6] [4] (.take 0 (.load 1 (.take 2 (.load 3 (.one 4 (.take 5 (.take 6 .nil))))))) (by kernel_rfl) (by kernel_rfl) (by repeat (first | exact calm_body _ _ _ | refine calm_then ?_ | refine calm_block ?_ | refine calm_jump ?_ | refine calm_ng ?_)) ?_
  replace hp := hp.drew
  refine sp_take rfl (fun w => ov_field (q := _) rfl Tryd.underlying25 rfl sz3 rfl) rfl ?_
  refine sp_load rfl ((hHs _).2 (hp.sub (LSub.cons rfl (LSub.nil _)))) (fun w hs => have hp := (hHs w).1 hs; ov_load1 rfl Tryd.underlying3 rfl ((hp.cells' (t := 1) rfl).at 32 (by first | rfl | omega) (qcs_get q).1)) rfl ?_
  refine sp_take rfl (fun w => ov_field (q := _) rfl Tryd.underlying25 rfl sz3 rfl) rfl ?_
  refine sp_load rfl ((hHs _).2 (hp.sub (LSub.cons rfl (LSub.nil _)))) (fun w hs => have hp := (hHs w).1 hs; ov_load1 rfl Tryd.underlying3 rfl ((hp.cells' (t := 1) rfl).at 34 (by first | rfl | omega) (qcs_get q).2.2.1)) rfl ?_
  refine sp_one rfl ?_
  refine st_call pl63 rfl rfl rfl (log_walk q.len _) ?_
  rintro _ w ⟨rfl, hch⟩
  refine ⟨_, rfl, ?_⟩
  replace hp := hp.call hch
  clear hch
  refine st_nil ?_
  refine sp_next (i := 4) (fun _ => ((hHs _).2 (hp.sub (LSub.cons rfl (LSub.nil _))))) ?_
  refine sp_take rfl (v := .int .i64 (q.lv + (logL q.len : Nat) + ((0 : Nat) : Int))) (fun w => (ov_add_i64 rfl rfl (by omega)).is (by simp)) rfl ?_
  refine sp_take rfl (fun w => ov_assign rfl) rfl ?_
  refine sp_nil ?_
  refine pn_then ?_
  refine sc_block ?_
  refine sc_loopH1 (α := Nat) (kv := [(1, _)]) (kl := [(1, _)]) (fun i kv => (3, .int .i64 ((i : Nat) : Int)) :: (4, .int .i64 (q.lv + (logL q.len : Nat) + (i : Nat))) :: kv) (fun i kl => kl) (fun i => (i ≤ uncL q)) (fun i => uncL q - i) 0 hp (Sub.cons rfl (Sub.cons rfl (Sub.cons rfl (Sub.nil _)))) (LSub.cons rfl (LSub.nil _)) ?_ ?_
  · exact (Nat.zero_le _)
  intro i w hp hx
  have hi : i ≤ uncL q := hx
  have hU : (uncL q : Int) = max 0 (q.up - logL q.len + 1) := by unfold uncL; omega
  refine sc_seq ?_
  refine sc_seq ?_
  refine sc_region ?_
  refine st_v (ov_move rfl) rfl ?_
  refine st_v (ov_field (q := _) rfl Tryd.underlying25 rfl sz3 rfl) rfl ?_
  refine st_v (ov_load1 rfl Tryd.underlying3 rfl ((hp.cells' (t := 1) rfl).at 32 (by first | rfl | omega) (qcs_get q).1)) rfl ?_
  refine st_v (ov_field (q := _) rfl Tryd.underlying25 rfl sz3 rfl) rfl ?_
  refine st_v (ov_load1 rfl Tryd.underlying3 rfl ((hp.cells' (t := 1) rfl).at 35 (by first | rfl | omega) (qcs_get q).2.2.2)) rfl ?_
  refine st_v (ov_add_i64 rfl rfl (by omega)) rfl ?_
  refine st_v (ov_leq rfl rfl) rfl ?_
  refine st_nil ?_
  refine pn_then ?_
  refine sc_cond rfl (fun hc => ?_) (fun hc => ?_)
  ·
    have hc := of_decide_eq_true hc
    refine sc_skip ?_
    refine pn_then ?_
    refine sc_seq ?_
    refine sc_block ?_
    refine sc_region ?_
    refine st_v (ov_move rfl) rfl ?_
    refine st_v (ov_add_n (a := i) (b := 1) rfl rfl (by omega)) rfl ?_
    refine st_v (ov_assign rfl) rfl ?_
    refine st_nil ?_
    refine pn_block ?_
    refine pn_then ?_
    refine sc_region ?_
    refine st_v (ov_move rfl) rfl ?_
    refine st_v (v := .int .i64 (q.lv + (logL q.len : Nat) + ((i + 1 : Nat) : Int))) ((ov_add_i64 rfl rfl (by omega)).is (by congr 1; omega)) rfl ?_
    refine st_v (ov_assign rfl) rfl ?_
    refine st_nil ?_
    refine pn_roundH1 (i + 1) hp (Sub.cons rfl (Sub.cons rfl (Sub.cons rfl (Sub.nil _)))) ?_ (LSub.cons rfl (LSub.nil _)) ?_
    · omega
    exact (by omega)
  ·
    have hc := of_decide_eq_false hc
    refine sc_exit ?_
    refine pe_then ?_
    refine pe_then ?_
    refine pe_hit ?_
    refine pn_then ?_
    refine sc_seq ?_
    refine sc_region ?_
    refine st_v (ov_move rfl) rfl ?_
    refine st_v (ov_assign rfl) rfl ?_
    refine st_nil ?_
    refine pn_then ?_
    refine sc_ret ?_
    refine pr_one rfl rfl ?_
    obtain rfl : i = uncL q := by omega
    exact ⟨rfl, hp.chg⟩

set_option maxRecDepth 100000 in
theorem log2_walk (k : Nat) (hk : k < 63) (w0 : World) (hdb : Cells w0 2 0 (dbL.map B8)) :
    Calls Tryd.prog 65 #[.int .i64 ((2 ^ k : Nat) : Int)] w0 fun e w' => e = .returned (.int .i64 (k : Int)) ∧ Chg [] w0 w' := by
  refine calls_in Tryd.func65 Tryd.ntmps65 rfl rfl ?_
  have hp := Hp.start w0
  refine sc_seq ?_
  refine sc_region ?_
  refine st_v (ov_assign rfl) rfl ?_
  refine st_nil ?_
  refine pn_then ?_
  refine sc_seq ?_
  refine sc_region ?_
  refine st_v (ov_move rfl) rfl ?_
  refine st_v (ov_conv_n_n (a := (2 ^ k)) Tryd.underlying3 Tryd.underlying104 rfl (by show 2 ^ k < 9223372036854775808; exact Nat.pow_lt_pow_right (show 1 < 2 by omega) hk)) rfl ?_
  refine st_call pl89 rfl rfl rfl (tz_walk k hk _ (hp.old hdb (by simp))) ?_
  rintro _ w ⟨rfl, hch⟩
  refine ⟨_, rfl, ?_⟩
  replace hp := hp.call hch
  clear hch
  refine st_v (ov_assign rfl) rfl ?_
  refine st_nil ?_
  refine pn_then ?_
  refine sc_ret ?_
  refine pr_one rfl rfl ?_
  exact ⟨rfl, hp.chg⟩

set_option maxRecDepth 100000 in
theorem uncles_walk (q : Qr) (hl : logL q.len ≠ 0) (hv : 0 ≤ q.lv ∧ q.lv ≤ 48) (hu : 0 ≤ q.up ∧ q.up ≤ 48) (w0 : World) (hdb : Cells w0 2 0 (dbL.map B8)) :
    Calls Tryd.prog 53 #[.agg (qcs q).toArray] w0 fun e w' => e = .returned (.int .i64 (uncL q : Nat)) ∧ Chg [] w0 w' := by
  refine calls_in Tryd.func53 Tryd.ntmps53 rfl rfl ?_
  have hp := Hp.start w0
  obtain ⟨hlen, hl9⟩ := logL_is hl
  refine sc_seq ?_
  refine sc_region ?_
  refine st_box 1 hp rfl rfl rfl (fun b1 w hp => ?_)
  refine st_v (ov_assign rfl) rfl ?_
  refine st_nil ?_
  refine pn_then ?_
  refine sc_seq ?_
  obtain ⟨Hs, hHs⟩ := (hp.sub (L' := [(1, _)]) (LSub.cons rfl (LSub.nil _))).hs
  refine sc_plan Hs [0, 1, 2, 3, 5, 6, 7, 8] [4] (.take 0 (.load 1 (.take 2 (.load 3 (.one 4 (.take 5 (.take 6 (.take 7 (.take 8 .nil))))))))) (by kernel_rfl) (by kernel_rfl) (by repeat (first | exact calm_body _ _ _ | refine calm_then ?_ | refine calm_block ?_ | refine calm_jump ?_ | refine calm_ng ?_)) ?_
  replace hp := hp.drew
  refine sp_take rfl (fun w => ov_field (q := _) rfl Tryd.underlying25 rfl sz3 rfl) rfl ?_
  refine sp_load rfl ((hHs _).2 (hp.sub (LSub.cons rfl (LSub.nil _)))) (fun w hs => have hp := (hHs w).1 hs; ov_load1 rfl Tryd.underlying3 rfl ((hp.cells' (t := 1) rfl).at 35 (by first | rfl | omega) (qcs_get q).2.2.2)) rfl ?_
  refine sp_take rfl (fun w => ov_field (q := _) rfl Tryd.underlying25 rfl sz3 rfl) rfl ?_
  refine sp_load rfl ((hHs _).2 (hp.sub (LSub.cons rfl (LSub.nil _)))) (v := .int .i64 ((2 ^ logL q.len : Nat) : Int)) (fun w hs => have hp := (hHs w).1 hs; (ov_load1 rfl Tryd.underlying3 rfl ((hp.cells' (t := 1) rfl).at 34 (by first | rfl | omega) (qcs_get q).2.2.1)).is (by rw [← hlen])) rfl ?_
  refine sp_one rfl ?_
  refine st_call pl65 rfl rfl rfl (log2_walk (logL q.len) (by omega) _ (hp.old hdb (by simp))) ?_
  rintro _ w ⟨rfl, hch⟩
  refine ⟨_, rfl, ?_⟩
  replace hp := hp.call hch
  clear hch
  refine st_nil ?_
  refine sp_next (i := 4) (fun _ => ((hHs _).2 (hp.sub (LSub.cons rfl (LSub.nil _))))) ?_
  refine sp_take rfl (fun w => ov_sub_i64 rfl rfl (by omega)) rfl ?_
  refine sp_take rfl (fun w => ov_add_i64 rfl rfl (by omega)) rfl ?_
  refine sp_take rfl (fun w => ov_maxN (m := uncL q) rfl rfl (by unfold uncL; omega)) rfl ?_
  refine sp_take rfl (fun w => ov_assign rfl) rfl ?_
  refine sp_nil ?_
  refine pn_then ?_
  refine sc_ret ?_
  refine pr_one rfl rfl ?_
  exact ⟨rfl, hp.chg⟩

set_option maxRecDepth 100000 in
theorem amountr_walk (q : Qr) (hq : QOk q) (w0 : World) :
    Calls Tryd.prog 16 #[.agg (qcs q).toArray] w0 fun e w' => e = .returned (.tuple #[.int .i64 (amountL q), .int .i64 (fitsE 0 48 q)]) ∧ Chg [] w0 w' := by
  refine calls_in Tryd.func16 Tryd.ntmps16 rfl rfl ?_
  have hp := Hp.start w0
  refine sc_seq ?_
  refine sc_region ?_
  refine st_box 1 hp rfl rfl rfl (fun b1 w hp => ?_)
  refine st_v (ov_assign rfl) rfl ?_
  refine st_v (ov_assign rfl) rfl ?_
  refine st_nil ?_
  refine pn_then ?_
  refine sc_seq ?_
  refine sc_region ?_
  refine st_v (ov_loadN rfl Tryd.underlying25 rfl (sz25.trans (congrArg some (qcs_len q).symm)) (hp.cells' (t := 1) rfl)) rfl ?_
  refine st_call pl50 rfl rfl rfl (fitsr_walk 0 48 (by omega) (by omega) q hq _) ?_
  rintro _ w ⟨rfl, hch⟩
  refine ⟨_, rfl, ?_⟩
  replace hp := hp.call hch
  clear hch
  refine st_v (ov_assign rfl) rfl ?_
  refine st_nil ?_
  refine pn_then ?_
  refine sc_seq ?_
  refine sc_seq ?_
  refine sc_region ?_
  refine st_v (ov_move rfl) rfl ?_
  refine st_v (ov_neq rfl rfl) rfl ?_
  refine st_nil ?_
  refine pn_then ?_
  refine sc_cond rfl (fun hc => ?_) (fun hc => ?_)
  ·
    have hc := of_decide_eq_true hc
    refine sc_seq ?_
    refine sc_region ?_
    refine st_v (ov_move rfl) rfl ?_
    refine st_v (ov_assign rfl) rfl ?_
    refine st_v (ov_assign rfl) rfl ?_
    refine st_nil ?_
    refine pn_then ?_
    refine sc_ret ?_
    refine pr_then ?_
    refine pr_two rfl rfl rfl ?_
    exact ⟨by unfold amountL; rw [if_neg hc], hp.chg⟩
  ·
    have hc := of_decide_eq_false hc
    refine sc_skip ?_
    refine pn_then ?_
    refine sc_seq ?_
    have hf : fitsE 0 48 q = 0 := by omega
    obtain ⟨f1, f2, f3, f4, f5, f6, f7, f8⟩ := fits_zero hf
    obtain ⟨c1, c2⟩ := logL_range f3
    have hU : uncL q ≤ 49 := by unfold uncL; omega
    obtain ⟨Hs, hHs⟩ := (hp.sub (L' := [(1, _)]) (LSub.cons rfl (LSub.nil _))).hs
    refine sc_plan Hs [0, 1, 2, 4, 5, 6] [3] (.take 0 (.load 1 (.load 2 (.one 3 (.take 4 (.take 5 (.take 6 .nil))))))) (by kernel_rfl) (by kernel_rfl) (by repeat (first | exact calm_body _ _ _ | refine calm_then ?_ | refine calm_block ?_ | refine calm_jump ?_ | refine calm_ng ?_)) ?_
    replace hp := hp.drew
    refine sp_take rfl (fun w => ov_field (q := _) rfl Tryd.underlying25 rfl sz3 rfl) rfl ?_
    refine sp_load rfl ((hHs _).2 (hp.sub (LSub.cons rfl (LSub.nil _)))) (fun w hs => have hp := (hHs w).1 hs; ov_load1 rfl Tryd.underlying3 rfl ((hp.cells' (t := 1) rfl).at 34 (by first | rfl | omega) (qcs_get q).2.2.1)) rfl ?_
    refine sp_load rfl ((hHs _).2 (hp.sub (LSub.cons rfl (LSub.nil _)))) (fun w hs => have hp := (hHs w).1 hs; ov_loadN rfl Tryd.underlying25 rfl (sz25.trans (congrArg some (qcs_len q).symm)) (hp.cells' (t := 1) rfl)) rfl ?_
    refine sp_one rfl ?_
    refine st_call pl51 rfl rfl rfl (unclesr_walk q f3 (by omega) (by omega) _) ?_
    rintro _ w ⟨rfl, hch⟩
    refine ⟨_, rfl, ?_⟩
    replace hp := hp.call hch
    clear hch
    refine st_nil ?_
    refine sp_next (i := 3) (fun _ => ((hHs _).2 (hp.sub (LSub.cons rfl (LSub.nil _))))) ?_
    refine sp_take rfl (fun w => ov_add_i64 rfl rfl (by omega)) rfl ?_
    refine sp_take rfl (fun w => ov_assign rfl) rfl ?_
    refine sp_take rfl (fun w => ov_assign rfl) rfl ?_
    refine sp_nil ?_
    refine pn_then ?_
    refine sc_ret ?_
    refine pr_two rfl rfl rfl ?_
    exact ⟨by unfold amountL; rw [hf, if_pos rfl], hp.chg⟩

set_option maxRecDepth 100000 in
theorem amount_walk (q : Qr) (hq : QOk q) (w0 : World) (hdb : Cells w0 2 0 (dbL.map B8)) :
    Calls Tryd.prog 17 #[.agg (qcs q).toArray] w0 fun e w' => e = .returned (.tuple #[.int .i64 (amountL q), .int .i64 (fitsE 0 48 q)]) ∧ Chg [] w0 w' := by
  refine calls_in Tryd.func17 Tryd.ntmps17 rfl rfl ?_
  have hp := Hp.start w0
  refine sc_seq ?_
  refine sc_region ?_
  refine st_box 1 hp rfl rfl rfl (fun b1 w hp => ?_)
  refine st_v (ov_assign rfl) rfl ?_
  refine st_v (ov_assign rfl) rfl ?_
  refine st_nil ?_
  refine pn_then ?_
  refine sc_seq ?_
  refine sc_seq ?_
  refine sc_region ?_
  refine st_v (ov_loadN rfl Tryd.underlying25 rfl (sz25.trans (congrArg some (qcs_len q).symm)) (hp.cells' (t := 1) rfl)) rfl ?_
  refine st_call pl52 rfl rfl rfl (fits_walk 0 48 (by omega) (by omega) q hq _) ?_
  rintro _ w ⟨rfl, hch⟩
  refine ⟨_, rfl, ?_⟩
  replace hp := hp.call hch
  clear hch
  refine st_v (ov_assign rfl) rfl ?_
  refine st_nil ?_
  refine pn_then ?_
  refine sc_seq ?_
  refine sc_region ?_
  refine st_v (ov_move rfl) rfl ?_
  refine st_v (ov_neq rfl rfl) rfl ?_
  refine st_nil ?_
  refine pn_then ?_
  refine sc_cond rfl (fun hc => ?_) (fun hc => ?_)
  ·
    have hc := of_decide_eq_true hc
    refine sc_seq ?_
    refine sc_region ?_
    refine st_v (ov_move rfl) rfl ?_
    refine st_v (ov_assign rfl) rfl ?_
    refine st_v (ov_assign rfl) rfl ?_
    refine st_nil ?_
    refine pn_then ?_
    refine sc_ret ?_
    refine pr_then ?_
    refine pr_two rfl rfl rfl ?_
    exact ⟨by unfold amountL; rw [if_neg hc], hp.chg⟩
  ·
    have hc := of_decide_eq_false hc
    refine sc_skip ?_
    refine pn_then ?_
    refine sc_seq ?_
    have hf : fitsE 0 48 q = 0 := by omega
    obtain ⟨f1, f2, f3, f4, f5, f6, f7, f8⟩ := fits_zero hf
    obtain ⟨c1, c2⟩ := logL_range f3
    have hU : uncL q ≤ 49 := by unfold uncL; omega
    obtain ⟨Hs, hHs⟩ := (hp.sub (L' := [(1, _)]) (LSub.cons rfl (LSub.nil _))).hs
    refine sc_plan Hs [0, 1, 2, 4, 5, 6] [3] (.take 0 (.load 1 (.load 2 (.one 3 (.take 4 (.take 5 (.take 6 .nil))))))) (by kernel_rfl) (by kernel_rfl) (by repeat (first | exact calm_body _ _ _ | refine calm_then ?_ | refine calm_block ?_ | refine calm_jump ?_ | refine calm_ng ?_)) ?_
    replace hp := hp.drew
    refine sp_take rfl (fun w => ov_field (q := _) rfl Tryd.underlying25 rfl sz3 rfl) rfl ?_
    refine sp_load rfl ((hHs _).2 (hp.sub (LSub.cons rfl (LSub.nil _)))) (fun w hs => have hp := (hHs w).1 hs; ov_load1 rfl Tryd.underlying3 rfl ((hp.cells' (t := 1) rfl).at 34 (by first | rfl | omega) (qcs_get q).2.2.1)) rfl ?_
    refine sp_load rfl ((hHs _).2 (hp.sub (LSub.cons rfl (LSub.nil _)))) (fun w hs => have hp := (hHs w).1 hs; ov_loadN rfl Tryd.underlying25 rfl (sz25.trans (congrArg some (qcs_len q).symm)) (hp.cells' (t := 1) rfl)) rfl ?_
    refine sp_one rfl ?_
    refine st_call pl53 rfl rfl rfl (uncles_walk q f3 (by omega) (by omega) _ (hp.old hdb (by simp))) ?_
    rintro _ w ⟨rfl, hch⟩
    refine ⟨_, rfl, ?_⟩
    replace hp := hp.call hch
    clear hch
    refine st_nil ?_
    refine sp_next (i := 3) (fun _ => ((hHs _).2 (hp.sub (LSub.cons rfl (LSub.nil _))))) ?_
    refine sp_take rfl (fun w => ov_add_i64 rfl rfl (by omega)) rfl ?_
    refine sp_take rfl (fun w => ov_assign rfl) rfl ?_
    refine sp_take rfl (fun w => ov_assign rfl) rfl ?_
    refine sp_nil ?_
    refine pn_then ?_
    refine sc_ret ?_
    refine pr_two rfl rfl rfl ?_
    exact ⟨by unfold amountL; rw [hf, if_pos rfl], hp.chg⟩

set_option maxRecDepth 100000 in
theorem law_amounts (q : Qr) (hq : QOk q) (w0 : World) (hdb : Cells w0 2 0 (dbL.map B8)) :
    Calls Tryd.prog 3 #[.agg (qcs q).toArray] w0 fun e w' => e = .returned (.bool true) ∧ Chg [] w0 w' := by
  refine calls_in Tryd.func3 Tryd.ntmps3 rfl rfl ?_
  have hp := Hp.start w0
  refine sc_seq ?_
  refine sc_region ?_
  refine st_box 1 hp rfl rfl rfl (fun b1 w hp => ?_)
  refine st_v (ov_assign rfl) rfl ?_
  refine st_nil ?_
  refine pn_then ?_
  refine sc_seq ?_
  refine sc_region ?_
  refine st_v (ov_loadN rfl Tryd.underlying25 rfl (sz25.trans (congrArg some (qcs_len q).symm)) (hp.cells' (t := 1) rfl)) rfl ?_
  refine st_call pl16 rfl rfl rfl (amountr_walk q hq _) ?_
  rintro _ w ⟨rfl, hch⟩
  refine ⟨_, rfl, ?_⟩
  replace hp := hp.call hch
  clear hch
  refine st_v (ov_move rfl) rfl ?_
  refine st_v (ov_extract rfl rfl) rfl ?_
  refine st_v (ov_extract rfl rfl) rfl ?_
  refine st_v (ov_assign rfl) rfl ?_
  refine st_v (ov_assign rfl) rfl ?_
  refine st_nil ?_
  refine pn_then ?_
  refine sc_seq ?_
  refine sc_region ?_
  refine st_v (ov_loadN rfl Tryd.underlying25 rfl (sz25.trans (congrArg some (qcs_len q).symm)) (hp.cells' (t := 1) rfl)) rfl ?_
  refine st_call pl17 rfl rfl rfl (amount_walk q hq _ (hp.old hdb (by simp))) ?_
  rintro _ w ⟨rfl, hch⟩
  refine ⟨_, rfl, ?_⟩
  replace hp := hp.call hch
  clear hch
  refine st_v (ov_move rfl) rfl ?_
  refine st_v (ov_extract rfl rfl) rfl ?_
  refine st_v (ov_extract rfl rfl) rfl ?_
  refine st_v (ov_assign rfl) rfl ?_
  refine st_v (ov_assign rfl) rfl ?_
  refine st_nil ?_
  refine pn_then ?_
  refine sc_seq ?_
  refine sc_region ?_
  refine st_v (ov_move rfl) rfl ?_
  refine st_v (ov_move rfl) rfl ?_
  refine st_v (v := .bool true) ((ov_eql rfl rfl).is ((by simp))) rfl ?_
  refine st_v (ov_move rfl) rfl ?_
  refine st_on (j := 3) rfl rfl ?_
  refine st_v (ov_move rfl) rfl ?_
  refine st_on (j := 3) rfl rfl ?_
  refine st_v (ov_move rfl) rfl ?_
  refine st_on (j := 3) rfl rfl ?_
  refine st_v (v := .bool true) ((ov_eql rfl rfl).is ((by simp))) rfl ?_
  refine st_v (ov_pick_t rfl rfl) rfl ?_
  refine st_v (ov_assign rfl) rfl ?_
  refine st_nil ?_
  refine pn_then ?_
  refine sc_ret ?_
  refine pr_one rfl rfl ?_
  exact ⟨rfl, hp.chg⟩

end Go.Proofs.YtcjnpaikmcjjlaaDoor
