/-
  The walks of both Checks, of both Tops.
-/
import Derived.Test.YtcjnpaikmcjjlaaDoorAmoA
import Derived.Test.YtcjnpaikmcjjlaaDoorTopP
namespace Go.Proofs.YtcjnpaikmcjjlaaDoor
open Go Go.RowKit

set_option maxRecDepth 100000 in
theorem checkr_walk (n low : Int) (hn : I64 n) (hlow : I64 low) (q : Qr) (hq : QOk q) (w0 : World) :
    Calls Tryd.prog 62 #[.int .i64 n, .int .i64 low, .agg (qcs q).toArray] w0 fun e w' => e = .returned (.int .i64 (checkE n low q)) ∧ Chg [] w0 w' := by
  refine calls_in Tryd.func62 Tryd.ntmps62 rfl rfl ?_
  have hp := Hp.start w0
  refine sc_seq ?_
  refine sc_region ?_
  refine st_box 5 hp rfl rfl rfl (fun b5 w hp => ?_)
  refine st_v (ov_assign rfl) rfl ?_
  refine st_nil ?_
  refine pn_then ?_
  refine sc_seq ?_
  refine sc_region ?_
  refine st_v (ov_move rfl) rfl ?_
  refine st_v (ov_move rfl) rfl ?_
  refine st_call pl88 rfl rfl rfl (tree_walk n low hn hlow _) ?_
  rintro _ w ⟨rfl, hch⟩
  refine ⟨_, rfl, ?_⟩
  replace hp := hp.call hch
  clear hch
  refine st_v (ov_assign rfl) rfl ?_
  refine st_nil ?_
  refine pn_then ?_
  refine sc_seq ?_
  refine sc_seq ?_
  refine sc_region ?_
  refine st_v (ov_move rfl) rfl ?_
  refine st_v (ov_neq rfl rfl) rfl ?_
  refine st_nil ?_
  refine pn_then ?_
  refine sc_cond rfl (fun hc => ?_) (fun hc => ?_)
  ·
    have hc := of_decide_eq_true hc
    refine sc_seq ?_
    refine sc_region ?_
    refine st_v (ov_move rfl) rfl ?_
    refine st_v (ov_assign rfl) rfl ?_
    refine st_nil ?_
    refine pn_then ?_
    refine sc_ret ?_
    refine pr_then ?_
    refine pr_one rfl rfl ?_
    exact ⟨by rw [checkE_bad hc] <;> rfl, hp.chg⟩
  ·
    have hc := of_decide_eq_false hc
    have hok : treeE n low = 0 := by omega
    obtain ⟨m, l, rfl, rfl, hm1, hm2, hml, hb20⟩ := treeE_zero hok
    refine sc_skip ?_
    refine pn_then ?_
    refine sc_seq ?_
    obtain ⟨Hs, hHs⟩ := (hp.sub (L' := [(5, _)]) (LSub.cons rfl (LSub.nil _))).hs
    refine sc_plan Hs [0, 1, 2, 4, 5, 7] [3] (.take 0 (.take 1 (.take 2 (.load 5 (.one 3 (.take 4 (.one 6 (.take 7 .nil)))))))) (by kernel_rfl) (by kernel_rfl) (by repeat (first | exact calm_body _ _ _ | refine calm_then ?_ | refine calm_block ?_ | refine calm_jump ?_ | refine calm_ng ?_)) ?_
    replace hp := hp.drew
    refine sp_take rfl (fun w => ov_move rfl) rfl ?_
    refine sp_take rfl (fun w => ov_move rfl) rfl ?_
    refine sp_take rfl (fun w => ov_move rfl) rfl ?_
    refine sp_load rfl ((hHs _).2 (hp.sub (LSub.cons rfl (LSub.nil _)))) (fun w hs => have hp := (hHs w).1 hs; ov_loadN rfl Tryd.underlying25 rfl (sz25.trans (congrArg some (qcs_len q).symm)) (hp.cells' (t := 5) rfl)) rfl ?_
    refine sp_one rfl ?_
    refine st_call pl73 rfl rfl rfl (rise7_walk m (by omega) _) ?_
    rintro _ w ⟨rfl, hch⟩
    refine ⟨_, rfl, ?_⟩
    replace hp := hp.call hch
    clear hch
    refine st_nil ?_
    refine sp_next (i := 3) (fun _ => ((hHs _).2 (hp.sub (LSub.cons rfl (LSub.nil _))))) ?_
    refine sp_take rfl (fun w => ov_add_n (a := l) (b := bitLen (m - 1)) rfl rfl (by omega)) rfl ?_
    refine sp_one rfl ?_
    refine st_call pl50 rfl rfl rfl (fitsr_walk l (l + bitLen (m - 1)) hml (by omega) q hq _) ?_
    rintro _ w ⟨rfl, hch⟩
    refine ⟨_, rfl, ?_⟩
    replace hp := hp.call hch
    clear hch
    refine st_nil ?_
    refine sp_next (i := 6) (fun h => absurd h (by decide)) ?_
    refine sp_take rfl (fun w => ov_assign rfl) rfl ?_
    refine sp_nil ?_
    refine pn_then ?_
    refine sc_ret ?_
    refine pr_one rfl rfl ?_
    exact ⟨by rw [checkE_ok hok], hp.chg⟩

set_option maxRecDepth 100000 in
theorem check_walk (n low : Int) (hn : I64 n) (hlow : I64 low) (q : Qr) (hq : QOk q) (w0 : World) :
    Calls Tryd.prog 44 #[.int .i64 n, .int .i64 low, .agg (qcs q).toArray] w0 fun e w' => e = .returned (.int .i64 (checkE n low q)) ∧ Chg [] w0 w' := by
  refine calls_in Tryd.func44 Tryd.ntmps44 rfl rfl ?_
  have hp := Hp.start w0
  refine sc_seq ?_
  refine sc_region ?_
  refine st_box 5 hp rfl rfl rfl (fun b5 w hp => ?_)
  refine st_v (ov_assign rfl) rfl ?_
  refine st_nil ?_
  refine pn_then ?_
  refine sc_seq ?_
  refine sc_region ?_
  refine st_v (ov_move rfl) rfl ?_
  refine st_v (ov_move rfl) rfl ?_
  refine st_call pl77 rfl rfl rfl (height7_walk n low hn hlow _) ?_
  rintro _ w ⟨rfl, hch⟩
  refine ⟨_, rfl, ?_⟩
  replace hp := hp.call hch
  clear hch
  refine st_v (ov_move rfl) rfl ?_
  refine st_v (ov_extract rfl rfl) rfl ?_
  refine st_v (ov_extract rfl rfl) rfl ?_
  refine st_v (ov_assign rfl) rfl ?_
  refine st_v (ov_assign rfl) rfl ?_
  refine st_nil ?_
  refine pn_then ?_
  refine sc_seq ?_
  refine sc_seq ?_
  refine sc_region ?_
  refine st_v (ov_move rfl) rfl ?_
  refine st_v (ov_neq rfl rfl) rfl ?_
  refine st_nil ?_
  refine pn_then ?_
  refine sc_cond rfl (fun hc => ?_) (fun hc => ?_)
  ·
    have hc := of_decide_eq_true hc
    refine sc_seq ?_
    refine sc_region ?_
    refine st_v (ov_move rfl) rfl ?_
    refine st_v (ov_assign rfl) rfl ?_
    refine st_nil ?_
    refine pn_then ?_
    refine sc_ret ?_
    refine pr_then ?_
    refine pr_one rfl rfl ?_
    exact ⟨by rw [checkE_bad hc] <;> rfl, hp.chg⟩
  ·
    have hc := of_decide_eq_false hc
    have hok : treeE n low = 0 := by omega
    obtain ⟨m, l, rfl, rfl, hm1, hm2, hml, hb20⟩ := treeE_zero hok
    have htop : topH m l = ((l + bitLen (m - 1) : Nat) : Int) := by unfold topH; rw [hok, if_pos rfl]; simp
    rw [htop]
    refine sc_skip ?_
    refine pn_then ?_
    refine sc_seq ?_
    refine sc_region ?_
    refine st_v (ov_move rfl) rfl ?_
    refine st_v (ov_move rfl) rfl ?_
    refine st_v (ov_loadN rfl Tryd.underlying25 rfl (sz25.trans (congrArg some (qcs_len q).symm)) (hp.cells' (t := 5) rfl)) rfl ?_
    refine st_call pl52 rfl rfl rfl (fits_walk l (l + bitLen (m - 1)) hml (by omega) q hq _) ?_
    rintro _ w ⟨rfl, hch⟩
    refine ⟨_, rfl, ?_⟩
    replace hp := hp.call hch
    clear hch
    refine st_v (ov_assign rfl) rfl ?_
    refine st_nil ?_
    refine pn_then ?_
    refine sc_ret ?_
    refine pr_one rfl rfl ?_
    exact ⟨by rw [checkE_ok hok], hp.chg⟩

set_option maxRecDepth 100000 in
theorem topr_walk (n low : Int) (hn : I64 n) (hlow : I64 low) (q : Qr) (hq : QOk q) (w0 : World) :
    Calls Tryd.prog 28 #[.int .i64 n, .int .i64 low, .agg (qcs q).toArray] w0 fun e w' => e = .returned (.tuple #[.int .i64 (topV n low q), .int .i64 (topO n low q), .int .i64 (checkE n low q)]) ∧ Chg [] w0 w' := by
  refine calls_in Tryd.func28 Tryd.ntmps28 rfl rfl ?_
  have hp := Hp.start w0
  refine sc_seq ?_
  refine sc_region ?_
  refine st_box 5 hp rfl rfl rfl (fun b5 w hp => ?_)
  refine st_v (ov_assign rfl) rfl ?_
  refine st_v (ov_assign rfl) rfl ?_
  refine st_v (ov_assign rfl) rfl ?_
  refine st_nil ?_
  refine pn_then ?_
  refine sc_seq ?_
  refine sc_region ?_
  refine st_v (ov_move rfl) rfl ?_
  refine st_v (ov_move rfl) rfl ?_
  refine st_v (ov_loadN rfl Tryd.underlying25 rfl (sz25.trans (congrArg some (qcs_len q).symm)) (hp.cells' (t := 5) rfl)) rfl ?_
  refine st_call pl62 rfl rfl rfl (checkr_walk n low hn hlow q hq _) ?_
  rintro _ w ⟨rfl, hch⟩
  refine ⟨_, rfl, ?_⟩
  replace hp := hp.call hch
  clear hch
  refine st_v (ov_assign rfl) rfl ?_
  refine st_nil ?_
  refine pn_then ?_
  refine sc_seq ?_
  refine sc_seq ?_
  refine sc_region ?_
  refine st_v (ov_move rfl) rfl ?_
  refine st_v (ov_neq rfl rfl) rfl ?_
  refine st_nil ?_
  refine pn_then ?_
  refine sc_cond rfl (fun hc => ?_) (fun hc => ?_)
  ·
    have hc := of_decide_eq_true hc
    refine sc_seq ?_
    refine sc_region ?_
    refine st_v (ov_move rfl) rfl ?_
    refine st_v (ov_assign rfl) rfl ?_
    refine st_v (ov_assign rfl) rfl ?_
    refine st_v (ov_assign rfl) rfl ?_
    refine st_nil ?_
    refine pn_then ?_
    refine sc_ret ?_
    refine pr_then ?_
    refine pr_three rfl rfl rfl rfl ?_
    exact ⟨by unfold topV topO; rw [if_neg hc, if_neg hc], hp.chg⟩
  ·
    have hc := of_decide_eq_false hc
    refine sc_skip ?_
    refine pn_then ?_
    refine sc_seq ?_
    have hf : checkE n low q = 0 := by omega
    obtain ⟨f1, f2, f3, f4, f5, f6, f7, f8⟩ := check_zero hf
    obtain ⟨hlen, _⟩ := logL_is f3
    obtain ⟨o, ho⟩ : ∃ o : Nat, q.off = (o : Int) := ⟨q.off.toNat, by omega⟩
    have hto : q.off.toNat = o := by omega
    obtain ⟨⟨b1, b2⟩, ⟨b3, b4⟩, ⟨b5, b6⟩, ⟨b7, b8⟩⟩ := hq
    obtain ⟨Hs, hHs⟩ := (hp.sub (L' := [(5, _)]) (LSub.cons rfl (LSub.nil _))).hs
    refine sc_plan Hs [0, 1, 3, 5, 6] [2, 4] (.take 0 (.load 1 (.load 3 (.one 2 (.one 4 (.take 5 (.take 6 .nil))))))) (by kernel_rfl) (by kernel_rfl) (by repeat (first | exact calm_body _ _ _ | refine calm_then ?_ | refine calm_block ?_ | refine calm_jump ?_ | refine calm_ng ?_)) ?_
    replace hp := hp.drew
    refine sp_take rfl (fun w => ov_field (q := _) rfl Tryd.underlying25 rfl sz3 rfl) rfl ?_
    refine sp_load rfl ((hHs _).2 (hp.sub (LSub.cons rfl (LSub.nil _)))) (fun w hs => have hp := (hHs w).1 hs; ov_load1 rfl Tryd.underlying3 rfl ((hp.cells' (t := 5) rfl).at 34 (by first | rfl | omega) (qcs_get q).2.2.1)) rfl ?_
    refine sp_load rfl ((hHs _).2 (hp.sub (LSub.cons rfl (LSub.nil _)))) (fun w hs => have hp := (hHs w).1 hs; ov_loadN rfl Tryd.underlying25 rfl (sz25.trans (congrArg some (qcs_len q).symm)) (hp.cells' (t := 5) rfl)) rfl ?_
    refine sp_one rfl ?_
    refine st_call pl63 rfl rfl rfl (log_walk q.len _) ?_
    rintro _ w ⟨rfl, hch⟩
    refine ⟨_, rfl, ?_⟩
    replace hp := hp.call hch
    clear hch
    refine st_nil ?_
    refine sp_next (i := 2) (fun _ => ((hHs _).2 (hp.sub (LSub.cons rfl (LSub.nil _))))) ?_
    refine sp_one rfl ?_
    refine st_call pl51 rfl rfl rfl (unclesr_walk q f3 (by omega) (by omega) _) ?_
    rintro _ w ⟨rfl, hch⟩
    refine ⟨_, rfl, ?_⟩
    replace hp := hp.call hch
    clear hch
    refine st_nil ?_
    refine sp_next (i := 4) (fun _ => ((hHs _).2 (hp.sub (LSub.cons rfl (LSub.nil _))))) ?_
    refine sp_take rfl (fun w => ov_add_n (a := logL q.len) (b := uncL q) rfl rfl (by omega)) rfl ?_
    refine sp_take rfl (fun w => ov_assign rfl) rfl ?_
    refine sp_nil ?_
    refine pn_then ?_
    refine sc_seq ?_
    obtain ⟨Hs, hHs⟩ := (hp.sub (L' := [(5, _)]) (LSub.cons rfl (LSub.nil _))).hs
    refine sc_plan Hs [0, 1, 2, 3, 4, 5, 6, 8, 9, 10, 11] [7] (.take 0 (.load 1 (.take 2 (.take 3 (.take 4 (.load 5 (.take 6 (.one 7 (.take 8 (.take 9 (.take 10 (.take 11 .nil)))))))))))) (by kernel_rfl) (by kernel_rfl) (by repeat (first | exact calm_body _ _ _ | refine calm_then ?_ | refine calm_block ?_ | refine calm_jump ?_ | refine calm_ng ?_)) ?_
    replace hp := hp.drew
    refine sp_take rfl (fun w => ov_field (q := _) rfl Tryd.underlying25 rfl sz3 rfl) rfl ?_
    refine sp_load rfl ((hHs _).2 (hp.sub (LSub.cons rfl (LSub.nil _)))) (fun w hs => have hp := (hHs w).1 hs; ov_load1 rfl Tryd.underlying3 rfl ((hp.cells' (t := 5) rfl).at 32 (by first | rfl | omega) (qcs_get q).1)) rfl ?_
    refine sp_take rfl (fun w => ov_move rfl) rfl ?_
    refine sp_take rfl (fun w => ov_add_i64 rfl rfl (by omega)) rfl ?_
    refine sp_take rfl (fun w => ov_field (q := _) rfl Tryd.underlying25 rfl sz3 rfl) rfl ?_
    refine sp_load rfl ((hHs _).2 (hp.sub (LSub.cons rfl (LSub.nil _)))) (v := .int .i64 (o : Int)) (fun w hs => have hp := (hHs w).1 hs; (ov_load1 rfl Tryd.underlying3 rfl ((hp.cells' (t := 5) rfl).at 33 (by first | rfl | omega) (qcs_get q).2.1)).is (by rw [ho])) rfl ?_
    refine sp_take rfl (fun w => ov_move rfl) rfl ?_
    refine sp_one rfl ?_
    refine st_call pl64 rfl rfl rfl (power_walk (logL q.len + uncL q) (by omega) _) ?_
    rintro _ w ⟨rfl, hch⟩
    refine ⟨_, rfl, ?_⟩
    replace hp := hp.call hch
    clear hch
    refine st_nil ?_
    refine sp_next (i := 7) (fun _ => ((hHs _).2 (hp.sub (LSub.cons rfl (LSub.nil _))))) ?_
    obtain ⟨P, hP⟩ : ∃ P, P = 2 ^ (logL q.len + uncL q) := ⟨_, rfl⟩
    rw [← hP]
    have hPp : 0 < P := by rw [hP]; exact Nat.two_pow_pos _
    refine sp_take rfl (fun w => ov_quo_n (a := o) (b := P) rfl rfl (by omega)) rfl ?_
    refine sp_take rfl (fun w => ov_assign rfl) rfl ?_
    refine sp_take rfl (fun w => ov_assign rfl) rfl ?_
    refine sp_take rfl (fun w => ov_assign rfl) rfl ?_
    refine sp_nil ?_
    refine pn_then ?_
    refine sc_ret ?_
    refine pr_three rfl rfl rfl rfl ?_
    exact ⟨by unfold topV topO; rw [hf, if_pos rfl, if_pos rfl, hto]; rw [hP]; rfl, hp.chg⟩

set_option maxRecDepth 100000 in
theorem top_walk (n low : Int) (hn : I64 n) (hlow : I64 low) (q : Qr) (hq : QOk q) (w0 : World) (hdb : Cells w0 2 0 (dbL.map B8)) :
    Calls Tryd.prog 29 #[.int .i64 n, .int .i64 low, .agg (qcs q).toArray] w0 fun e w' => e = .returned (.tuple #[.int .i64 (topV n low q), .int .i64 (topO n low q), .int .i64 (checkE n low q)]) ∧ Chg [] w0 w' := by
  refine calls_in Tryd.func29 Tryd.ntmps29 rfl rfl ?_
  have hp := Hp.start w0
  refine sc_seq ?_
  refine sc_region ?_
  refine st_box 5 hp rfl rfl rfl (fun b5 w hp => ?_)
  refine st_v (ov_assign rfl) rfl ?_
  refine st_v (ov_assign rfl) rfl ?_
  refine st_v (ov_assign rfl) rfl ?_
  refine st_nil ?_
  refine pn_then ?_
  refine sc_seq ?_
  refine sc_seq ?_
  refine sc_region ?_
  refine st_v (ov_move rfl) rfl ?_
  refine st_v (ov_move rfl) rfl ?_
  refine st_v (ov_loadN rfl Tryd.underlying25 rfl (sz25.trans (congrArg some (qcs_len q).symm)) (hp.cells' (t := 5) rfl)) rfl ?_
  refine st_call pl44 rfl rfl rfl (check_walk n low hn hlow q hq _) ?_
  rintro _ w ⟨rfl, hch⟩
  refine ⟨_, rfl, ?_⟩
  replace hp := hp.call hch
  clear hch
  refine st_v (ov_assign rfl) rfl ?_
  refine st_nil ?_
  refine pn_then ?_
  refine sc_seq ?_
  refine sc_region ?_
  refine st_v (ov_move rfl) rfl ?_
  refine st_v (ov_neq rfl rfl) rfl ?_
  refine st_nil ?_
  refine pn_then ?_
  refine sc_cond rfl (fun hc => ?_) (fun hc => ?_)
  ·
    have hc := of_decide_eq_true hc
    refine sc_seq ?_
    refine sc_region ?_
    refine st_v (ov_move rfl) rfl ?_
    refine st_v (ov_assign rfl) rfl ?_
    refine st_v (ov_assign rfl) rfl ?_
    refine st_v (ov_assign rfl) rfl ?_
    refine st_nil ?_
    refine pn_then ?_
    refine sc_ret ?_
    refine pr_then ?_
    refine pr_three rfl rfl rfl rfl ?_
    exact ⟨by unfold topV topO; rw [if_neg hc, if_neg hc], hp.chg⟩
  ·
    have hc := of_decide_eq_false hc
    refine sc_skip ?_
    refine pn_then ?_
    refine sc_seq ?_
    have hf : checkE n low q = 0 := by omega
    obtain ⟨f1, f2, f3, f4, f5, f6, f7, f8⟩ := check_zero hf
    obtain ⟨hlen, _⟩ := logL_is f3
    obtain ⟨o, ho⟩ : ∃ o : Nat, q.off = (o : Int) := ⟨q.off.toNat, by omega⟩
    have hto : q.off.toNat = o := by omega
    obtain ⟨⟨b1, b2⟩, ⟨b3, b4⟩, ⟨b5, b6⟩, ⟨b7, b8⟩⟩ := hq
    obtain ⟨Hs, hHs⟩ := (hp.sub (L' := [(5, _)]) (LSub.cons rfl (LSub.nil _))).hs
    refine sc_plan Hs [0, 1, 3, 5, 6] [2, 4] (.take 0 (.load 1 (.load 3 (.one 2 (.one 4 (.take 5 (.take 6 .nil))))))) (by kernel_rfl) (by kernel_rfl) (by repeat (first | exact calm_body _ _ _ | refine calm_then ?_ | refine calm_block ?_ | refine calm_jump ?_ | refine calm_ng ?_)) ?_
    replace hp := hp.drew
    refine sp_take rfl (fun w => ov_field (q := _) rfl Tryd.underlying25 rfl sz3 rfl) rfl ?_
    refine sp_load rfl ((hHs _).2 (hp.sub (LSub.cons rfl (LSub.nil _)))) (v := .int .i64 ((2 ^ logL q.len : Nat) : Int)) (fun w hs => have hp := (hHs w).1 hs; (ov_load1 rfl Tryd.underlying3 rfl ((hp.cells' (t := 5) rfl).at 34 (by first | rfl | omega) (qcs_get q).2.2.1)).is (by rw [← hlen])) rfl ?_
    refine sp_load rfl ((hHs _).2 (hp.sub (LSub.cons rfl (LSub.nil _)))) (fun w hs => have hp := (hHs w).1 hs; ov_loadN rfl Tryd.underlying25 rfl (sz25.trans (congrArg some (qcs_len q).symm)) (hp.cells' (t := 5) rfl)) rfl ?_
    refine sp_one rfl ?_
    refine st_call pl65 rfl rfl rfl (log2_walk (logL q.len) (by omega) _ (hp.old hdb (by simp))) ?_
    rintro _ w ⟨rfl, hch⟩
    refine ⟨_, rfl, ?_⟩
    replace hp := hp.call hch
    clear hch
    refine st_nil ?_
    refine sp_next (i := 2) (fun _ => ((hHs _).2 (hp.sub (LSub.cons rfl (LSub.nil _))))) ?_
    refine sp_one rfl ?_
    refine st_call pl53 rfl rfl rfl (uncles_walk q f3 (by omega) (by omega) _ (hp.old hdb (by simp))) ?_
    rintro _ w ⟨rfl, hch⟩
    refine ⟨_, rfl, ?_⟩
    replace hp := hp.call hch
    clear hch
    refine st_nil ?_
    refine sp_next (i := 4) (fun _ => ((hHs _).2 (hp.sub (LSub.cons rfl (LSub.nil _))))) ?_
    refine sp_take rfl (fun w => ov_add_n (a := logL q.len) (b := uncL q) rfl rfl (by omega)) rfl ?_
    refine sp_take rfl (fun w => ov_assign rfl) rfl ?_
    refine sp_nil ?_
    refine pn_then ?_
    refine sc_seq ?_
    refine sc_draws (by kernel_rfl) (by kernel_rfl) ?_
    replace hp := hp.drew
    refine ss_v (ov_field (q := _) rfl Tryd.underlying25 rfl sz3 rfl) rfl ?_
    refine ss_v (ov_load1 rfl Tryd.underlying3 rfl ((hp.cells' (t := 5) rfl).at 32 (by first | rfl | omega) (qcs_get q).1)) rfl ?_
    refine ss_v (ov_move rfl) rfl ?_
    refine ss_v (ov_add_i64 rfl rfl (by omega)) rfl ?_
    refine ss_v (ov_field (q := _) rfl Tryd.underlying25 rfl sz3 rfl) rfl ?_
    refine ss_v (v := .int .i64 (o : Int)) ((ov_load1 rfl Tryd.underlying3 rfl ((hp.cells' (t := 5) rfl).at 33 (by first | rfl | omega) (qcs_get q).2.1)).is (by rw [ho])) rfl ?_
    refine ss_v (ov_move rfl) rfl ?_
    refine ss_v (ov_shr_n (a := o) (s := (logL q.len) + (uncL q)) rfl rfl ⟨by omega, by show logL q.len + uncL q ≤ 64; omega⟩) rfl ?_
    refine ss_v (ov_assign rfl) rfl ?_
    refine ss_v (ov_assign rfl) rfl ?_
    refine ss_v (ov_assign rfl) rfl ?_
    refine ss_end ?_
    refine pn_then ?_
    refine sc_ret ?_
    refine pr_three rfl rfl rfl rfl ?_
    exact ⟨by unfold topV topO; rw [hf, if_pos rfl, if_pos rfl, hto]; rw [Nat.shiftRight_eq_div_pow]; rfl, hp.chg⟩

set_option maxRecDepth 100000 in
theorem law_tops (n low : Int) (hn : I64 n) (hlow : I64 low) (q : Qr) (hq : QOk q) (w0 : World) (hdb : Cells w0 2 0 (dbL.map B8)) :
    Calls Tryd.prog 5 #[.int .i64 n, .int .i64 low, .agg (qcs q).toArray] w0 fun e w' => e = .returned (.bool true) ∧ Chg [] w0 w' := by
  refine calls_in Tryd.func5 Tryd.ntmps5 rfl rfl ?_
  have hp := Hp.start w0
  refine sc_seq ?_
  refine sc_region ?_
  refine st_box 5 hp rfl rfl rfl (fun b5 w hp => ?_)
  refine st_v (ov_assign rfl) rfl ?_
  refine st_nil ?_
  refine pn_then ?_
  refine sc_seq ?_
  refine sc_region ?_
  refine st_v (ov_move rfl) rfl ?_
  refine st_v (ov_move rfl) rfl ?_
  refine st_v (ov_loadN rfl Tryd.underlying25 rfl (sz25.trans (congrArg some (qcs_len q).symm)) (hp.cells' (t := 5) rfl)) rfl ?_
  refine st_call pl28 rfl rfl rfl (topr_walk n low hn hlow q hq _) ?_
  rintro _ w ⟨rfl, hch⟩
  refine ⟨_, rfl, ?_⟩
  replace hp := hp.call hch
  clear hch
  refine st_v (ov_move rfl) rfl ?_
  refine st_v (ov_extract rfl rfl) rfl ?_
  refine st_v (ov_extract rfl rfl) rfl ?_
  refine st_v (ov_extract rfl rfl) rfl ?_
  refine st_v (ov_assign rfl) rfl ?_
  refine st_v (ov_assign rfl) rfl ?_
  refine st_v (ov_assign rfl) rfl ?_
  refine st_nil ?_
  refine pn_then ?_
  refine sc_seq ?_
  refine sc_region ?_
  refine st_v (ov_move rfl) rfl ?_
  refine st_v (ov_move rfl) rfl ?_
  refine st_v (ov_loadN rfl Tryd.underlying25 rfl (sz25.trans (congrArg some (qcs_len q).symm)) (hp.cells' (t := 5) rfl)) rfl ?_
  refine st_call pl29 rfl rfl rfl (top_walk n low hn hlow q hq _ (hp.old hdb (by simp))) ?_
  rintro _ w ⟨rfl, hch⟩
  refine ⟨_, rfl, ?_⟩
  replace hp := hp.call hch
  clear hch
  refine st_v (ov_move rfl) rfl ?_
  refine st_v (ov_extract rfl rfl) rfl ?_
  refine st_v (ov_extract rfl rfl) rfl ?_
  refine st_v (ov_extract rfl rfl) rfl ?_
  refine st_v (ov_assign rfl) rfl ?_
  refine st_v (ov_assign rfl) rfl ?_
  refine st_v (ov_assign rfl) rfl ?_
  refine st_nil ?_
  refine pn_then ?_
  refine sc_seq ?_
  refine sc_region ?_
  refine st_v (ov_move rfl) rfl ?_
  refine st_v (ov_move rfl) rfl ?_
  refine st_v (v := .bool true) ((ov_eql rfl rfl).is ((by simp))) rfl ?_
  refine st_v (ov_move rfl) rfl ?_
  refine st_on (j := 3) rfl rfl ?_
  refine st_v (ov_move rfl) rfl ?_
  refine st_on (j := 3) rfl rfl ?_
  refine st_v (ov_move rfl) rfl ?_
  refine st_on (j := 3) rfl rfl ?_
  refine st_v (v := .bool true) ((ov_eql rfl rfl).is ((by simp))) rfl ?_
  refine st_v (ov_pick_t rfl rfl) rfl ?_
  refine st_v (ov_move rfl) rfl ?_
  refine st_on (j := 8) rfl rfl ?_
  refine st_v (ov_move rfl) rfl ?_
  refine st_on (j := 8) rfl rfl ?_
  refine st_v (ov_move rfl) rfl ?_
  refine st_on (j := 8) rfl rfl ?_
  refine st_v (v := .bool true) ((ov_eql rfl rfl).is ((by simp))) rfl ?_
  refine st_v (ov_pick_t rfl rfl) rfl ?_
  refine st_v (ov_assign rfl) rfl ?_
  refine st_nil ?_
  refine pn_then ?_
  refine sc_ret ?_
  refine pr_one rfl rfl ?_
  exact ⟨rfl, hp.chg⟩

end Go.Proofs.YtcjnpaikmcjjlaaDoor
