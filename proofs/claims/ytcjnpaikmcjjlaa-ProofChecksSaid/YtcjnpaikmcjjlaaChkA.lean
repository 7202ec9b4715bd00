/-
  The walks of both Checks.
-/
import Derived.Test.YtcjnpaikmcjjlaaFitA
namespace Go.Proofs.Ytcjnpaikmcjjlaa
open Go Go.RowKit

set_option maxRecDepth 100000 in
theorem checkr_walk (n low : Int) (hn : I64 n) (hlow : I64 low) (q : Qr) (hq : QOk q) (w0 : World) :
    Calls Try.prog 8 #[.int .i64 n, .int .i64 low, .agg (qcs q).toArray] w0 fun e w' => e = .returned (.int .i64 (checkE n low q)) ∧ Chg [] w0 w' := by
  refine calls_in Try.func8 Try.ntmps8 rfl rfl ?_
  have hp := Hp.start w0
  refine sc_seq ?_
  refine sc_region ?_
  refine st_box 5 hp rfl rfl rfl (fun b5 w hp => ?_)
  refine st_v (ov_assign rfl) rfl ?_
  refine st_nil ?_
  refine pn_then ?_
  refine sc_seq ?_
  refine sc_region ?_
  refine st_v (ov_move rfl) rfl ?_
  refine st_v (ov_move rfl) rfl ?_
  refine st_call pl10 rfl rfl rfl (tree_walk n low hn hlow _) ?_
  rintro _ w ⟨rfl, hch⟩
  refine ⟨_, rfl, ?_⟩
  replace hp := hp.call hch
  clear hch
  refine st_v (ov_assign rfl) rfl ?_
  refine st_nil ?_
  refine pn_then ?_
  refine sc_seq ?_
  refine sc_seq ?_
  refine sc_region ?_
  refine st_v (ov_move rfl) rfl ?_
  refine st_v (ov_neq rfl rfl) rfl ?_
  refine st_nil ?_
  refine pn_then ?_
  refine sc_cond rfl (fun hc => ?_) (fun hc => ?_)
  ·
    have hc := of_decide_eq_true hc
    refine sc_seq ?_
    refine sc_region ?_
    refine st_v (ov_move rfl) rfl ?_
    refine st_v (ov_assign rfl) rfl ?_
    refine st_nil ?_
    refine pn_then ?_
    refine sc_ret ?_
    refine pr_then ?_
    refine pr_one rfl rfl ?_
    exact ⟨by rw [checkE_bad hc] <;> rfl, hp.chg⟩
  ·
    have hc := of_decide_eq_false hc
    have hok : treeE n low = 0 := by omega
    obtain ⟨m, l, rfl, rfl, hm1, hm2, hml, hb20⟩ := treeE_zero hok
    refine sc_skip ?_
    refine pn_then ?_
    refine sc_seq ?_
    obtain ⟨Hs, hHs⟩ := (hp.sub (L' := [(5, _)]) (LSub.cons rfl (LSub.nil _))).hs
    refine sc_plan Hs [0, 1, 2, 4, 5, 7] [3] (.take 0 (.take 1 (.take 2 (.load 5 (.one 3 (.take 4 (.one 6 (.take 7 .nil)))))))) (by kernel_rfl) (by kernel_rfl) (by repeat (first | exact calm_body _ _ _ | refine calm_then ?_ | refine calm_block ?_ | refine calm_jump ?_ | refine calm_ng ?_)) ?_
    replace hp := hp.drew
    refine sp_take rfl (fun w => ov_move rfl) rfl ?_
    refine sp_take rfl (fun w => ov_move rfl) rfl ?_
    refine sp_take rfl (fun w => ov_move rfl) rfl ?_
    refine sp_load rfl ((hHs _).2 (hp.sub (LSub.cons rfl (LSub.nil _)))) (fun w hs => have hp := (hHs w).1 hs; ov_loadN rfl Try.underlying31 rfl (sz31.trans (congrArg some (qcs_len q).symm)) (hp.cells' (t := 5) rfl)) rfl ?_
    refine sp_one rfl ?_
    refine st_call pl11 rfl rfl rfl (rise7_walk m (by omega) _) ?_
    rintro _ w ⟨rfl, hch⟩
    refine ⟨_, rfl, ?_⟩
    replace hp := hp.call hch
    clear hch
    refine st_nil ?_
    refine sp_next (i := 3) (fun _ => ((hHs _).2 (hp.sub (LSub.cons rfl (LSub.nil _))))) ?_
    refine sp_take rfl (fun w => ov_add_n (a := l) (b := bitLen (m - 1)) rfl rfl (by omega)) rfl ?_
    refine sp_one rfl ?_
    refine st_call pl14 rfl rfl rfl (fitsr_walk l (l + bitLen (m - 1)) hml (by omega) q hq _) ?_
    rintro _ w ⟨rfl, hch⟩
    refine ⟨_, rfl, ?_⟩
    replace hp := hp.call hch
    clear hch
    refine st_nil ?_
    refine sp_next (i := 6) (fun h => absurd h (by decide)) ?_
    refine sp_take rfl (fun w => ov_assign rfl) rfl ?_
    refine sp_nil ?_
    refine pn_then ?_
    refine sc_ret ?_
    refine pr_one rfl rfl ?_
    exact ⟨by rw [checkE_ok hok], hp.chg⟩

set_option maxRecDepth 100000 in
theorem check_walk (n low : Int) (hn : I64 n) (hlow : I64 low) (q : Qr) (hq : QOk q) (w0 : World) :
    Calls Try.prog 9 #[.int .i64 n, .int .i64 low, .agg (qcs q).toArray] w0 fun e w' => e = .returned (.int .i64 (checkE n low q)) ∧ Chg [] w0 w' := by
  refine calls_in Try.func9 Try.ntmps9 rfl rfl ?_
  have hp := Hp.start w0
  refine sc_seq ?_
  refine sc_region ?_
  refine st_box 5 hp rfl rfl rfl (fun b5 w hp => ?_)
  refine st_v (ov_assign rfl) rfl ?_
  refine st_nil ?_
  refine pn_then ?_
  refine sc_seq ?_
  refine sc_region ?_
  refine st_v (ov_move rfl) rfl ?_
  refine st_v (ov_move rfl) rfl ?_
  refine st_call pl13 rfl rfl rfl (height7_walk n low hn hlow _) ?_
  rintro _ w ⟨rfl, hch⟩
  refine ⟨_, rfl, ?_⟩
  replace hp := hp.call hch
  clear hch
  refine st_v (ov_move rfl) rfl ?_
  refine st_v (ov_extract rfl rfl) rfl ?_
  refine st_v (ov_extract rfl rfl) rfl ?_
  refine st_v (ov_assign rfl) rfl ?_
  refine st_v (ov_assign rfl) rfl ?_
  refine st_nil ?_
  refine pn_then ?_
  refine sc_seq ?_
  refine sc_seq ?_
  refine sc_region ?_
  refine st_v (ov_move rfl) rfl ?_
  refine st_v (ov_neq rfl rfl) rfl ?_
  refine st_nil ?_
  refine pn_then ?_
  refine sc_cond rfl (fun hc => ?_) (fun hc => ?_)
  ·
    have hc := of_decide_eq_true hc
    refine sc_seq ?_
    refine sc_region ?_
    refine st_v (ov_move rfl) rfl ?_
    refine st_v (ov_assign rfl) rfl ?_
    refine st_nil ?_
    refine pn_then ?_
    refine sc_ret ?_
    refine pr_then ?_
    refine pr_one rfl rfl ?_
    exact ⟨by rw [checkE_bad hc] <;> rfl, hp.chg⟩
  ·
    have hc := of_decide_eq_false hc
    have hok : treeE n low = 0 := by omega
    obtain ⟨m, l, rfl, rfl, hm1, hm2, hml, hb20⟩ := treeE_zero hok
    have htop : topH m l = ((l + bitLen (m - 1) : Nat) : Int) := by unfold topH; rw [hok, if_pos rfl]; simp
    rw [htop]
    refine sc_skip ?_
    refine pn_then ?_
    refine sc_seq ?_
    refine sc_region ?_
    refine st_v (ov_move rfl) rfl ?_
    refine st_v (ov_move rfl) rfl ?_
    refine st_v (ov_loadN rfl Try.underlying31 rfl (sz31.trans (congrArg some (qcs_len q).symm)) (hp.cells' (t := 5) rfl)) rfl ?_
    refine st_call pl15 rfl rfl rfl (fits_walk l (l + bitLen (m - 1)) hml (by omega) q hq _) ?_
    rintro _ w ⟨rfl, hch⟩
    refine ⟨_, rfl, ?_⟩
    replace hp := hp.call hch
    clear hch
    refine st_v (ov_assign rfl) rfl ?_
    refine st_nil ?_
    refine pn_then ?_
    refine sc_ret ?_
    refine pr_one rfl rfl ?_
    exact ⟨by rw [checkE_ok hok], hp.chg⟩

set_option maxRecDepth 100000 in
theorem law_checks (n low : Int) (hn : I64 n) (hlow : I64 low) (q : Qr) (hq : QOk q) (w0 : World) :
    Calls Try.prog 4 #[.int .i64 n, .int .i64 low, .agg (qcs q).toArray] w0 fun e w' => e = .returned (.bool true) ∧ Chg [] w0 w' := by
  refine calls_in Try.func4 Try.ntmps4 rfl rfl ?_
  have hp := Hp.start w0
  refine sc_seq ?_
  refine sc_region ?_
  refine st_box 5 hp rfl rfl rfl (fun b5 w hp => ?_)
  refine st_v (ov_assign rfl) rfl ?_
  refine st_nil ?_
  refine pn_then ?_
  refine sc_seq ?_
  refine sc_region ?_
  refine st_v (ov_move rfl) rfl ?_
  refine st_v (ov_move rfl) rfl ?_
  refine st_v (ov_loadN rfl Try.underlying31 rfl (sz31.trans (congrArg some (qcs_len q).symm)) (hp.cells' (t := 5) rfl)) rfl ?_
  refine st_call pl8 rfl rfl rfl (checkr_walk n low hn hlow q hq _) ?_
  rintro _ w ⟨rfl, hch⟩
  refine ⟨_, rfl, ?_⟩
  replace hp := hp.call hch
  clear hch
  refine st_v (ov_assign rfl) rfl ?_
  refine st_nil ?_
  refine pn_then ?_
  refine sc_seq ?_
  refine sc_region ?_
  refine st_v (ov_move rfl) rfl ?_
  refine st_v (ov_move rfl) rfl ?_
  refine st_v (ov_loadN rfl Try.underlying31 rfl (sz31.trans (congrArg some (qcs_len q).symm)) (hp.cells' (t := 5) rfl)) rfl ?_
  refine st_call pl9 rfl rfl rfl (check_walk n low hn hlow q hq _) ?_
  rintro _ w ⟨rfl, hch⟩
  refine ⟨_, rfl, ?_⟩
  replace hp := hp.call hch
  clear hch
  refine st_v (ov_assign rfl) rfl ?_
  refine st_nil ?_
  refine pn_then ?_
  refine sc_seq ?_
  refine sc_region ?_
  refine st_v (ov_move rfl) rfl ?_
  refine st_v (ov_move rfl) rfl ?_
  refine st_v (v := .bool true) ((ov_eql rfl rfl).is ((by simp))) rfl ?_
  refine st_v (ov_assign rfl) rfl ?_
  refine st_nil ?_
  refine pn_then ?_
  refine sc_ret ?_
  refine pr_one rfl rfl ?_
  exact ⟨rfl, hp.chg⟩

end Go.Proofs.Ytcjnpaikmcjjlaa
