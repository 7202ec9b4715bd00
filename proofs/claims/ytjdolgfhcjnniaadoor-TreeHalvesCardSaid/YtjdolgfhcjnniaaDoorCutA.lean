/-
  The walks of Cut and Hash.
-/
import Derived.Test.YtjdolgfhcjnniaaDoorSumA
import Derived.Test.YtjdolgfhcjnniaaDoorGoodA
import Derived.Test.YtjdolgfhcjnniaaDoorCutP
namespace Go.Proofs.YtjdolgfhcjnniaaDoor
open Go Go.RowKit

set_option maxRecDepth 100000 in
theorem cutr_walk (B W : Int) (h : List UInt8) (hh : h.length = 32) (w0 : World) :
    Calls Tryd.prog 98 #[sca B W, .agg (h.map B8).toArray] w0 fun e w' => e = .returned (.tuple #[.agg ((cutL B W h).map B8).toArray, .int .i64 (goodNo B W)]) ∧ Chg [] w0 w' := by
  refine calls_in Tryd.func98 Tryd.ntmps98 rfl rfl ?_
  have hp := Hp.start w0
  refine sc_seq ?_
  refine sc_region ?_
  refine st_box 2 hp rfl rfl rfl (fun b2 w hp => ?_)
  refine st_box 3 hp rfl rfl rfl (fun b3 w hp => ?_)
  refine st_alloc 4 ((List.replicate 32 (0 : UInt8)).map B8) hp rfl zl34 rfl (fun b4 w hp => ?_)
  refine st_v (ov_assign rfl) rfl ?_
  refine st_nil ?_
  refine pn_then ?_
  refine sc_seq ?_
  refine sc_region ?_
  refine st_alloc 6 ((List.replicate 32 (0 : UInt8)).map B8) hp rfl zl34 rfl (fun b6 w hp => ?_)
  refine st_nil ?_
  refine pn_then ?_
  refine sc_seq ?_
  refine sc_region ?_
  refine st_v (ov_loadN rfl Tryd.underlying23 rfl (sz23.trans rfl) (hp.cells' (t := 2) rfl)) rfl ?_
  refine st_call pl56 rfl rfl rfl (goodr_walk _ _ _) ?_
  rintro _ w ⟨rfl, hch⟩
  refine ⟨_, rfl, ?_⟩
  replace hp := hp.call hch
  clear hch
  refine st_v (ov_assign rfl) rfl ?_
  refine st_nil ?_
  refine pn_then ?_
  refine sc_seq ?_
  refine sc_seq ?_
  refine sc_region ?_
  refine st_v (ov_move rfl) rfl ?_
  refine st_v (ov_neq rfl rfl) rfl ?_
  refine st_nil ?_
  refine pn_then ?_
  refine sc_cond rfl (fun hc => ?_) (fun hc => ?_)
  ·
    have hc := of_decide_eq_true hc
    refine sc_seq ?_
    refine sc_region ?_
    refine st_v (ov_loadN rfl Tryd.underlying34 rfl (sz34.trans (by simp [*])) (hp.cells' (t := 6) rfl)) rfl ?_
    refine st_v (ov_move rfl) rfl ?_
    refine st_storeA 4 hp rfl rfl rfl (by simp [*]) (sz34.trans (by simp [*])) (one_all _) (fun w hp => ?_)
    refine st_v (ov_assign rfl) rfl ?_
    refine st_nil ?_
    refine pn_then ?_
    refine sc_ret ?_
    refine pr_then ?_
    refine pr_rv2 rfl (rv_cells rfl Tryd.underlying34 rfl (sz34.trans (by simp [*])) (hp.cells' (t := 4) rfl)) (rv_tmp rfl) ?_
    exact ⟨by rw [cutL_bad (by omega)], hp.chg⟩
  ·
    have hc := of_decide_eq_false hc
    have hg0 : goodNo B W = 0 := by omega
    obtain ⟨hW1, hW2⟩ := good_range hg0
    obtain ⟨m, rfl⟩ : ∃ m : Nat, W = (m : Int) := ⟨W.toNat, by omega⟩
    refine sc_skip ?_
    refine pn_then ?_
    refine sc_seq ?_
    refine sc_seq ?_
    rw [← cutN_zero h] at hp
    refine sc_region ?_
    refine st_v (ov_assign rfl) rfl ?_
    refine st_nil ?_
    refine pn_then ?_
    refine sc_block ?_
    refine sc_loop1 (α := Nat) 0 (fun i => [(7, (.int .i64 (goodNo B (m : Int)))), (8, .int .i64 ((i : Nat) : Int)), (2, .pointer (some ⟨b2, 0, none⟩)), (3, .pointer (some ⟨b3, 0, none⟩)), (4, .pointer (some ⟨b4, 0, none⟩)), (6, .pointer (some ⟨b6, 0, none⟩))]) (fun i w => Hp w0 [] [(6, ⟨some b6, (cutN h i).map B8, 34⟩), (2, ⟨some b2, [Value.int .i64 B, .int .i64 (m : Int)], 23⟩), (3, ⟨some b3, h.map B8, 34⟩), (4, ⟨some b4, (List.replicate 32 (0 : UInt8)).map B8, 34⟩)] [] w ∧ i ≤ m) (fun i => m - i) ?_ ?_ ?_
    · exact (Sub.cons rfl (Sub.cons rfl (Sub.cons rfl (Sub.cons rfl (Sub.cons rfl (Sub.cons rfl (Sub.nil _)))))))
    · exact ⟨hp.sub (lsub_cons rfl (lsub_cons rfl (lsub_cons rfl (lsub_cons rfl (lsub_nil _))))), by omega⟩
    intro i w hw
    obtain ⟨hp, hi⟩ := hw
    have hcl := cutN_len hh (i := i) (by omega)
    refine sc_seq ?_
    refine sc_seq ?_
    refine sc_region ?_
    refine st_v (ov_move rfl) rfl ?_
    refine st_v (ov_field (q := 1) rfl Tryd.underlying23 rfl sz3 rfl) rfl ?_
    refine st_v (ov_load1 rfl Tryd.underlying3 rfl ((hp.cells' (t := 2) rfl).at 1 (by simp) rfl)) rfl ?_
    refine st_v (ov_lss rfl rfl) rfl ?_
    refine st_nil ?_
    refine pn_then ?_
    refine sc_cond rfl (fun hc => ?_) (fun hc => ?_)
    ·
      have hc := of_decide_eq_true hc
      refine sc_skip ?_
      refine pn_then ?_
      refine sc_seq ?_
      refine sc_block ?_
      refine sc_region ?_
      refine st_v (ov_move rfl) rfl ?_
      refine st_v (ov_move rfl) rfl ?_
      refine st_v (ov_indexA rfl rfl Tryd.underlying34 sz5 (by omega)) rfl ?_
      refine st_v (ov_load1 rfl Tryd.underlying5 rfl (Cells.elem' (hp.cells' (t := 3) rfl) (i) (by omega) 0)) rfl ?_
      refine st_v (ov_indexA rfl rfl Tryd.underlying34 sz5 (by omega)) rfl ?_
      refine st_storeE 6 hp rfl rfl rfl (i) (by omega) rfl sz5 (fun w hp => ?_)
      refine st_nil ?_
      refine pn_block ?_
      refine pn_then ?_
      refine sc_region ?_
      refine st_v (ov_move rfl) rfl ?_
      refine st_v (ov_add_i64 rfl rfl (by omega)) rfl ?_
      refine st_v (ov_assign rfl) rfl ?_
      refine st_nil ?_
      refine pn_round1 (i + 1) ?_ ?_ ?_
      · exact (Sub.cons rfl (Sub.cons rfl (Sub.cons rfl (Sub.cons rfl (Sub.cons rfl (Sub.cons rfl (Sub.nil _)))))))
      · omega
      ·
        rw [cutN_succ hh (by omega)] at hp
        exact ⟨hp.sub (lsub_cons rfl (lsub_cons rfl (lsub_cons rfl (lsub_cons rfl (lsub_nil _))))), by omega⟩
    ·
      have hc := of_decide_eq_false hc
      obtain rfl : i = m := by omega
      rw [← cutL_good hg0] at hp
      have hcl2 := cutL_len hh B (i : Int)
      refine sc_exit ?_
      refine pe_then ?_
      refine pe_then ?_
      refine pe_hit ?_
      refine pn_then ?_
      refine sc_seq ?_
      refine sc_region ?_
      refine st_v (ov_loadN rfl Tryd.underlying34 rfl (sz34.trans (by simp [*])) (hp.cells' (t := 6) rfl)) rfl ?_
      refine st_storeA 4 hp rfl rfl rfl (by simp [*]) (sz34.trans (by simp [*])) (one_all _) (fun w hp => ?_)
      refine st_v (ov_assign rfl) rfl ?_
      refine st_nil ?_
      refine pn_then ?_
      refine sc_ret ?_
      refine pr_rv2 rfl (rv_cells rfl Tryd.underlying34 rfl (sz34.trans (by simp [*])) (hp.cells' (t := 4) rfl)) (rv_tmp rfl) ?_
      exact ⟨by rw [hg0], hp.chg⟩

set_option maxRecDepth 100000 in
theorem cut_walk (B W : Int) (h : List UInt8) (hh : h.length = 32) (w0 : World) :
    Calls Tryd.prog 76 #[sca B W, .agg (h.map B8).toArray] w0 fun e w' => e = .returned (.tuple #[.agg ((cutL B W h).map B8).toArray, .int .i64 (goodNo B W)]) ∧ Chg [] w0 w' := by
  refine calls_in Tryd.func76 Tryd.ntmps76 rfl rfl ?_
  have hp := Hp.start w0
  refine sc_seq ?_
  refine sc_region ?_
  refine st_box 2 hp rfl rfl rfl (fun b2 w hp => ?_)
  refine st_box 3 hp rfl rfl rfl (fun b3 w hp => ?_)
  refine st_alloc 4 ((List.replicate 32 (0 : UInt8)).map B8) hp rfl zl34 rfl (fun b4 w hp => ?_)
  refine st_v (ov_assign rfl) rfl ?_
  refine st_nil ?_
  refine pn_then ?_
  refine sc_seq ?_
  refine sc_seq ?_
  refine sc_region ?_
  refine st_v (ov_loadN rfl Tryd.underlying23 rfl (sz23.trans rfl) (hp.cells' (t := 2) rfl)) rfl ?_
  refine st_call pl39 rfl rfl rfl (good_walk _ _ _) ?_
  rintro _ w ⟨rfl, hch⟩
  refine ⟨_, rfl, ?_⟩
  replace hp := hp.call hch
  clear hch
  refine st_v (ov_assign rfl) rfl ?_
  refine st_nil ?_
  refine pn_then ?_
  refine sc_seq ?_
  refine sc_region ?_
  refine st_v (ov_move rfl) rfl ?_
  refine st_v (ov_neq rfl rfl) rfl ?_
  refine st_nil ?_
  refine pn_then ?_
  refine sc_cond rfl (fun hc => ?_) (fun hc => ?_)
  ·
    have hc := of_decide_eq_true hc
    refine sc_seq ?_
    refine sc_region ?_
    refine st_v (ov_buildA (cells := (List.replicate 32 (0 : UInt8)).map B8) rfl Tryd.underlying34 zl34 sz5 (by kernel_rfl)) rfl ?_
    refine st_v (ov_move rfl) rfl ?_
    refine st_storeA 4 hp rfl rfl rfl (by simp [*]) (sz34.trans (by simp [*])) (one_all _) (fun w hp => ?_)
    refine st_v (ov_assign rfl) rfl ?_
    refine st_nil ?_
    refine pn_then ?_
    refine sc_ret ?_
    refine pr_then ?_
    refine pr_rv2 rfl (rv_cells rfl Tryd.underlying34 rfl (sz34.trans (by simp [*])) (hp.cells' (t := 4) rfl)) (rv_tmp rfl) ?_
    exact ⟨by rw [cutL_bad (by omega)], hp.chg⟩
  ·
    have hc := of_decide_eq_false hc
    have hg0 : goodNo B W = 0 := by omega
    obtain ⟨hW1, hW2⟩ := good_range hg0
    obtain ⟨m, rfl⟩ : ∃ m : Nat, W = (m : Int) := ⟨W.toNat, by omega⟩
    refine sc_skip ?_
    refine pn_then ?_
    refine sc_seq ?_
    refine sc_region ?_
    refine st_v (ov_field (q := 1) rfl Tryd.underlying23 rfl sz3 rfl) rfl ?_
    refine st_v (ov_load1 rfl Tryd.underlying3 rfl ((hp.cells' (t := 2) rfl).at 1 (by simp) rfl)) rfl ?_
    refine st_v (ov_sliceA_lo Tryd.underlying34 sz5 rfl rfl (by omega)) rfl ?_
    rw [Int.toNat_natCast]
    refine st_clear_ 3 (cs' := (cutN h m).map B8) (off := m) (m := 32 - m) (zv := .int .u8 0) hp rfl rfl rfl Tryd.underlying24 zl5 rfl rfl (fun _ => by unfold sla; rw [if_neg (by omega)]; simp [add_at]) (by simp [hh]; omega) (cut_clear hh (by omega)) (fun w hp => ?_)
    rw [← cutL_good hg0] at hp
    have hcl2 := cutL_len hh B (m : Int)
    refine st_nil ?_
    refine pn_then ?_
    refine sc_seq ?_
    refine sc_region ?_
    refine st_v (ov_loadN rfl Tryd.underlying34 rfl (sz34.trans (by simp [*])) (hp.cells' (t := 3) rfl)) rfl ?_
    refine st_storeA 4 hp rfl rfl rfl (by simp [*]) (sz34.trans (by simp [*])) (one_all _) (fun w hp => ?_)
    refine st_v (ov_assign rfl) rfl ?_
    refine st_nil ?_
    refine pn_then ?_
    refine sc_ret ?_
    refine pr_rv2 rfl (rv_cells rfl Tryd.underlying34 rfl (sz34.trans (by simp [*])) (hp.cells' (t := 4) rfl)) (rv_tmp rfl) ?_
    exact ⟨by rw [hg0], hp.chg⟩

set_option maxRecDepth 100000 in
theorem hash_walk (B W : Int) (a : List UInt8) (ao : Option Addr) (ca : Nat) (w0 : World) (h1 : Rd w0 ao (a.map B8)) (hca : a.length ≤ ca) (hz : a.length ≤ 140737488351232) (hk : Cells w0 1 0 (kL.map B32)) (hf : Cells w0 0 0 (fL.map B32)) :
    Calls Tryd.prog 40 #[sca B W, .slice ao a.length ca] w0 fun e w' => e = .returned (.tuple #[.agg ((cutL B W (sumOf a)).map B8).toArray, .int .i64 (goodNo B W)]) ∧ Chg [] w0 w' := by
  refine calls_in Tryd.func40 Tryd.ntmps40 rfl rfl ?_
  have hp := Hp.start w0
  have hcl2 := cutL_len (sumOf_len a) B W
  have hsl := sumOf_len a
  refine sc_seq ?_
  refine sc_region ?_
  refine st_box 2 hp rfl rfl rfl (fun b2 w hp => ?_)
  refine st_alloc 4 ((List.replicate 32 (0 : UInt8)).map B8) hp rfl zl34 rfl (fun b4 w hp => ?_)
  refine st_v (ov_assign rfl) rfl ?_
  refine st_nil ?_
  refine pn_then ?_
  refine sc_seq ?_
  refine sc_seq ?_
  refine sc_region ?_
  refine st_v (ov_loadN rfl Tryd.underlying23 rfl (sz23.trans rfl) (hp.cells' (t := 2) rfl)) rfl ?_
  refine st_call pl39 rfl rfl rfl (good_walk _ _ _) ?_
  rintro _ w ⟨rfl, hch⟩
  refine ⟨_, rfl, ?_⟩
  replace hp := hp.call hch
  clear hch
  refine st_v (ov_assign rfl) rfl ?_
  refine st_nil ?_
  refine pn_then ?_
  refine sc_seq ?_
  refine sc_region ?_
  refine st_v (ov_move rfl) rfl ?_
  refine st_v (ov_neq rfl rfl) rfl ?_
  refine st_nil ?_
  refine pn_then ?_
  refine sc_cond rfl (fun hc => ?_) (fun hc => ?_)
  ·
    have hc := of_decide_eq_true hc
    refine sc_seq ?_
    refine sc_region ?_
    refine st_v (ov_buildA (cells := (List.replicate 32 (0 : UInt8)).map B8) rfl Tryd.underlying34 zl34 sz5 (by kernel_rfl)) rfl ?_
    refine st_v (ov_move rfl) rfl ?_
    refine st_storeA 4 hp rfl rfl rfl (by simp) (sz34.trans (by simp)) (one_all _) (fun w hp => ?_)
    refine st_v (ov_assign rfl) rfl ?_
    refine st_nil ?_
    refine pn_then ?_
    refine sc_ret ?_
    refine pr_then ?_
    refine pr_rv2 rfl (rv_cells rfl Tryd.underlying34 rfl (sz34.trans (by simp [*])) (hp.cells' (t := 4) rfl)) (rv_tmp rfl) ?_
    exact ⟨by rw [cutL_bad (by omega)], hp.chg⟩
  ·
    have hc := of_decide_eq_false hc
    refine sc_skip ?_
    refine pn_then ?_
    refine sc_seq ?_
    refine sc_plan (fun w => Hp w0 [] [(2, ⟨some b2, [Value.int .i64 B, .int .i64 W], 23⟩)] [] w) [0, 1, 4, 5, 7] [2] (.load 0 (.take 1 (.one 2 (.one 3 (.take 4 (.take 5 (.one 6 (.take 7 .nil)))))))) (by kernel_rfl) (by kernel_rfl) (by repeat (first | exact calm_body _ _ _ | refine calm_then ?_ | refine calm_block ?_)) ?_
    replace hp := hp.drew
    refine sp_load rfl (hp.sub (lsub_cons rfl (lsub_nil _))) (fun w hp => ov_loadN rfl Tryd.underlying23 rfl (sz23.trans rfl) (hp.cells' (t := 2) rfl)) rfl ?_
    refine sp_take rfl (fun w => ov_move rfl) rfl ?_
    refine sp_one rfl ?_
    refine st_call pl77 rfl rfl rfl (sumd_walk a _ _ _ (h1.chg hp.chg) hca hz (hp.old hk (by simp)) (hp.old hf (by simp))) ?_
    rintro _ w ⟨rfl, hch⟩
    refine ⟨_, rfl, ?_⟩
    replace hp := hp.call hch
    clear hch
    refine st_nil ?_
    refine sp_next (i := 2) (fun _ => (hp.sub (lsub_cons rfl (lsub_nil _)))) ?_
    refine sp_one rfl ?_
    refine st_call pl76 rfl rfl rfl (cut_walk B W (sumOf a) (sumOf_len a) _) ?_
    rintro _ w ⟨rfl, hch⟩
    refine ⟨_, rfl, ?_⟩
    replace hp := hp.call hch
    clear hch
    refine st_nil ?_
    refine sp_next (i := 3) (fun h => absurd h (by decide)) ?_
    refine sp_take rfl (fun w => ov_extract rfl rfl) rfl ?_
    refine sp_take rfl (fun w => ov_extract rfl rfl) rfl ?_
    refine sp_one rfl ?_
    refine st_storeA 4 hp rfl rfl rfl (by simp [*]) (sz34.trans (by simp [*])) (one_all _) (fun w hp => ?_)
    refine st_nil ?_
    refine sp_next (i := 6) (fun h => absurd h (by decide)) ?_
    refine sp_take rfl (fun w => ov_assign rfl) rfl ?_
    refine sp_nil ?_
    refine pn_then ?_
    refine sc_ret ?_
    refine pr_rv2 rfl (rv_cells rfl Tryd.underlying34 rfl (sz34.trans (by simp [*])) (hp.cells' (t := 4) rfl)) (rv_tmp rfl) ?_
    exact ⟨rfl, hp.chg⟩

set_option maxRecDepth 100000 in
theorem hashr_walk (B W : Int) (a : List UInt8) (ao : Option Addr) (ca : Nat) (w0 : World) (h1 : Rd w0 ao (a.map B8)) (hca : a.length ≤ ca) (hz : a.length ≤ 140737488351232) :
    Calls Tryd.prog 89 #[sca B W, .slice ao a.length ca] w0 fun e w' => e = .returned (.tuple #[.agg ((cutL B W (sumOf a)).map B8).toArray, .int .i64 (goodNo B W)]) ∧ Chg [] w0 w' := by
  refine calls_in Tryd.func89 Tryd.ntmps89 rfl rfl ?_
  have hp := Hp.start w0
  have hcl2 := cutL_len (sumOf_len a) B W
  have hsl := sumOf_len a
  refine sc_seq ?_
  refine sc_region ?_
  refine st_box 2 hp rfl rfl rfl (fun b2 w hp => ?_)
  refine st_alloc 4 ((List.replicate 32 (0 : UInt8)).map B8) hp rfl zl34 rfl (fun b4 w hp => ?_)
  refine st_v (ov_assign rfl) rfl ?_
  refine st_nil ?_
  refine pn_then ?_
  refine sc_seq ?_
  refine sc_region ?_
  refine st_v (ov_move rfl) rfl ?_
  refine st_call pl97 rfl rfl rfl (sumr_walk a _ _ _ (h1.chg hp.chg) hz) ?_
  rintro _ w ⟨rfl, hch⟩
  refine ⟨_, rfl, ?_⟩
  replace hp := hp.call hch
  clear hch
  refine st_alloc 6 ((List.replicate 32 (0 : UInt8)).map B8) hp rfl zl34 rfl (fun b6 w hp => ?_)
  refine st_storeA 6 hp rfl rfl rfl (by simp [*]) (sz34.trans (by simp [*])) (one_all _) (fun w hp => ?_)
  refine st_nil ?_
  refine pn_then ?_
  refine sc_seq ?_
  refine sc_region ?_
  refine st_v (ov_loadN rfl Tryd.underlying23 rfl (sz23.trans rfl) (hp.cells' (t := 2) rfl)) rfl ?_
  refine st_v (ov_loadN rfl Tryd.underlying34 rfl (sz34.trans (by simp [*])) (hp.cells' (t := 6) rfl)) rfl ?_
  refine st_call pl98 rfl rfl rfl (cutr_walk B W (sumOf a) (sumOf_len a) _) ?_
  rintro _ w ⟨rfl, hch⟩
  refine ⟨_, rfl, ?_⟩
  replace hp := hp.call hch
  clear hch
  refine st_v (ov_extract rfl rfl) rfl ?_
  refine st_v (ov_extract rfl rfl) rfl ?_
  refine st_storeA 4 hp rfl rfl rfl (by simp [*]) (sz34.trans (by simp [*])) (one_all _) (fun w hp => ?_)
  refine st_v (ov_assign rfl) rfl ?_
  refine st_nil ?_
  refine pn_then ?_
  refine sc_ret ?_
  refine pr_rv2 rfl (rv_cells rfl Tryd.underlying34 rfl (sz34.trans (by simp [*])) (hp.cells' (t := 4) rfl)) (rv_tmp rfl) ?_
  exact ⟨rfl, hp.chg⟩

end Go.Proofs.YtjdolgfhcjnniaaDoor
