/-
  The walks of both Goods.
-/
import Derived.Test.YtjdolgfhcjnniaaDoorFacts
import Derived.Test.YtjdolgfhcjnniaaDoorGoodP
namespace Go.Proofs.YtjdolgfhcjnniaaDoor
open Go Go.RowKit

set_option maxRecDepth 100000 in
theorem good_walk (B W : Int) (w0 : World) :
    Calls Tryd.prog 39 #[sca B W] w0 fun e w' => e = .returned (.int .i64 (goodNo B W)) ∧ Chg [] w0 w' := by
  refine calls_in Tryd.func39 Tryd.ntmps39 rfl rfl ?_
  have hp := Hp.start w0
  refine sc_seq ?_
  refine sc_region ?_
  refine st_box 1 hp rfl rfl rfl (fun b1 w hp => ?_)
  refine st_v (ov_assign rfl) rfl ?_
  refine st_nil ?_
  refine pn_then ?_
  refine sc_seq ?_
  refine sc_seq ?_
  refine sc_region ?_
  refine st_v (ov_field (q := 0) rfl Tryd.underlying23 rfl sz3 rfl) rfl ?_
  refine st_v (ov_load1 rfl Tryd.underlying3 rfl ((hp.cells' (t := 1) rfl).at 0 (by simp) rfl)) rfl ?_
  refine st_v (ov_lss rfl rfl) rfl ?_
  refine st_v (ov_move rfl) rfl ?_
  refine st_split (j := 6) rfl (fun hb => ?_) (fun hb => ?_)
  ·
    have hb := of_decide_eq_true hb
    refine st_off (j := 3) rfl rfl rfl rfl ?_
    refine st_off (j := 3) rfl rfl rfl rfl ?_
    refine st_off (j := 3) rfl rfl rfl rfl ?_
    refine st_v (ov_pick_t rfl rfl) rfl ?_
    refine st_v (ov_move rfl) rfl ?_
    refine st_off (j := 8) rfl rfl rfl rfl ?_
    refine st_off (j := 8) rfl rfl rfl rfl ?_
    refine st_off (j := 8) rfl rfl rfl rfl ?_
    refine st_off (j := 8) rfl rfl rfl rfl ?_
    refine st_off (j := 8) rfl rfl rfl rfl ?_
    refine st_off (j := 8) rfl rfl rfl rfl ?_
    refine st_off (j := 8) rfl rfl rfl rfl ?_
    refine st_v (ov_pick_t rfl rfl) rfl ?_
    refine st_nil ?_
    refine pn_then ?_
    refine sc_true rfl ?_
    refine sc_seq ?_
    refine sc_region ?_
    refine st_v (ov_assign rfl) rfl ?_
    refine st_nil ?_
    refine pn_then ?_
    refine sc_ret ?_
    refine pr_then ?_
    refine pr_one rfl rfl ?_
    exact ⟨by rw [good_lo (by omega)], hp.chg⟩
  ·
    have hb := of_decide_eq_false hb
    refine st_on (j := 3) rfl rfl ?_
    refine st_v (ov_field (q := 0) rfl Tryd.underlying23 rfl sz3 rfl) rfl ?_
    refine st_on (j := 3) rfl rfl ?_
    refine st_v (ov_load1 rfl Tryd.underlying3 rfl ((hp.cells' (t := 1) rfl).at 0 (by simp) rfl)) rfl ?_
    refine st_on (j := 3) rfl rfl ?_
    refine st_v (ov_gtr rfl rfl) rfl ?_
    refine st_v (ov_pick_f rfl rfl) rfl ?_
    refine st_v (ov_move rfl) rfl ?_
    refine st_split (j := 11) rfl (fun hb => ?_) (fun hb => ?_)
    ·
      have hb := of_decide_eq_true hb
      refine st_off (j := 8) rfl rfl rfl rfl ?_
      refine st_off (j := 8) rfl rfl rfl rfl ?_
      refine st_off (j := 8) rfl rfl rfl rfl ?_
      refine st_off (j := 8) rfl rfl rfl rfl ?_
      refine st_off (j := 8) rfl rfl rfl rfl ?_
      refine st_off (j := 8) rfl rfl rfl rfl ?_
      refine st_off (j := 8) rfl rfl rfl rfl ?_
      refine st_v (ov_pick_t rfl rfl) rfl ?_
      refine st_nil ?_
      refine pn_then ?_
      refine sc_true rfl ?_
      refine sc_seq ?_
      refine sc_region ?_
      refine st_v (ov_assign rfl) rfl ?_
      refine st_nil ?_
      refine pn_then ?_
      refine sc_ret ?_
      refine pr_then ?_
      refine pr_one rfl rfl ?_
      exact ⟨by rw [good_hi (by omega)], hp.chg⟩
    ·
      have hb := of_decide_eq_false hb
      refine st_on (j := 8) rfl rfl ?_
      refine st_v (ov_field (q := 0) rfl Tryd.underlying23 rfl sz3 rfl) rfl ?_
      refine st_on (j := 8) rfl rfl ?_
      refine st_v (ov_load1 rfl Tryd.underlying3 rfl ((hp.cells' (t := 1) rfl).at 0 (by simp) rfl)) rfl ?_
      refine st_on (j := 8) rfl rfl ?_
      refine st_v (ov_field (q := 0) rfl Tryd.underlying23 rfl sz3 rfl) rfl ?_
      refine st_on (j := 8) rfl rfl ?_
      refine st_v (ov_load1 rfl Tryd.underlying3 rfl ((hp.cells' (t := 1) rfl).at 0 (by simp) rfl)) rfl ?_
      refine st_on (j := 8) rfl rfl ?_
      refine st_v (ov_sub_i64 rfl rfl (by omega)) rfl ?_
      refine st_on (j := 8) rfl rfl ?_
      refine st_v (and_i64 (b := B) (by omega) (by omega) ▸ ov_and rfl rfl) rfl ?_
      refine st_on (j := 8) rfl rfl ?_
      refine st_v (ov_neq rfl rfl) rfl ?_
      refine st_v (ov_pick_f rfl rfl) rfl ?_
      refine st_nil ?_
      refine pn_then ?_
      refine sc_cond rfl (fun hc => ?_) (fun hc => ?_)
      ·
        have hc := of_decide_eq_true hc
        refine sc_seq ?_
        refine sc_region ?_
        refine st_v (ov_assign rfl) rfl ?_
        refine st_nil ?_
        refine pn_then ?_
        refine sc_ret ?_
        refine pr_then ?_
        refine pr_one rfl rfl ?_
        exact ⟨by rw [good_odd (by omega) (by omega) hc], hp.chg⟩
      ·
        have hc := of_decide_eq_false hc
        refine sc_skip ?_
        refine pn_then ?_
        refine sc_seq ?_
        refine sc_seq ?_
        refine sc_region ?_
        refine st_v (ov_field (q := 1) rfl Tryd.underlying23 rfl sz3 rfl) rfl ?_
        refine st_v (ov_load1 rfl Tryd.underlying3 rfl ((hp.cells' (t := 1) rfl).at 1 (by simp) rfl)) rfl ?_
        refine st_v (ov_lss rfl rfl) rfl ?_
        refine st_v (ov_move rfl) rfl ?_
        refine st_split (j := 23) rfl (fun hb => ?_) (fun hb => ?_)
        ·
          have hb := of_decide_eq_true hb
          refine st_off (j := 3) rfl rfl rfl rfl ?_
          refine st_off (j := 3) rfl rfl rfl rfl ?_
          refine st_off (j := 3) rfl rfl rfl rfl ?_
          refine st_v (ov_pick_t rfl rfl) rfl ?_
          refine st_nil ?_
          refine pn_then ?_
          refine sc_true rfl ?_
          refine sc_seq ?_
          refine sc_region ?_
          refine st_v (ov_assign rfl) rfl ?_
          refine st_nil ?_
          refine pn_then ?_
          refine sc_ret ?_
          refine pr_then ?_
          refine pr_one rfl rfl ?_
          exact ⟨by rw [good_w (by omega)], hp.chg⟩
        ·
          have hb := of_decide_eq_false hb
          refine st_on (j := 3) rfl rfl ?_
          refine st_v (ov_field (q := 1) rfl Tryd.underlying23 rfl sz3 rfl) rfl ?_
          refine st_on (j := 3) rfl rfl ?_
          refine st_v (ov_load1 rfl Tryd.underlying3 rfl ((hp.cells' (t := 1) rfl).at 1 (by simp) rfl)) rfl ?_
          refine st_on (j := 3) rfl rfl ?_
          refine st_v (ov_gtr rfl rfl) rfl ?_
          refine st_v (ov_pick_f rfl rfl) rfl ?_
          refine st_nil ?_
          refine pn_then ?_
          refine sc_cond rfl (fun hc => ?_) (fun hc => ?_)
          ·
            have hc := of_decide_eq_true hc
            refine sc_seq ?_
            refine sc_region ?_
            refine st_v (ov_assign rfl) rfl ?_
            refine st_nil ?_
            refine pn_then ?_
            refine sc_ret ?_
            refine pr_then ?_
            refine pr_one rfl rfl ?_
            exact ⟨by rw [good_w (by omega)], hp.chg⟩
          ·
            have hc := of_decide_eq_false hc
            refine sc_skip ?_
            refine pn_then ?_
            refine sc_seq ?_
            refine sc_region ?_
            refine st_v (ov_assign rfl) rfl ?_
            refine st_nil ?_
            refine pn_then ?_
            refine sc_ret ?_
            refine pr_one rfl rfl ?_
            rename_i hz _ _
            exact ⟨by rw [good_yes (by omega) (by omega) (by omega) (by omega)], hp.chg⟩

set_option maxRecDepth 100000 in
theorem goodr_walk (B W : Int) (w0 : World) :
    Calls Tryd.prog 56 #[sca B W] w0 fun e w' => e = .returned (.int .i64 (goodNo B W)) ∧ Chg [] w0 w' := by
  refine calls_in Tryd.func56 Tryd.ntmps56 rfl rfl ?_
  have hp := Hp.start w0
  refine sc_seq ?_
  refine sc_region ?_
  refine st_box 1 hp rfl rfl rfl (fun b1 w hp => ?_)
  refine st_v (ov_assign rfl) rfl ?_
  refine st_nil ?_
  refine pn_then ?_
  refine sc_seq ?_
  refine sc_region ?_
  refine st_v (ov_assign rfl) rfl ?_
  refine st_nil ?_
  refine pn_then ?_
  refine sc_seq ?_
  refine sc_block ?_
  refine sc_loop1 (α := Nat) 0 (fun k => [(3, .int .i64 ((64 * 2 ^ k : Nat) : Int)), (1, .pointer (some ⟨b1, 0, none⟩))]) (fun k w => Hp w0 [] [(1, ⟨some b1, [Value.int .i64 B, .int .i64 W], 23⟩)] [] w ∧ k ≤ 8 ∧ ∀ i, i < k → B ≠ ((64 * 2 ^ i : Nat) : Int)) (fun k => 8 - k) ?_ ?_ ?_
  · exact (Sub.cons rfl (Sub.cons rfl (Sub.nil _)))
  · exact ⟨hp.sub (lsub_cons rfl (lsub_nil _)), by omega, fun i hi => by omega⟩
  intro k w hw
  obtain ⟨hp, hk, hno⟩ := hw
  refine sc_seq ?_
  refine sc_seq ?_
  refine sc_region ?_
  refine st_v (ov_move rfl) rfl ?_
  refine st_v (ov_lss rfl rfl) rfl ?_
  refine st_v (ov_move rfl) rfl ?_
  refine st_split (j := 6) rfl (fun hb => ?_) (fun hb => ?_)
  ·
    have hb := of_decide_eq_true hb
    refine st_on (j := 2) rfl rfl ?_
    refine st_v (ov_move rfl) rfl ?_
    refine st_on (j := 2) rfl rfl ?_
    refine st_v (ov_field (q := 0) rfl Tryd.underlying23 rfl sz3 rfl) rfl ?_
    refine st_on (j := 2) rfl rfl ?_
    refine st_v (ov_load1 rfl Tryd.underlying3 rfl ((hp.cells' (t := 1) rfl).at 0 (by simp) rfl)) rfl ?_
    refine st_on (j := 2) rfl rfl ?_
    refine st_v (ov_neq rfl rfl) rfl ?_
    refine st_v (ov_pick_t rfl rfl) rfl ?_
    refine st_nil ?_
    refine pn_then ?_
    refine sc_cond rfl (fun hc => ?_) (fun hc => ?_)
    ·
      have hc := of_decide_eq_true hc
      refine sc_skip ?_
      refine pn_then ?_
      refine sc_block ?_
      refine sc_region ?_
      refine st_v (ov_move rfl) rfl ?_
      have e2 : (2 : Int) * ((64 * 2 ^ k : Nat) : Int) = ((64 * 2 ^ (k + 1) : Nat) : Int) := by rw [Nat.pow_succ]; omega
      have hm := pow_of (pow_mid hk ‹_›)
      refine st_v (e2 ▸ ov_mul_i64 rfl rfl (by rw [e2]; omega)) rfl ?_
      refine st_v (ov_assign rfl) rfl ?_
      refine st_nil ?_
      refine pn_block ?_
      refine pn_round1 (k + 1) ?_ ?_ ?_
      · exact (Sub.cons rfl (Sub.cons rfl (Sub.nil _)))
      · have hm := pow_mid hk ‹_›; omega
      ·
        have hm := pow_mid hk ‹_›
        refine ⟨hp.sub (lsub_cons rfl (lsub_nil _)), hm, fun i hi => ?_⟩
        rcases Nat.lt_or_ge i k with h | h
        · exact hno i h
        · obtain rfl : i = k := by omega
          exact fun e => hc e.symm
    ·
      have hc := of_decide_eq_false hc
      refine sc_exit ?_
      refine pe_then ?_
      refine pe_then ?_
      refine pe_hit ?_
      refine pn_then ?_
      refine sc_seq ?_
      refine sc_seq ?_
      refine sc_region ?_
      refine st_v (ov_move rfl) rfl ?_
      refine st_v (ov_field (q := 0) rfl Tryd.underlying23 rfl sz3 rfl) rfl ?_
      refine st_v (ov_load1 rfl Tryd.underlying3 rfl ((hp.cells' (t := 1) rfl).at 0 (by simp) rfl)) rfl ?_
      refine st_v (ov_neq rfl rfl) rfl ?_
      refine st_v (ov_move rfl) rfl ?_
      refine st_split (j := 18) rfl (fun hb => ?_) (fun hb => ?_)
      ·
        have hb := of_decide_eq_true hb
        refine st_off (j := 4) rfl rfl rfl rfl ?_
        refine st_off (j := 4) rfl rfl rfl rfl ?_
        refine st_off (j := 4) rfl rfl rfl rfl ?_
        refine st_v (ov_pick_t rfl rfl) rfl ?_
        refine st_v (ov_move rfl) rfl ?_
        refine st_off (j := 9) rfl rfl rfl rfl ?_
        refine st_off (j := 9) rfl rfl rfl rfl ?_
        refine st_off (j := 9) rfl rfl rfl rfl ?_
        refine st_v (ov_pick_t rfl rfl) rfl ?_
        refine st_nil ?_
        refine pn_then ?_
        refine sc_true rfl ?_
        refine sc_seq ?_
        refine sc_region ?_
        refine st_v (ov_assign rfl) rfl ?_
        refine st_nil ?_
        refine pn_then ?_
        refine sc_ret ?_
        refine pr_then ?_
        refine pr_one rfl rfl ?_
        exfalso; omega
      ·
        have hb := of_decide_eq_false hb
        refine st_on (j := 4) rfl rfl ?_
        refine st_v (ov_field (q := 1) rfl Tryd.underlying23 rfl sz3 rfl) rfl ?_
        refine st_on (j := 4) rfl rfl ?_
        refine st_v (ov_load1 rfl Tryd.underlying3 rfl ((hp.cells' (t := 1) rfl).at 1 (by simp) rfl)) rfl ?_
        refine st_on (j := 4) rfl rfl ?_
        refine st_v (ov_lss rfl rfl) rfl ?_
        refine st_v (ov_pick_f rfl rfl) rfl ?_
        refine st_v (ov_move rfl) rfl ?_
        refine st_split (j := 23) rfl (fun hb => ?_) (fun hb => ?_)
        ·
          have hb := of_decide_eq_true hb
          refine st_off (j := 9) rfl rfl rfl rfl ?_
          refine st_off (j := 9) rfl rfl rfl rfl ?_
          refine st_off (j := 9) rfl rfl rfl rfl ?_
          refine st_v (ov_pick_t rfl rfl) rfl ?_
          refine st_nil ?_
          refine pn_then ?_
          refine sc_true rfl ?_
          refine sc_seq ?_
          refine sc_region ?_
          refine st_v (ov_assign rfl) rfl ?_
          refine st_nil ?_
          refine pn_then ?_
          refine sc_ret ?_
          refine pr_then ?_
          refine pr_one rfl rfl ?_
          exact ⟨by rw [good_w (by omega)], hp.chg⟩
        ·
          have hb := of_decide_eq_false hb
          refine st_on (j := 9) rfl rfl ?_
          refine st_v (ov_field (q := 1) rfl Tryd.underlying23 rfl sz3 rfl) rfl ?_
          refine st_on (j := 9) rfl rfl ?_
          refine st_v (ov_load1 rfl Tryd.underlying3 rfl ((hp.cells' (t := 1) rfl).at 1 (by simp) rfl)) rfl ?_
          refine st_on (j := 9) rfl rfl ?_
          refine st_v (ov_gtr rfl rfl) rfl ?_
          refine st_v (ov_pick_f rfl rfl) rfl ?_
          refine st_nil ?_
          refine pn_then ?_
          refine sc_cond rfl (fun hc => ?_) (fun hc => ?_)
          ·
            have hc := of_decide_eq_true hc
            refine sc_seq ?_
            refine sc_region ?_
            refine st_v (ov_assign rfl) rfl ?_
            refine st_nil ?_
            refine pn_then ?_
            refine sc_ret ?_
            refine pr_then ?_
            refine pr_one rfl rfl ?_
            exact ⟨by rw [good_w (by omega)], hp.chg⟩
          ·
            have hc := of_decide_eq_false hc
            refine sc_skip ?_
            refine pn_then ?_
            refine sc_seq ?_
            refine sc_region ?_
            refine st_v (ov_assign rfl) rfl ?_
            refine st_nil ?_
            refine pn_then ?_
            refine sc_ret ?_
            refine pr_one rfl rfl ?_
            obtain rfl : B = ((64 * 2 ^ k : Nat) : Int) := by omega
            exact ⟨by rw [good_at hk (by omega)], hp.chg⟩
  ·
    have hb := of_decide_eq_false hb
    refine st_off (j := 2) rfl rfl rfl rfl ?_
    refine st_off (j := 2) rfl rfl rfl rfl ?_
    refine st_off (j := 2) rfl rfl rfl rfl ?_
    refine st_off (j := 2) rfl rfl rfl rfl ?_
    refine st_v (ov_pick_f rfl rfl) rfl ?_
    refine st_nil ?_
    refine pn_then ?_
    refine sc_false rfl ?_
    refine sc_exit ?_
    refine pe_then ?_
    refine pe_then ?_
    refine pe_hit ?_
    refine pn_then ?_
    refine sc_seq ?_
    refine sc_seq ?_
    refine sc_region ?_
    refine st_v (ov_move rfl) rfl ?_
    refine st_v (ov_field (q := 0) rfl Tryd.underlying23 rfl sz3 rfl) rfl ?_
    refine st_v (ov_load1 rfl Tryd.underlying3 rfl ((hp.cells' (t := 1) rfl).at 0 (by simp) rfl)) rfl ?_
    refine st_v (ov_neq rfl rfl) rfl ?_
    refine st_v (ov_move rfl) rfl ?_
    refine st_split (j := 18) rfl (fun hb => ?_) (fun hb => ?_)
    ·
      have hb := of_decide_eq_true hb
      refine st_off (j := 4) rfl rfl rfl rfl ?_
      refine st_off (j := 4) rfl rfl rfl rfl ?_
      refine st_off (j := 4) rfl rfl rfl rfl ?_
      refine st_v (ov_pick_t rfl rfl) rfl ?_
      refine st_v (ov_move rfl) rfl ?_
      refine st_off (j := 9) rfl rfl rfl rfl ?_
      refine st_off (j := 9) rfl rfl rfl rfl ?_
      refine st_off (j := 9) rfl rfl rfl rfl ?_
      refine st_v (ov_pick_t rfl rfl) rfl ?_
      refine st_nil ?_
      refine pn_then ?_
      refine sc_true rfl ?_
      refine sc_seq ?_
      refine sc_region ?_
      refine st_v (ov_assign rfl) rfl ?_
      refine st_nil ?_
      refine pn_then ?_
      refine sc_ret ?_
      refine pr_then ?_
      refine pr_one rfl rfl ?_
      have hk8 := pow_end hk (by assumption)
      subst hk8
      have hall : ∀ i, i < 9 → B ≠ ((64 * 2 ^ i : Nat) : Int) := fun i hi => by
        rcases Nat.lt_or_ge i 8 with h | h
        · exact hno i h
        · obtain rfl : i = 8 := by omega
          exact fun e => hb e.symm
      exact ⟨by rw [good_never hall], hp.chg⟩
    ·
      have hb := of_decide_eq_false hb
      refine st_on (j := 4) rfl rfl ?_
      refine st_v (ov_field (q := 1) rfl Tryd.underlying23 rfl sz3 rfl) rfl ?_
      refine st_on (j := 4) rfl rfl ?_
      refine st_v (ov_load1 rfl Tryd.underlying3 rfl ((hp.cells' (t := 1) rfl).at 1 (by simp) rfl)) rfl ?_
      refine st_on (j := 4) rfl rfl ?_
      refine st_v (ov_lss rfl rfl) rfl ?_
      refine st_v (ov_pick_f rfl rfl) rfl ?_
      refine st_v (ov_move rfl) rfl ?_
      refine st_split (j := 23) rfl (fun hb => ?_) (fun hb => ?_)
      ·
        have hb := of_decide_eq_true hb
        refine st_off (j := 9) rfl rfl rfl rfl ?_
        refine st_off (j := 9) rfl rfl rfl rfl ?_
        refine st_off (j := 9) rfl rfl rfl rfl ?_
        refine st_v (ov_pick_t rfl rfl) rfl ?_
        refine st_nil ?_
        refine pn_then ?_
        refine sc_true rfl ?_
        refine sc_seq ?_
        refine sc_region ?_
        refine st_v (ov_assign rfl) rfl ?_
        refine st_nil ?_
        refine pn_then ?_
        refine sc_ret ?_
        refine pr_then ?_
        refine pr_one rfl rfl ?_
        exact ⟨by rw [good_w (by omega)], hp.chg⟩
      ·
        have hb := of_decide_eq_false hb
        refine st_on (j := 9) rfl rfl ?_
        refine st_v (ov_field (q := 1) rfl Tryd.underlying23 rfl sz3 rfl) rfl ?_
        refine st_on (j := 9) rfl rfl ?_
        refine st_v (ov_load1 rfl Tryd.underlying3 rfl ((hp.cells' (t := 1) rfl).at 1 (by simp) rfl)) rfl ?_
        refine st_on (j := 9) rfl rfl ?_
        refine st_v (ov_gtr rfl rfl) rfl ?_
        refine st_v (ov_pick_f rfl rfl) rfl ?_
        refine st_nil ?_
        refine pn_then ?_
        refine sc_cond rfl (fun hc => ?_) (fun hc => ?_)
        ·
          have hc := of_decide_eq_true hc
          refine sc_seq ?_
          refine sc_region ?_
          refine st_v (ov_assign rfl) rfl ?_
          refine st_nil ?_
          refine pn_then ?_
          refine sc_ret ?_
          refine pr_then ?_
          refine pr_one rfl rfl ?_
          exact ⟨by rw [good_w (by omega)], hp.chg⟩
        ·
          have hc := of_decide_eq_false hc
          refine sc_skip ?_
          refine pn_then ?_
          refine sc_seq ?_
          refine sc_region ?_
          refine st_v (ov_assign rfl) rfl ?_
          refine st_nil ?_
          refine pn_then ?_
          refine sc_ret ?_
          refine pr_one rfl rfl ?_
          obtain rfl : B = ((64 * 2 ^ k : Nat) : Int) := by omega
          exact ⟨by rw [good_at hk (by omega)], hp.chg⟩

end Go.Proofs.YtjdolgfhcjnniaaDoor
