/-
  The walks of both fits.
-/
import Derived.Test.YtcjnpaikmcjjlaaDoorPrfA
namespace Go.Proofs.YtcjnpaikmcjjlaaDoor
open Go Go.RowKit

set_option maxRecDepth 100000 in
theorem fitsr_walk (low top : Nat) (ht : top ≤ 48) (hlt : low ≤ top) (q : Qr) (hq : QOk q) (w0 : World) :
    Calls Tryd.prog 50 #[.int .i64 (low : Int), .int .i64 (top : Int), .agg (qcs q).toArray] w0 fun e w' => e = .returned (.int .i64 (fitsE low top q)) ∧ Chg [] w0 w' := by
  refine calls_in Tryd.func50 Tryd.ntmps50 rfl rfl ?_
  have hp := Hp.start w0
  obtain ⟨⟨b1, b2⟩, ⟨b3, b4⟩, ⟨b5, b6⟩, ⟨b7, b8⟩⟩ := hq
  refine sc_seq ?_
  refine sc_region ?_
  refine st_box 5 hp rfl rfl rfl (fun b5 w hp => ?_)
  refine st_v (ov_assign rfl) rfl ?_
  refine st_nil ?_
  refine pn_then ?_
  refine sc_seq ?_
  refine sc_seq ?_
  refine sc_region ?_
  refine st_v (ov_field (q := _) rfl Tryd.underlying25 rfl sz3 rfl) rfl ?_
  refine st_v (ov_load1 rfl Tryd.underlying3 rfl ((hp.cells' (t := 5) rfl).at 32 (by first | rfl | omega) (qcs_get q).1)) rfl ?_
  refine st_v (ov_move rfl) rfl ?_
  refine st_v (ov_lss rfl rfl) rfl ?_
  refine st_v (ov_move rfl) rfl ?_
  refine st_split (j := 11) rfl (fun hb => ?_) (fun hb => ?_)
  ·
    have hb := of_decide_eq_true hb
    refine st_off (j := 4) rfl rfl rfl rfl ?_
    refine st_off (j := 4) rfl rfl rfl rfl ?_
    refine st_off (j := 4) rfl rfl rfl rfl ?_
    refine st_off (j := 4) rfl rfl rfl rfl ?_
    refine st_v (ov_pick_t rfl rfl) rfl ?_
    refine st_nil ?_
    refine pn_then ?_
    refine sc_true rfl ?_
    refine sc_seq ?_
    refine sc_region ?_
    refine st_v (ov_assign rfl) rfl ?_
    refine st_nil ?_
    refine pn_then ?_
    refine sc_ret ?_
    refine pr_then ?_
    refine pr_one rfl rfl ?_
    exact ⟨by unfold fitsE; rw [if_pos (by omega)], hp.chg⟩
  ·
    have hb := of_decide_eq_false hb
    refine st_on (j := 4) rfl rfl ?_
    refine st_v (ov_field (q := _) rfl Tryd.underlying25 rfl sz3 rfl) rfl ?_
    refine st_on (j := 4) rfl rfl ?_
    refine st_v (ov_load1 rfl Tryd.underlying3 rfl ((hp.cells' (t := 5) rfl).at 32 (by first | rfl | omega) (qcs_get q).1)) rfl ?_
    refine st_on (j := 4) rfl rfl ?_
    refine st_v (ov_move rfl) rfl ?_
    refine st_on (j := 4) rfl rfl ?_
    refine st_v (ov_geq rfl rfl) rfl ?_
    refine st_v (ov_pick_f rfl rfl) rfl ?_
    refine st_nil ?_
    refine pn_then ?_
    refine sc_cond rfl (fun hc => ?_) (fun hc => ?_)
    ·
      have hc := of_decide_eq_true hc
      refine sc_seq ?_
      refine sc_region ?_
      refine st_v (ov_assign rfl) rfl ?_
      refine st_nil ?_
      refine pn_then ?_
      refine sc_ret ?_
      refine pr_then ?_
      refine pr_one rfl rfl ?_
      exact ⟨by unfold fitsE; rw [if_pos (by omega)], hp.chg⟩
    ·
      have hc := of_decide_eq_false hc
      obtain ⟨a, ha⟩ : ∃ a : Nat, q.lv = (a : Int) := ⟨q.lv.toNat, by omega⟩
      have hta : q.lv.toNat = a := by omega
      refine sc_skip ?_
      refine pn_then ?_
      refine sc_seq ?_
      refine sc_seq ?_
      refine sc_region ?_
      refine st_v (ov_field (q := _) rfl Tryd.underlying25 rfl sz3 rfl) rfl ?_
      refine st_v (ov_load1 rfl Tryd.underlying3 rfl ((hp.cells' (t := 5) rfl).at 34 (by first | rfl | omega) (qcs_get q).2.2.1)) rfl ?_
      refine st_call pl63 rfl rfl rfl (log_walk q.len _) ?_
      rintro _ w ⟨rfl, hch⟩
      refine ⟨_, rfl, ?_⟩
      replace hp := hp.call hch
      clear hch
      refine st_v (ov_eql rfl rfl) rfl ?_
      refine st_nil ?_
      refine pn_then ?_
      refine sc_cond rfl (fun hc => ?_) (fun hc => ?_)
      ·
        have hc := of_decide_eq_true hc
        refine sc_seq ?_
        refine sc_region ?_
        refine st_v (ov_assign rfl) rfl ?_
        refine st_nil ?_
        refine pn_then ?_
        refine sc_ret ?_
        refine pr_then ?_
        refine pr_one rfl rfl ?_
        exact ⟨by unfold fitsE; rw [if_neg (by omega), if_pos (by omega)], hp.chg⟩
      ·
        have hc := of_decide_eq_false hc
        obtain ⟨c1, c2⟩ := logL_range (x := q.len) (by omega)
        refine sc_skip ?_
        refine pn_then ?_
        refine sc_seq ?_
        refine sc_seq ?_
        obtain ⟨Hs, hHs⟩ := (hp.sub (L' := [(5, _)]) (LSub.cons rfl (LSub.nil _))).hs
        refine sc_plan Hs [0, 1, 2, 3, 4, 5, 6, 7, 8, 9, 10, 11, 12, 13, 14, 15, 16, 17, 19, 20, 21, 22, 23] [18] (.take 0 (.load 1 (.take 2 (.take 3 (.take 4 (.load 5 (.take 6 (.load 7 (.take 8 (.take 9 (.take 10 (.take 11 (.take 12 (.load 13 (.take 14 (.take 15 (.load 16 (.take 17 (.take 19 (.load 20 (.one 18 (.take 21 (.take 22 (.take 23 .nil)))))))))))))))))))))))) (by kernel_rfl) (by kernel_rfl) (by repeat (first | exact calm_body _ _ _ | refine calm_then ?_ | refine calm_block ?_ | refine calm_jump ?_ | refine calm_ng ?_)) ?_
        replace hp := hp.drew
        refine sp_take rfl (fun w => ov_field (q := _) rfl Tryd.underlying25 rfl sz3 rfl) rfl ?_
        refine sp_load rfl ((hHs _).2 (hp.sub (LSub.cons rfl (LSub.nil _)))) (fun w hs => have hp := (hHs w).1 hs; ov_load1 rfl Tryd.underlying3 rfl ((hp.cells' (t := 5) rfl).at 33 (by first | rfl | omega) (qcs_get q).2.1)) rfl ?_
        refine sp_take rfl (fun w => ov_lss rfl rfl) rfl ?_
        refine sp_take rfl (fun w => ov_move rfl) rfl ?_
        refine sp_split (j := 24) rfl (fun hb => ?_) (fun hb => ?_)
        ·
          have hb := of_decide_eq_true hb
          refine sp_take_off rfl rfl rfl rfl rfl ?_
          refine sp_load_off rfl rfl rfl rfl ((hHs _).2 (hp.sub (LSub.cons rfl (LSub.nil _)))) rfl ?_
          refine sp_take_off rfl rfl rfl rfl rfl ?_
          refine sp_load_off rfl rfl rfl rfl ((hHs _).2 (hp.sub (LSub.cons rfl (LSub.nil _)))) rfl ?_
          refine sp_take_off rfl rfl rfl rfl rfl ?_
          refine sp_take_off rfl rfl rfl rfl rfl ?_
          refine sp_take rfl (fun w => ov_pick_t rfl rfl) rfl ?_
          refine sp_take rfl (fun w => ov_move rfl) rfl ?_
          refine sp_take_off rfl rfl rfl rfl rfl ?_
          refine sp_load_off rfl rfl rfl rfl ((hHs _).2 (hp.sub (LSub.cons rfl (LSub.nil _)))) rfl ?_
          refine sp_take_off rfl rfl rfl rfl rfl ?_
          refine sp_take_off rfl rfl rfl rfl rfl ?_
          refine sp_load_off rfl rfl rfl rfl ((hHs _).2 (hp.sub (LSub.cons rfl (LSub.nil _)))) rfl ?_
          refine sp_take_off rfl rfl rfl rfl rfl ?_
          refine sp_take_off rfl rfl rfl rfl rfl ?_
          refine sp_load_off rfl rfl rfl rfl ((hHs _).2 (hp.sub (LSub.cons rfl (LSub.nil _)))) rfl ?_
          refine sp_one rfl ?_
          refine st_off (j := 11) rfl rfl rfl rfl ?_
          refine st_nil ?_
          refine sp_next (i := 18) (fun _ => ((hHs _).2 (hp.sub (LSub.cons rfl (LSub.nil _))))) ?_
          refine sp_take_off rfl rfl rfl rfl rfl ?_
          refine sp_take_off rfl rfl rfl rfl rfl ?_
          refine sp_take rfl (fun w => ov_pick_t rfl rfl) rfl ?_
          refine sp_nil ?_
          refine pn_then ?_
          refine sc_true rfl ?_
          refine sc_seq ?_
          refine sc_region ?_
          refine st_v (ov_assign rfl) rfl ?_
          refine st_nil ?_
          refine pn_then ?_
          refine sc_ret ?_
          refine pr_then ?_
          refine pr_one rfl rfl ?_
          exact ⟨by unfold fitsE; rw [hta, if_neg (by omega), if_neg (by omega), if_pos (by first | exact .inl (by omega) | exact .inr (.inl q2) | exact .inr (.inr (by rw [← hP]; omega)))], hp.chg⟩
        ·
          have hb := of_decide_eq_false hb
          have q1 := hb
          refine sp_take_on rfl rfl rfl (fun w => ov_field (q := _) rfl Tryd.underlying25 rfl sz3 rfl) rfl ?_
          refine sp_load_on rfl rfl rfl ((hHs _).2 (hp.sub (LSub.cons rfl (LSub.nil _)))) (fun w hs => have hp := (hHs w).1 hs; ov_load1 rfl Tryd.underlying3 rfl ((hp.cells' (t := 5) rfl).at 33 (by first | rfl | omega) (qcs_get q).2.1)) rfl ?_
          refine sp_take_on rfl rfl rfl (fun w => ov_field (q := _) rfl Tryd.underlying25 rfl sz3 rfl) rfl ?_
          refine sp_load_on rfl rfl rfl ((hHs _).2 (hp.sub (LSub.cons rfl (LSub.nil _)))) (fun w hs => have hp := (hHs w).1 hs; ov_load1 rfl Tryd.underlying3 rfl ((hp.cells' (t := 5) rfl).at 34 (by first | rfl | omega) (qcs_get q).2.2.1)) rfl ?_
          refine sp_take_on rfl rfl rfl (fun w => ov_rem_i64 rfl rfl (by omega)) rfl ?_
          refine sp_take_on rfl rfl rfl (fun w => ov_neq rfl rfl) rfl ?_
          refine sp_take rfl (fun w => ov_pick_f rfl rfl) rfl ?_
          refine sp_take rfl (fun w => ov_move rfl) rfl ?_
          refine sp_split (j := 32) rfl (fun hb => ?_) (fun hb => ?_)
          ·
            have hb := of_decide_eq_true hb
            have q2 := hb
            refine sp_take_off rfl rfl rfl rfl rfl ?_
            refine sp_load_off rfl rfl rfl rfl ((hHs _).2 (hp.sub (LSub.cons rfl (LSub.nil _)))) rfl ?_
            refine sp_take_off rfl rfl rfl rfl rfl ?_
            refine sp_take_off rfl rfl rfl rfl rfl ?_
            refine sp_load_off rfl rfl rfl rfl ((hHs _).2 (hp.sub (LSub.cons rfl (LSub.nil _)))) rfl ?_
            refine sp_take_off rfl rfl rfl rfl rfl ?_
            refine sp_take_off rfl rfl rfl rfl rfl ?_
            refine sp_load_off rfl rfl rfl rfl ((hHs _).2 (hp.sub (LSub.cons rfl (LSub.nil _)))) rfl ?_
            refine sp_one rfl ?_
            refine st_off (j := 11) rfl rfl rfl rfl ?_
            refine st_nil ?_
            refine sp_next (i := 18) (fun _ => ((hHs _).2 (hp.sub (LSub.cons rfl (LSub.nil _))))) ?_
            refine sp_take_off rfl rfl rfl rfl rfl ?_
            refine sp_take_off rfl rfl rfl rfl rfl ?_
            refine sp_take rfl (fun w => ov_pick_t rfl rfl) rfl ?_
            refine sp_nil ?_
            refine pn_then ?_
            refine sc_true rfl ?_
            refine sc_seq ?_
            refine sc_region ?_
            refine st_v (ov_assign rfl) rfl ?_
            refine st_nil ?_
            refine pn_then ?_
            refine sc_ret ?_
            refine pr_then ?_
            refine pr_one rfl rfl ?_
            exact ⟨by unfold fitsE; rw [hta, if_neg (by omega), if_neg (by omega), if_pos (by first | exact .inl (by omega) | exact .inr (.inl q2) | exact .inr (.inr (by rw [← hP]; omega)))], hp.chg⟩
          ·
            have hb := of_decide_eq_false hb
            have q2 := hb
            refine sp_take_on rfl rfl rfl (fun w => ov_field (q := _) rfl Tryd.underlying25 rfl sz3 rfl) rfl ?_
            refine sp_load_on rfl rfl rfl ((hHs _).2 (hp.sub (LSub.cons rfl (LSub.nil _)))) (fun w hs => have hp := (hHs w).1 hs; ov_load1 rfl Tryd.underlying3 rfl ((hp.cells' (t := 5) rfl).at 33 (by first | rfl | omega) (qcs_get q).2.1)) rfl ?_
            refine sp_take_on rfl rfl rfl (fun w => ov_move rfl) rfl ?_
            refine sp_take_on rfl rfl rfl (fun w => ov_field (q := _) rfl Tryd.underlying25 rfl sz3 rfl) rfl ?_
            refine sp_load_on rfl rfl rfl ((hHs _).2 (hp.sub (LSub.cons rfl (LSub.nil _)))) (fun w hs => have hp := (hHs w).1 hs; ov_load1 rfl Tryd.underlying3 rfl ((hp.cells' (t := 5) rfl).at 32 (by first | rfl | omega) (qcs_get q).1)) rfl ?_
            refine sp_take_on rfl rfl rfl (v := .int .i64 ((top - a : Nat) : Int)) (fun w => (ov_sub_i64 rfl rfl (by omega)).is (by congr 1; omega)) rfl ?_
            refine sp_take_on rfl rfl rfl (fun w => ov_field (q := _) rfl Tryd.underlying25 rfl sz3 rfl) rfl ?_
            refine sp_load_on rfl rfl rfl ((hHs _).2 (hp.sub (LSub.cons rfl (LSub.nil _)))) (fun w hs => have hp := (hHs w).1 hs; ov_load1 rfl Tryd.underlying3 rfl ((hp.cells' (t := 5) rfl).at 34 (by first | rfl | omega) (qcs_get q).2.2.1)) rfl ?_
            refine sp_one rfl ?_
            refine st_on (j := 11) rfl rfl ?_
            refine st_call pl64 rfl rfl rfl (power_walk (top - a) (by omega) _) ?_
            rintro _ w ⟨rfl, hch⟩
            refine ⟨_, rfl, ?_⟩
            replace hp := hp.call hch
            clear hch
            refine st_nil ?_
            refine sp_next (i := 18) (fun _ => ((hHs _).2 (hp.sub (LSub.cons rfl (LSub.nil _))))) ?_
            obtain ⟨P, hP⟩ : ∃ P, P = 2 ^ (top - a) := ⟨_, rfl⟩
            rw [← hP]
            have hPb : P ≤ 2 ^ 48 := by rw [hP]; exact Nat.pow_le_pow_right (by omega) (by omega)
            refine sp_take_on rfl rfl rfl (fun w => ov_sub_i64 rfl rfl (by omega)) rfl ?_
            refine sp_take_on rfl rfl rfl (fun w => ov_gtr rfl rfl) rfl ?_
            refine sp_take rfl (fun w => ov_pick_f rfl rfl) rfl ?_
            refine sp_nil ?_
            refine pn_then ?_
            refine sc_cond rfl (fun hc => ?_) (fun hc => ?_)
            ·
              have hc := of_decide_eq_true hc
              refine sc_seq ?_
              refine sc_region ?_
              refine st_v (ov_assign rfl) rfl ?_
              refine st_nil ?_
              refine pn_then ?_
              refine sc_ret ?_
              refine pr_then ?_
              refine pr_one rfl rfl ?_
              exact ⟨by unfold fitsE; rw [hta, if_neg (by omega), if_neg (by omega), if_pos (by first | exact .inl (by omega) | exact .inr (.inl q2) | exact .inr (.inr (by rw [← hP]; omega)))], hp.chg⟩
            ·
              have hc := of_decide_eq_false hc
              have q3 := hc
              refine sc_skip ?_
              refine pn_then ?_
              refine sc_seq ?_
              refine sc_seq ?_
              refine sc_region ?_
              refine st_v (ov_field (q := _) rfl Tryd.underlying25 rfl sz3 rfl) rfl ?_
              refine st_v (ov_load1 rfl Tryd.underlying3 rfl ((hp.cells' (t := 5) rfl).at 35 (by first | rfl | omega) (qcs_get q).2.2.2)) rfl ?_
              refine st_v (ov_lss rfl rfl) rfl ?_
              refine st_v (ov_move rfl) rfl ?_
              refine st_split (j := 48) rfl (fun hb => ?_) (fun hb => ?_)
              ·
                have hb := of_decide_eq_true hb
                refine st_off (j := 3) rfl rfl rfl rfl ?_
                refine st_off (j := 3) rfl rfl rfl rfl ?_
                refine st_off (j := 3) rfl rfl rfl rfl ?_
                refine st_off (j := 3) rfl rfl rfl rfl ?_
                refine st_off (j := 3) rfl rfl rfl rfl ?_
                refine st_off (j := 3) rfl rfl rfl rfl ?_
                refine st_off (j := 3) rfl rfl rfl rfl ?_
                refine st_v (ov_pick_t rfl rfl) rfl ?_
                refine st_nil ?_
                refine pn_then ?_
                refine sc_true rfl ?_
                refine sc_seq ?_
                refine sc_region ?_
                refine st_v (ov_assign rfl) rfl ?_
                refine st_nil ?_
                refine pn_then ?_
                refine sc_ret ?_
                refine pr_then ?_
                refine pr_one rfl rfl ?_
                exact ⟨by unfold fitsE; rw [hta, if_neg (by omega), if_neg (by omega), if_neg (fun h => by rcases h with h | h | h; exact q1 h; exact q2 h; rw [← hP] at h; omega), if_pos (by omega)], hp.chg⟩
              ·
                have hb := of_decide_eq_false hb
                refine st_on (j := 3) rfl rfl ?_
                refine st_v (ov_field (q := _) rfl Tryd.underlying25 rfl sz3 rfl) rfl ?_
                refine st_on (j := 3) rfl rfl ?_
                refine st_v (ov_load1 rfl Tryd.underlying3 rfl ((hp.cells' (t := 5) rfl).at 35 (by first | rfl | omega) (qcs_get q).2.2.2)) rfl ?_
                refine st_on (j := 3) rfl rfl ?_
                refine st_v (ov_move rfl) rfl ?_
                refine st_on (j := 3) rfl rfl ?_
                refine st_v (ov_field (q := _) rfl Tryd.underlying25 rfl sz3 rfl) rfl ?_
                refine st_on (j := 3) rfl rfl ?_
                refine st_v (ov_load1 rfl Tryd.underlying3 rfl ((hp.cells' (t := 5) rfl).at 32 (by first | rfl | omega) (qcs_get q).1)) rfl ?_
                refine st_on (j := 3) rfl rfl ?_
                refine st_v (ov_sub_i64 rfl rfl (by omega)) rfl ?_
                refine st_on (j := 3) rfl rfl ?_
                refine st_v (ov_geq rfl rfl) rfl ?_
                refine st_v (ov_pick_f rfl rfl) rfl ?_
                refine st_nil ?_
                refine pn_then ?_
                refine sc_cond rfl (fun hc => ?_) (fun hc => ?_)
                ·
                  have hc := of_decide_eq_true hc
                  refine sc_seq ?_
                  refine sc_region ?_
                  refine st_v (ov_assign rfl) rfl ?_
                  refine st_nil ?_
                  refine pn_then ?_
                  refine sc_ret ?_
                  refine pr_then ?_
                  refine pr_one rfl rfl ?_
                  exact ⟨by unfold fitsE; rw [hta, if_neg (by omega), if_neg (by omega), if_neg (fun h => by rcases h with h | h | h; exact q1 h; exact q2 h; rw [← hP] at h; omega), if_pos (by omega)], hp.chg⟩
                ·
                  have hc := of_decide_eq_false hc
                  refine sc_skip ?_
                  refine pn_then ?_
                  refine sc_seq ?_
                  refine sc_region ?_
                  refine st_v (ov_assign rfl) rfl ?_
                  refine st_nil ?_
                  refine pn_then ?_
                  refine sc_ret ?_
                  refine pr_one rfl rfl ?_
                  exact ⟨by unfold fitsE; rw [hta, if_neg (by omega), if_neg (by omega), if_neg (fun h => by rcases h with h | h | h; exact q1 h; exact q2 h; rw [← hP] at h; omega), if_neg (by omega)], hp.chg⟩

set_option maxRecDepth 100000 in
theorem fits_walk (low top : Nat) (ht : top ≤ 48) (hlt : low ≤ top) (q : Qr) (hq : QOk q) (w0 : World) :
    Calls Tryd.prog 52 #[.int .i64 (low : Int), .int .i64 (top : Int), .agg (qcs q).toArray] w0 fun e w' => e = .returned (.int .i64 (fitsE low top q)) ∧ Chg [] w0 w' := by
  refine calls_in Tryd.func52 Tryd.ntmps52 rfl rfl ?_
  have hp := Hp.start w0
  obtain ⟨⟨b1, b2⟩, ⟨b3, b4⟩, ⟨b5, b6⟩, ⟨b7, b8⟩⟩ := hq
  refine sc_seq ?_
  refine sc_region ?_
  refine st_box 5 hp rfl rfl rfl (fun b5 w hp => ?_)
  refine st_v (ov_assign rfl) rfl ?_
  refine st_nil ?_
  refine pn_then ?_
  refine sc_seq ?_
  refine sc_seq ?_
  refine sc_region ?_
  refine st_v (ov_field (q := _) rfl Tryd.underlying25 rfl sz3 rfl) rfl ?_
  refine st_v (ov_load1 rfl Tryd.underlying3 rfl ((hp.cells' (t := 5) rfl).at 32 (by first | rfl | omega) (qcs_get q).1)) rfl ?_
  refine st_v (ov_move rfl) rfl ?_
  refine st_v (ov_lss rfl rfl) rfl ?_
  refine st_v (ov_move rfl) rfl ?_
  refine st_split (j := 11) rfl (fun hb => ?_) (fun hb => ?_)
  ·
    have hb := of_decide_eq_true hb
    refine st_off (j := 4) rfl rfl rfl rfl ?_
    refine st_off (j := 4) rfl rfl rfl rfl ?_
    refine st_off (j := 4) rfl rfl rfl rfl ?_
    refine st_off (j := 4) rfl rfl rfl rfl ?_
    refine st_v (ov_pick_t rfl rfl) rfl ?_
    refine st_nil ?_
    refine pn_then ?_
    refine sc_true rfl ?_
    refine sc_seq ?_
    refine sc_region ?_
    refine st_v (ov_assign rfl) rfl ?_
    refine st_nil ?_
    refine pn_then ?_
    refine sc_ret ?_
    refine pr_then ?_
    refine pr_one rfl rfl ?_
    exact ⟨by unfold fitsE; rw [if_pos (by omega)], hp.chg⟩
  ·
    have hb := of_decide_eq_false hb
    refine st_on (j := 4) rfl rfl ?_
    refine st_v (ov_field (q := _) rfl Tryd.underlying25 rfl sz3 rfl) rfl ?_
    refine st_on (j := 4) rfl rfl ?_
    refine st_v (ov_load1 rfl Tryd.underlying3 rfl ((hp.cells' (t := 5) rfl).at 32 (by first | rfl | omega) (qcs_get q).1)) rfl ?_
    refine st_on (j := 4) rfl rfl ?_
    refine st_v (ov_move rfl) rfl ?_
    refine st_on (j := 4) rfl rfl ?_
    refine st_v (ov_geq rfl rfl) rfl ?_
    refine st_v (ov_pick_f rfl rfl) rfl ?_
    refine st_nil ?_
    refine pn_then ?_
    refine sc_cond rfl (fun hc => ?_) (fun hc => ?_)
    ·
      have hc := of_decide_eq_true hc
      refine sc_seq ?_
      refine sc_region ?_
      refine st_v (ov_assign rfl) rfl ?_
      refine st_nil ?_
      refine pn_then ?_
      refine sc_ret ?_
      refine pr_then ?_
      refine pr_one rfl rfl ?_
      exact ⟨by unfold fitsE; rw [if_pos (by omega)], hp.chg⟩
    ·
      have hc := of_decide_eq_false hc
      obtain ⟨a, ha⟩ : ∃ a : Nat, q.lv = (a : Int) := ⟨q.lv.toNat, by omega⟩
      have hta : q.lv.toNat = a := by omega
      refine sc_skip ?_
      refine pn_then ?_
      refine sc_seq ?_
      refine sc_seq ?_
      refine sc_region ?_
      refine st_v (ov_field (q := _) rfl Tryd.underlying25 rfl sz3 rfl) rfl ?_
      refine st_v (ov_load1 rfl Tryd.underlying3 rfl ((hp.cells' (t := 5) rfl).at 34 (by first | rfl | omega) (qcs_get q).2.2.1)) rfl ?_
      refine st_v (ov_lss rfl rfl) rfl ?_
      refine st_v (ov_move rfl) rfl ?_
      refine st_split (j := 20) rfl (fun hb => ?_) (fun hb => ?_)
      ·
        have hb := of_decide_eq_true hb
        refine st_off (j := 3) rfl rfl rfl rfl ?_
        refine st_off (j := 3) rfl rfl rfl rfl ?_
        refine st_off (j := 3) rfl rfl rfl rfl ?_
        refine st_v (ov_pick_t rfl rfl) rfl ?_
        refine st_v (ov_move rfl) rfl ?_
        refine st_off (j := 8) rfl rfl rfl rfl ?_
        refine st_off (j := 8) rfl rfl rfl rfl ?_
        refine st_off (j := 8) rfl rfl rfl rfl ?_
        refine st_off (j := 8) rfl rfl rfl rfl ?_
        refine st_off (j := 8) rfl rfl rfl rfl ?_
        refine st_off (j := 8) rfl rfl rfl rfl ?_
        refine st_off (j := 8) rfl rfl rfl rfl ?_
        refine st_v (ov_pick_t rfl rfl) rfl ?_
        refine st_nil ?_
        refine pn_then ?_
        refine sc_true rfl ?_
        refine sc_seq ?_
        refine sc_region ?_
        refine st_v (ov_assign rfl) rfl ?_
        refine st_nil ?_
        refine pn_then ?_
        refine sc_ret ?_
        refine pr_then ?_
        refine pr_one rfl rfl ?_
        exact ⟨by unfold fitsE; rw [if_neg (by omega), if_pos (by first | exact logL_out (by omega) | (rw [hn]; exact hla.2 (by omega)))], hp.chg⟩
      ·
        have hb := of_decide_eq_false hb
        refine st_on (j := 3) rfl rfl ?_
        refine st_v (ov_field (q := _) rfl Tryd.underlying25 rfl sz3 rfl) rfl ?_
        refine st_on (j := 3) rfl rfl ?_
        refine st_v (ov_load1 rfl Tryd.underlying3 rfl ((hp.cells' (t := 5) rfl).at 34 (by first | rfl | omega) (qcs_get q).2.2.1)) rfl ?_
        refine st_on (j := 3) rfl rfl ?_
        refine st_v (ov_gtr rfl rfl) rfl ?_
        refine st_v (ov_pick_f rfl rfl) rfl ?_
        refine st_v (ov_move rfl) rfl ?_
        refine st_split (j := 25) rfl (fun hb => ?_) (fun hb => ?_)
        ·
          have hb := of_decide_eq_true hb
          refine st_off (j := 8) rfl rfl rfl rfl ?_
          refine st_off (j := 8) rfl rfl rfl rfl ?_
          refine st_off (j := 8) rfl rfl rfl rfl ?_
          refine st_off (j := 8) rfl rfl rfl rfl ?_
          refine st_off (j := 8) rfl rfl rfl rfl ?_
          refine st_off (j := 8) rfl rfl rfl rfl ?_
          refine st_off (j := 8) rfl rfl rfl rfl ?_
          refine st_v (ov_pick_t rfl rfl) rfl ?_
          refine st_nil ?_
          refine pn_then ?_
          refine sc_true rfl ?_
          refine sc_seq ?_
          refine sc_region ?_
          refine st_v (ov_assign rfl) rfl ?_
          refine st_nil ?_
          refine pn_then ?_
          refine sc_ret ?_
          refine pr_then ?_
          refine pr_one rfl rfl ?_
          exact ⟨by unfold fitsE; rw [if_neg (by omega), if_pos (by first | exact logL_out (by omega) | (rw [hn]; exact hla.2 (by omega)))], hp.chg⟩
        ·
          have hb := of_decide_eq_false hb
          obtain ⟨n, hn⟩ : ∃ n : Nat, q.len = (n : Int) := ⟨q.len.toNat, by omega⟩
          have hla := logL_and (n := n) (by omega)
          refine st_on (j := 8) rfl rfl ?_
          refine st_v (ov_field (q := _) rfl Tryd.underlying25 rfl sz3 rfl) rfl ?_
          refine st_on (j := 8) rfl rfl ?_
          refine st_v (v := .int .i64 (n : Int)) ((ov_load1 rfl Tryd.underlying3 rfl ((hp.cells' (t := 5) rfl).at 34 (by first | rfl | omega) (qcs_get q).2.2.1)).is (by rw [hn])) rfl ?_
          refine st_on (j := 8) rfl rfl ?_
          refine st_v (ov_field (q := _) rfl Tryd.underlying25 rfl sz3 rfl) rfl ?_
          refine st_on (j := 8) rfl rfl ?_
          refine st_v (v := .int .i64 (n : Int)) ((ov_load1 rfl Tryd.underlying3 rfl ((hp.cells' (t := 5) rfl).at 34 (by first | rfl | omega) (qcs_get q).2.2.1)).is (by rw [hn])) rfl ?_
          refine st_on (j := 8) rfl rfl ?_
          refine st_v (ov_sub_n (a := n) (b := 1) rfl rfl (by omega)) rfl ?_
          refine st_on (j := 8) rfl rfl ?_
          refine st_v (ov_and_n (a := n) (b := n - 1) rfl rfl (by omega)) rfl ?_
          refine st_on (j := 8) rfl rfl ?_
          refine st_v (ov_neq rfl rfl) rfl ?_
          refine st_v (ov_pick_f rfl rfl) rfl ?_
          refine st_nil ?_
          refine pn_then ?_
          refine sc_cond rfl (fun hc => ?_) (fun hc => ?_)
          ·
            have hc := of_decide_eq_true hc
            refine sc_seq ?_
            refine sc_region ?_
            refine st_v (ov_assign rfl) rfl ?_
            refine st_nil ?_
            refine pn_then ?_
            refine sc_ret ?_
            refine pr_then ?_
            refine pr_one rfl rfl ?_
            exact ⟨by unfold fitsE; rw [if_neg (by omega), if_pos (by first | exact logL_out (by omega) | (rw [hn]; exact hla.2 (by omega)))], hp.chg⟩
          ·
            have hc := of_decide_eq_false hc
            have hlog : logL q.len ≠ 0 := by rw [hn]; intro h; have := hla.1 h; omega
            refine sc_skip ?_
            refine pn_then ?_
            refine sc_seq ?_
            refine sc_seq ?_
            refine sc_draws (by kernel_rfl) (by kernel_rfl) ?_
            replace hp := hp.drew
            refine ss_v (ov_field (q := _) rfl Tryd.underlying25 rfl sz3 rfl) rfl ?_
            refine ss_v (ov_load1 rfl Tryd.underlying3 rfl ((hp.cells' (t := 5) rfl).at 33 (by first | rfl | omega) (qcs_get q).2.1)) rfl ?_
            refine ss_v (ov_lss rfl rfl) rfl ?_
            refine ss_v (ov_move rfl) rfl ?_
            refine ss_split (j := 37) rfl (fun hb => ?_) (fun hb => ?_)
            ·
              have hb := of_decide_eq_true hb
              refine ss_off (j := 3) rfl rfl rfl rfl ?_
              refine ss_off (j := 3) rfl rfl rfl rfl ?_
              refine ss_off (j := 3) rfl rfl rfl rfl ?_
              refine ss_off (j := 3) rfl rfl rfl rfl ?_
              refine ss_off (j := 3) rfl rfl rfl rfl ?_
              refine ss_off (j := 3) rfl rfl rfl rfl ?_
              refine ss_v (ov_pick_t rfl rfl) rfl ?_
              refine ss_v (ov_move rfl) rfl ?_
              refine ss_off (j := 11) rfl rfl rfl rfl ?_
              refine ss_off (j := 11) rfl rfl rfl rfl ?_
              refine ss_off (j := 11) rfl rfl rfl rfl ?_
              refine ss_off (j := 11) rfl rfl rfl rfl ?_
              refine ss_off (j := 11) rfl rfl rfl rfl ?_
              refine ss_off (j := 11) rfl rfl rfl rfl ?_
              refine ss_off (j := 11) rfl rfl rfl rfl ?_
              refine ss_off (j := 11) rfl rfl rfl rfl ?_
              refine ss_off (j := 11) rfl rfl rfl rfl ?_
              refine ss_off (j := 11) rfl rfl rfl rfl ?_
              refine ss_off (j := 11) rfl rfl rfl rfl ?_
              refine ss_v (ov_pick_t rfl rfl) rfl ?_
              refine ss_end ?_
              refine pn_then ?_
              refine sc_true rfl ?_
              refine sc_seq ?_
              refine sc_region ?_
              refine st_v (ov_assign rfl) rfl ?_
              refine st_nil ?_
              refine pn_then ?_
              refine sc_ret ?_
              refine pr_then ?_
              refine pr_one rfl rfl ?_
              exact ⟨by unfold fitsE; rw [hta, if_neg (by omega), if_neg hlog, if_pos (by first | exact .inl (by omega) | exact .inr (.inl q2) | exact .inr (.inr (by rw [← hP]; omega)))], hp.chg⟩
            ·
              have hb := of_decide_eq_false hb
              have q1 := hb
              refine ss_on (j := 3) rfl rfl ?_
              refine ss_v (ov_field (q := _) rfl Tryd.underlying25 rfl sz3 rfl) rfl ?_
              refine ss_on (j := 3) rfl rfl ?_
              refine ss_v (ov_load1 rfl Tryd.underlying3 rfl ((hp.cells' (t := 5) rfl).at 33 (by first | rfl | omega) (qcs_get q).2.1)) rfl ?_
              refine ss_on (j := 3) rfl rfl ?_
              refine ss_v (ov_field (q := _) rfl Tryd.underlying25 rfl sz3 rfl) rfl ?_
              refine ss_on (j := 3) rfl rfl ?_
              refine ss_v (ov_load1 rfl Tryd.underlying3 rfl ((hp.cells' (t := 5) rfl).at 34 (by first | rfl | omega) (qcs_get q).2.2.1)) rfl ?_
              refine ss_on (j := 3) rfl rfl ?_
              refine ss_v (ov_rem_i64 rfl rfl (by omega)) rfl ?_
              refine ss_on (j := 3) rfl rfl ?_
              refine ss_v (ov_neq rfl rfl) rfl ?_
              refine ss_v (ov_pick_f rfl rfl) rfl ?_
              refine ss_v (ov_move rfl) rfl ?_
              refine ss_split (j := 45) rfl (fun hb => ?_) (fun hb => ?_)
              ·
                have hb := of_decide_eq_true hb
                have q2 := hb
                refine ss_off (j := 11) rfl rfl rfl rfl ?_
                refine ss_off (j := 11) rfl rfl rfl rfl ?_
                refine ss_off (j := 11) rfl rfl rfl rfl ?_
                refine ss_off (j := 11) rfl rfl rfl rfl ?_
                refine ss_off (j := 11) rfl rfl rfl rfl ?_
                refine ss_off (j := 11) rfl rfl rfl rfl ?_
                refine ss_off (j := 11) rfl rfl rfl rfl ?_
                refine ss_off (j := 11) rfl rfl rfl rfl ?_
                refine ss_off (j := 11) rfl rfl rfl rfl ?_
                refine ss_off (j := 11) rfl rfl rfl rfl ?_
                refine ss_off (j := 11) rfl rfl rfl rfl ?_
                refine ss_v (ov_pick_t rfl rfl) rfl ?_
                refine ss_end ?_
                refine pn_then ?_
                refine sc_true rfl ?_
                refine sc_seq ?_
                refine sc_region ?_
                refine st_v (ov_assign rfl) rfl ?_
                refine st_nil ?_
                refine pn_then ?_
                refine sc_ret ?_
                refine pr_then ?_
                refine pr_one rfl rfl ?_
                exact ⟨by unfold fitsE; rw [hta, if_neg (by omega), if_neg hlog, if_pos (by first | exact .inl (by omega) | exact .inr (.inl q2) | exact .inr (.inr (by rw [← hP]; omega)))], hp.chg⟩
              ·
                have hb := of_decide_eq_false hb
                have q2 := hb
                refine ss_on (j := 11) rfl rfl ?_
                refine ss_v (ov_field (q := _) rfl Tryd.underlying25 rfl sz3 rfl) rfl ?_
                refine ss_on (j := 11) rfl rfl ?_
                refine ss_v (ov_load1 rfl Tryd.underlying3 rfl ((hp.cells' (t := 5) rfl).at 33 (by first | rfl | omega) (qcs_get q).2.1)) rfl ?_
                refine ss_on (j := 11) rfl rfl ?_
                refine ss_v (ov_move rfl) rfl ?_
                refine ss_on (j := 11) rfl rfl ?_
                refine ss_v (ov_field (q := _) rfl Tryd.underlying25 rfl sz3 rfl) rfl ?_
                refine ss_on (j := 11) rfl rfl ?_
                refine ss_v (ov_load1 rfl Tryd.underlying3 rfl ((hp.cells' (t := 5) rfl).at 32 (by first | rfl | omega) (qcs_get q).1)) rfl ?_
                refine ss_on (j := 11) rfl rfl ?_
                refine ss_v (v := .int .i64 ((top - a : Nat) : Int)) ((ov_sub_i64 rfl rfl (by omega)).is (by congr 1; omega)) rfl ?_
                refine ss_on (j := 11) rfl rfl ?_
                refine ss_v (ov_shl_n (a := 1) (b := top - a) rfl rfl ⟨by omega, by rw [Nat.one_shiftLeft]; have := Nat.pow_le_pow_right (show 0 < 2 by omega) (show top - a ≤ 48 by omega); omega⟩) rfl ?_
                rw [Nat.one_shiftLeft]
                obtain ⟨P, hP⟩ : ∃ P, P = 2 ^ (top - a) := ⟨_, rfl⟩
                rw [← hP]
                have hPb : P ≤ 2 ^ 48 := by rw [hP]; exact Nat.pow_le_pow_right (by omega) (by omega)
                refine ss_on (j := 11) rfl rfl ?_
                refine ss_v (ov_field (q := _) rfl Tryd.underlying25 rfl sz3 rfl) rfl ?_
                refine ss_on (j := 11) rfl rfl ?_
                refine ss_v (ov_load1 rfl Tryd.underlying3 rfl ((hp.cells' (t := 5) rfl).at 34 (by first | rfl | omega) (qcs_get q).2.2.1)) rfl ?_
                refine ss_on (j := 11) rfl rfl ?_
                refine ss_v (ov_sub_i64 rfl rfl (by omega)) rfl ?_
                refine ss_on (j := 11) rfl rfl ?_
                refine ss_v (ov_gtr rfl rfl) rfl ?_
                refine ss_v (ov_pick_f rfl rfl) rfl ?_
                refine ss_end ?_
                refine pn_then ?_
                refine sc_cond rfl (fun hc => ?_) (fun hc => ?_)
                ·
                  have hc := of_decide_eq_true hc
                  refine sc_seq ?_
                  refine sc_region ?_
                  refine st_v (ov_assign rfl) rfl ?_
                  refine st_nil ?_
                  refine pn_then ?_
                  refine sc_ret ?_
                  refine pr_then ?_
                  refine pr_one rfl rfl ?_
                  exact ⟨by unfold fitsE; rw [hta, if_neg (by omega), if_neg hlog, if_pos (by first | exact .inl (by omega) | exact .inr (.inl q2) | exact .inr (.inr (by rw [← hP]; omega)))], hp.chg⟩
                ·
                  have hc := of_decide_eq_false hc
                  have q3 := hc
                  refine sc_skip ?_
                  refine pn_then ?_
                  refine sc_seq ?_
                  refine sc_seq ?_
                  refine sc_region ?_
                  refine st_v (ov_field (q := _) rfl Tryd.underlying25 rfl sz3 rfl) rfl ?_
                  refine st_v (ov_load1 rfl Tryd.underlying3 rfl ((hp.cells' (t := 5) rfl).at 35 (by first | rfl | omega) (qcs_get q).2.2.2)) rfl ?_
                  refine st_v (ov_lss rfl rfl) rfl ?_
                  refine st_v (ov_move rfl) rfl ?_
                  refine st_split (j := 61) rfl (fun hb => ?_) (fun hb => ?_)
                  ·
                    have hb := of_decide_eq_true hb
                    refine st_off (j := 3) rfl rfl rfl rfl ?_
                    refine st_off (j := 3) rfl rfl rfl rfl ?_
                    refine st_off (j := 3) rfl rfl rfl rfl ?_
                    refine st_off (j := 3) rfl rfl rfl rfl ?_
                    refine st_off (j := 3) rfl rfl rfl rfl ?_
                    refine st_off (j := 3) rfl rfl rfl rfl ?_
                    refine st_off (j := 3) rfl rfl rfl rfl ?_
                    refine st_v (ov_pick_t rfl rfl) rfl ?_
                    refine st_nil ?_
                    refine pn_then ?_
                    refine sc_true rfl ?_
                    refine sc_seq ?_
                    refine sc_region ?_
                    refine st_v (ov_assign rfl) rfl ?_
                    refine st_nil ?_
                    refine pn_then ?_
                    refine sc_ret ?_
                    refine pr_then ?_
                    refine pr_one rfl rfl ?_
                    exact ⟨by unfold fitsE; rw [hta, if_neg (by omega), if_neg hlog, if_neg (fun h => by rcases h with h | h | h; exact q1 h; exact q2 h; rw [← hP] at h; omega), if_pos (by omega)], hp.chg⟩
                  ·
                    have hb := of_decide_eq_false hb
                    refine st_on (j := 3) rfl rfl ?_
                    refine st_v (ov_field (q := _) rfl Tryd.underlying25 rfl sz3 rfl) rfl ?_
                    refine st_on (j := 3) rfl rfl ?_
                    refine st_v (ov_load1 rfl Tryd.underlying3 rfl ((hp.cells' (t := 5) rfl).at 35 (by first | rfl | omega) (qcs_get q).2.2.2)) rfl ?_
                    refine st_on (j := 3) rfl rfl ?_
                    refine st_v (ov_move rfl) rfl ?_
                    refine st_on (j := 3) rfl rfl ?_
                    refine st_v (ov_field (q := _) rfl Tryd.underlying25 rfl sz3 rfl) rfl ?_
                    refine st_on (j := 3) rfl rfl ?_
                    refine st_v (ov_load1 rfl Tryd.underlying3 rfl ((hp.cells' (t := 5) rfl).at 32 (by first | rfl | omega) (qcs_get q).1)) rfl ?_
                    refine st_on (j := 3) rfl rfl ?_
                    refine st_v (ov_sub_i64 rfl rfl (by omega)) rfl ?_
                    refine st_on (j := 3) rfl rfl ?_
                    refine st_v (ov_geq rfl rfl) rfl ?_
                    refine st_v (ov_pick_f rfl rfl) rfl ?_
                    refine st_nil ?_
                    refine pn_then ?_
                    refine sc_cond rfl (fun hc => ?_) (fun hc => ?_)
                    ·
                      have hc := of_decide_eq_true hc
                      refine sc_seq ?_
                      refine sc_region ?_
                      refine st_v (ov_assign rfl) rfl ?_
                      refine st_nil ?_
                      refine pn_then ?_
                      refine sc_ret ?_
                      refine pr_then ?_
                      refine pr_one rfl rfl ?_
                      exact ⟨by unfold fitsE; rw [hta, if_neg (by omega), if_neg hlog, if_neg (fun h => by rcases h with h | h | h; exact q1 h; exact q2 h; rw [← hP] at h; omega), if_pos (by omega)], hp.chg⟩
                    ·
                      have hc := of_decide_eq_false hc
                      refine sc_skip ?_
                      refine pn_then ?_
                      refine sc_seq ?_
                      refine sc_region ?_
                      refine st_v (ov_assign rfl) rfl ?_
                      refine st_nil ?_
                      refine pn_then ?_
                      refine sc_ret ?_
                      refine pr_one rfl rfl ?_
                      exact ⟨by unfold fitsE; rw [hta, if_neg (by omega), if_neg hlog, if_neg (fun h => by rcases h with h | h | h; exact q1 h; exact q2 h; rw [← hP] at h; omega), if_neg (by omega)], hp.chg⟩

end Go.Proofs.YtcjnpaikmcjjlaaDoor
