/-
  The walks of Hex and Unhex.
-/
import Derived.Test.YtcpbfnbfbladoaaFacts
import Derived.Test.YtcpbfnbfbladoaaHexP
import Derived.Test.YtcpbfnbfbladoaaBytesA
namespace Go.Proofs.Ytcpbfnbfbladoaa
open Go Go.RowKit

set_option maxRecDepth 100000 in
theorem half_walk (c : UInt8) (w : World) : Calls Try.prog 26 #[B8 c] w fun e w' => e = .returned (.int .i64 (halfV c)) ∧ w' = w := by
  refine calls_in Try.func26 Try.ntmps26 rfl rfl ?_
  refine sc_seq ?_
  refine sc_region ?_
  refine st_v (ov_assign rfl) rfl ?_
  refine st_nil ?_
  refine pn_then ?_
  refine sc_seq ?_
  refine sc_block ?_
  refine sc_seq ?_
  refine sc_region ?_
  refine st_v (ov_move rfl) rfl ?_
  refine st_v (ov_geq rfl rfl) rfl ?_
  refine st_v (ov_move rfl) rfl ?_
  refine st_split (j := 6) rfl (fun hb => ?_) (fun hb => ?_)
  ·
    have hb := of_decide_eq_true hb
    refine st_on (j := 2) rfl rfl ?_
    refine st_v (ov_move rfl) rfl ?_
    refine st_on (j := 2) rfl rfl ?_
    refine st_v (ov_leq rfl rfl) rfl ?_
    refine st_v (ov_pick_t rfl rfl) rfl ?_
    refine st_v (ov_assign rfl) rfl ?_
    refine st_nil ?_
    refine pn_then ?_
    refine sc_cond rfl (fun hc => ?_) (fun hc => ?_)
    ·
      have hc := of_decide_eq_true hc
      refine sc_seq ?_
      refine sc_region ?_
      refine st_v (ov_move rfl) rfl ?_
      refine st_v (ov_sub_u8 (q := 48) rfl rfl) rfl ?_
      refine st_v (ov_conv_8_64 Try.underlying5 Try.underlying3 rfl) rfl ?_
      refine st_v (ov_assign rfl) rfl ?_
      refine st_nil ?_
      refine pn_then ?_
      refine sc_ret ?_
      refine pr_block ?_
      refine pr_then ?_
      refine pr_one rfl rfl ?_
      refine ⟨?_, rfl⟩
      unfold halfV
      split
      · first | rfl | (exfalso; omega)
      · split <;> first | rfl | (exfalso; omega)
    ·
      have hc := of_decide_eq_false hc
      refine sc_seq ?_
      refine sc_region ?_
      refine st_v (ov_move rfl) rfl ?_
      refine st_v (ov_geq rfl rfl) rfl ?_
      refine st_v (ov_move rfl) rfl ?_
      refine st_split (j := 16) rfl (fun hb => ?_) (fun hb => ?_)
      ·
        have hb := of_decide_eq_true hb
        refine st_on (j := 2) rfl rfl ?_
        refine st_v (ov_move rfl) rfl ?_
        refine st_on (j := 2) rfl rfl ?_
        refine st_v (ov_leq rfl rfl) rfl ?_
        refine st_v (ov_pick_t rfl rfl) rfl ?_
        refine st_v (ov_assign rfl) rfl ?_
        refine st_nil ?_
        refine pn_then ?_
        refine sc_cond rfl (fun hc => ?_) (fun hc => ?_)
        ·
          have hc := of_decide_eq_true hc
          refine sc_seq ?_
          refine sc_region ?_
          refine st_v (ov_move rfl) rfl ?_
          refine st_v (ov_sub_u8 (q := 97) rfl rfl) rfl ?_
          refine st_v (ov_conv_8_64 Try.underlying5 Try.underlying3 rfl) rfl ?_
          have hlt := (c - 97).toNat_lt
          refine st_v (ov_add_i64 rfl rfl (by omega)) rfl ?_
          refine st_v (ov_assign rfl) rfl ?_
          refine st_nil ?_
          refine pn_then ?_
          refine sc_ret ?_
          refine pr_block ?_
          refine pr_then ?_
          refine pr_one rfl rfl ?_
          refine ⟨?_, rfl⟩
          unfold halfV
          split
          · first | rfl | (exfalso; omega)
          · split <;> first | rfl | (exfalso; omega)
        ·
          have hc := of_decide_eq_false hc
          refine sc_skip ?_
          refine pn_block ?_
          refine pn_then ?_
          refine sc_seq ?_
          refine sc_region ?_
          refine st_v (ov_assign rfl) rfl ?_
          refine st_nil ?_
          refine pn_then ?_
          refine sc_ret ?_
          refine pr_one rfl rfl ?_
          refine ⟨?_, rfl⟩
          unfold halfV
          split
          · first | rfl | (exfalso; omega)
          · split <;> first | rfl | (exfalso; omega)
      ·
        have hb := of_decide_eq_false hb
        refine st_off (j := 2) rfl rfl rfl rfl ?_
        refine st_off (j := 2) rfl rfl rfl rfl ?_
        refine st_v (ov_pick_f rfl rfl) rfl ?_
        refine st_v (ov_assign rfl) rfl ?_
        refine st_nil ?_
        refine pn_then ?_
        refine sc_false rfl ?_
        refine sc_skip ?_
        refine pn_block ?_
        refine pn_then ?_
        refine sc_seq ?_
        refine sc_region ?_
        refine st_v (ov_assign rfl) rfl ?_
        refine st_nil ?_
        refine pn_then ?_
        refine sc_ret ?_
        refine pr_one rfl rfl ?_
        refine ⟨?_, rfl⟩
        unfold halfV
        split
        · first | rfl | (exfalso; omega)
        · split <;> first | rfl | (exfalso; omega)
  ·
    have hb := of_decide_eq_false hb
    refine st_off (j := 2) rfl rfl rfl rfl ?_
    refine st_off (j := 2) rfl rfl rfl rfl ?_
    refine st_v (ov_pick_f rfl rfl) rfl ?_
    refine st_v (ov_assign rfl) rfl ?_
    refine st_nil ?_
    refine pn_then ?_
    refine sc_false rfl ?_
    refine sc_seq ?_
    refine sc_region ?_
    refine st_v (ov_move rfl) rfl ?_
    refine st_v (ov_geq rfl rfl) rfl ?_
    refine st_v (ov_move rfl) rfl ?_
    refine st_split (j := 16) rfl (fun hb => ?_) (fun hb => ?_)
    ·
      have hb := of_decide_eq_true hb
      refine st_on (j := 2) rfl rfl ?_
      refine st_v (ov_move rfl) rfl ?_
      refine st_on (j := 2) rfl rfl ?_
      refine st_v (ov_leq rfl rfl) rfl ?_
      refine st_v (ov_pick_t rfl rfl) rfl ?_
      refine st_v (ov_assign rfl) rfl ?_
      refine st_nil ?_
      refine pn_then ?_
      refine sc_cond rfl (fun hc => ?_) (fun hc => ?_)
      ·
        have hc := of_decide_eq_true hc
        refine sc_seq ?_
        refine sc_region ?_
        refine st_v (ov_move rfl) rfl ?_
        refine st_v (ov_sub_u8 (q := 97) rfl rfl) rfl ?_
        refine st_v (ov_conv_8_64 Try.underlying5 Try.underlying3 rfl) rfl ?_
        have hlt := (c - 97).toNat_lt
        refine st_v (ov_add_i64 rfl rfl (by omega)) rfl ?_
        refine st_v (ov_assign rfl) rfl ?_
        refine st_nil ?_
        refine pn_then ?_
        refine sc_ret ?_
        refine pr_block ?_
        refine pr_then ?_
        refine pr_one rfl rfl ?_
        refine ⟨?_, rfl⟩
        unfold halfV
        split
        · first | rfl | (exfalso; omega)
        · split <;> first | rfl | (exfalso; omega)
      ·
        have hc := of_decide_eq_false hc
        refine sc_skip ?_
        refine pn_block ?_
        refine pn_then ?_
        refine sc_seq ?_
        refine sc_region ?_
        refine st_v (ov_assign rfl) rfl ?_
        refine st_nil ?_
        refine pn_then ?_
        refine sc_ret ?_
        refine pr_one rfl rfl ?_
        refine ⟨?_, rfl⟩
        unfold halfV
        split
        · first | rfl | (exfalso; omega)
        · split <;> first | rfl | (exfalso; omega)
    ·
      have hb := of_decide_eq_false hb
      refine st_off (j := 2) rfl rfl rfl rfl ?_
      refine st_off (j := 2) rfl rfl rfl rfl ?_
      refine st_v (ov_pick_f rfl rfl) rfl ?_
      refine st_v (ov_assign rfl) rfl ?_
      refine st_nil ?_
      refine pn_then ?_
      refine sc_false rfl ?_
      refine sc_skip ?_
      refine pn_block ?_
      refine pn_then ?_
      refine sc_seq ?_
      refine sc_region ?_
      refine st_v (ov_assign rfl) rfl ?_
      refine st_nil ?_
      refine pn_then ?_
      refine sc_ret ?_
      refine pr_one rfl rfl ?_
      refine ⟨?_, rfl⟩
      unfold halfV
      split
      · first | rfl | (exfalso; omega)
      · split <;> first | rfl | (exfalso; omega)

set_option maxRecDepth 100000 in
theorem value_walk (c : UInt8) (w0 : World) : Calls Try.prog 27 #[B8 c] w0 fun e w' => e = .returned (.int .i64 ((hv c : Nat) : Int)) ∧ Chg [] w0 w' := by
  refine calls_in Try.func27 Try.ntmps27 rfl rfl ?_
  have hp := Hp.start w0
  refine sc_seq ?_
  refine sc_region ?_
  refine st_v (ov_assign rfl) rfl ?_
  refine st_nil ?_
  refine pn_then ?_
  refine sc_seq ?_
  refine sc_seq ?_
  refine sc_region ?_
  refine st_v (ov_assign rfl) rfl ?_
  refine st_nil ?_
  refine pn_then ?_
  refine sc_block ?_
  refine sc_loop1 (α := Nat) 0 (fun i => [(0, B8 c), (3, .int .i64 ((i : Nat) : Int))]) (fun i w => Hp w0 [] [] [] w ∧ i ≤ 16 ∧ ∀ k, k < i → digitsL.getD k 0 ≠ c) (fun i => 16 - i) ?_ ?_ ?_
  · exact (Sub.cons rfl (Sub.cons rfl (Sub.nil _)))
  · exact ⟨hp, by omega, fun k hk => by omega⟩
  intro i w hw
  obtain ⟨hp, hi, hno⟩ := hw
  refine sc_seq ?_
  refine sc_seq ?_
  refine sc_region ?_
  refine st_v (ov_move rfl) rfl ?_
  refine st_v (ov_lss rfl rfl) rfl ?_
  refine st_nil ?_
  refine pn_then ?_
  refine sc_cond rfl (fun hc => ?_) (fun hc => ?_)
  ·
    have hc := of_decide_eq_true hc
    refine sc_skip ?_
    refine pn_then ?_
    refine sc_seq ?_
    refine sc_block ?_
    refine sc_seq ?_
    refine sc_region ?_
    refine st_v (ov_move rfl) rfl ?_
    refine st_v (ov_indexStr (s := digitsL) rfl rfl Try.underlying9 (by rw [digit_len]; omega)) rfl ?_
    refine st_v (ov_move rfl) rfl ?_
    refine st_v (ov_eql rfl rfl) rfl ?_
    refine st_nil ?_
    refine pn_then ?_
    refine sc_cond rfl (fun hc => ?_) (fun hc => ?_)
    ·
      have hc := of_decide_eq_true hc
      refine sc_seq ?_
      refine sc_region ?_
      refine st_v (ov_move rfl) rfl ?_
      refine st_v (ov_assign rfl) rfl ?_
      refine st_nil ?_
      refine pn_then ?_
      refine sc_ret ?_
      refine pr_block ?_
      refine pr_then ?_
      refine pr_then ?_
      refine pr_block ?_
      refine pr_then ?_
      refine pr_one rfl rfl ?_
      exact ⟨by rw [hv_here (by omega) hno (u8_eq hc)], hp.chg⟩
    ·
      have hc := of_decide_eq_false hc
      refine sc_skip ?_
      refine pn_block ?_
      refine pn_then ?_
      refine sc_region ?_
      refine st_v (ov_move rfl) rfl ?_
      refine st_v (ov_add_i64 rfl rfl (by omega)) rfl ?_
      refine st_v (ov_assign rfl) rfl ?_
      refine st_nil ?_
      refine pn_round1 (i + 1) ?_ ?_ ?_
      · exact (Sub.cons rfl (Sub.cons rfl (Sub.nil _)))
      · omega
      ·
        refine ⟨hp, by omega, fun k hk => ?_⟩
        rcases Nat.lt_or_ge k i with h | h
        · exact hno k h
        · obtain rfl : k = i := by omega
          intro e
          rw [← e] at hc
          exact hc rfl
  ·
    have hc := of_decide_eq_false hc
    refine sc_exit ?_
    refine pe_then ?_
    refine pe_then ?_
    refine pe_hit ?_
    refine pn_then ?_
    refine sc_seq ?_
    refine sc_region ?_
    refine st_v (ov_assign rfl) rfl ?_
    refine st_nil ?_
    refine pn_then ?_
    refine sc_ret ?_
    refine pr_one rfl rfl ?_
    obtain rfl : i = 16 := by omega
    exact ⟨by rw [hv_none hno]; rfl, hp.chg⟩

set_option maxRecDepth 100000 in
theorem hex_walk (b : List UInt8) (ao : Option Addr) (ca : Nat) (w0 : World) (h1 : Rd w0 ao (b.map B8)) (hz : b.length ≤ 1048576) :
    Calls Try.prog 18 #[.slice ao b.length ca] w0 fun e w' => e = .returned (vS (hexOf b)) ∧ Chg [] w0 w' := by
  refine calls_in Try.func18 Try.ntmps18 rfl rfl ?_
  have hp := Hp.start w0
  refine sc_seq ?_
  refine sc_region ?_
  refine st_v (ov_assign rfl) rfl ?_
  refine st_nil ?_
  refine pn_then ?_
  refine sc_seq ?_
  refine sc_region ?_
  refine st_v (ov_move rfl) rfl ?_
  refine st_v (ov_len rfl Try.underlying27 rfl) rfl ?_
  refine st_v (ov_mul_i64 rfl rfl (by omega)) rfl ?_
  refine st_make1 9 (l := 0) (c := (2 * b.length)) hp rfl rfl rfl Try.underlying27 in5 ⟨by omega, by omega, by omega, by omega, by omega⟩ rfl (fun b9 w hp => ?_)
  refine st_v (ov_assign rfl) rfl ?_
  refine st_nil ?_
  refine pn_then ?_
  refine sc_seq ?_
  refine sc_seq ?_
  refine sc_region ?_
  refine st_v (ov_move rfl) rfl ?_
  refine st_v (ov_len rfl Try.underlying27 rfl) rfl ?_
  refine st_v (ov_move rfl) rfl ?_
  refine st_nil ?_
  refine pn_then ?_
  refine sc_block ?_
  refine sc_loop2 (α := Nat) (β := Gs) 0 ⟨some b9, 2 * b.length, List.replicate (2 * b.length) (B8 0)⟩ (fun i g => [(3, .slice (adr g.ob) (2 * i) g.cap), (10, .slice ao b.length ca), (11, .int .i64 ((b.length : Nat) : Int)), (12, .int .i64 ((i : Nat) : Int))]) (fun i g w => Hp w0 [] [(9, ⟨g.ob, (hexOf (b.take i)).map B8 ++ g.sp, 5⟩)] [] w ∧ ((hexOf (b.take i)).map B8 ++ g.sp).length = g.cap * 1 ∧ i ≤ b.length) (fun i g => b.length - i) ?_ ?_ ?_
  · exact (Sub.cons rfl (Sub.cons rfl (Sub.cons rfl (Sub.cons rfl (Sub.nil _)))))
  · exact ⟨hp, by simp [hexOf], by omega⟩
  intro i g w hw
  obtain ⟨hp, hcap, hi⟩ := hw
  have hlt := hexOf_len (b.take i)
  rw [List.length_take, Nat.min_eq_left hi] at hlt
  refine sc_seq ?_
  refine sc_region ?_
  refine st_v (ov_lss rfl rfl) rfl ?_
  refine st_nil ?_
  refine pn_then ?_
  refine sc_seq ?_
  refine sc_cond rfl (fun hc => ?_) (fun hc => ?_)
  ·
    have hc := of_decide_eq_true hc
    refine sc_skip ?_
    refine pn_then ?_
    refine sc_seq ?_
    refine sc_block ?_
    refine sc_seq ?_
    refine sc_region ?_
    obtain ⟨bb1, oo1, hadr1, hcl1⟩ := (h1.chg hp.chg).pos (by simp; omega)
    refine st_v (ov_indexR hadr1 rfl rfl Try.underlying27 sz5 (by omega)) rfl ?_
    refine st_v (ov_load1 rfl Try.underlying5 rfl (Cells.elem' hcl1 (i) (by omega) 0)) rfl ?_
    refine st_v (ov_assign rfl) rfl ?_
    refine st_nil ?_
    refine pn_then ?_
    refine sc_plan (fun _ => True) (.take 0 (.take 1 (.take 2 (.take 3 (.take 4 (.take 5 (.take 6 (.one 7 (.one 8 (.take 9 .nil)))))))))) (by kernel_rfl) (by kernel_rfl) (by repeat (first | exact calm_body _ _ _ | refine calm_then ?_ | refine calm_block ?_)) ?_
    replace hp := hp.drew
    have hc8 := (b.getD i 0).toNat_lt
    refine sp_take rfl trivial (fun w hp => ov_move rfl) rfl ?_
    refine sp_take rfl trivial (fun w hp => ov_move rfl) rfl ?_
    refine sp_take rfl trivial (fun w hp => ov_shr_n (a := (b.getD i 0).toNat) (s := 4) rfl rfl ⟨rfl, by decide⟩) rfl ?_
    rw [show (b.getD i 0).toNat >>> 4 = (b.getD i 0).toNat / 16 from Nat.shiftRight_eq_div_pow _ _]
    refine sp_take rfl trivial (fun w hp => ov_indexStr (s := digitsL) rfl rfl Try.underlying9 (by rw [digit_len]; omega)) rfl ?_
    refine sp_take rfl trivial (fun w hp => ov_move rfl) rfl ?_
    refine sp_take rfl trivial (fun w hp => ov_and_u8 (q := 15) rfl rfl) rfl ?_
    rw [and15]
    refine sp_take rfl trivial (fun w hp => ov_indexStr (s := digitsL) rfl rfl Try.underlying9 (by rw [digit_len]; omega)) rfl ?_
    refine sp_one rfl ?_
    refine st_build 8 (cells := [B8 (digitsL.getD ((b.getD i 0).toNat / 16) 0), B8 (digitsL.getD ((b.getD i 0).toNat % 16) 0)]) hp rfl rfl Try.underlying27 (in2_of in5) (by decide) (by kernel_rfl) (fun b8 w hb8 hp => ?_)
    refine st_nil ?_
    refine sp_next trivial ?_
    refine sp_one rfl ?_
    refine st_append 9 g (news := [digitsL.getD ((b.getD i 0).toNat / 16) 0, digitsL.getD ((b.getD i 0).toNat % 16) 0].map B8) (m := 2) hp rfl rfl rfl rfl rfl Try.underlying27 in5 (by decide) rfl (by simp; omega) hcap (Rd.of (hp.cells' (t := 8) rfl)) rfl (one_all _) (by omega) (fun g2 w hp hcap hf9 => ?_)
    refine st_nil ?_
    refine sp_next trivial ?_
    refine sp_take rfl trivial (fun w hp => ov_assign rfl) rfl ?_
    refine sp_nil ?_
    refine pn_block ?_
    refine pn_then ?_
    refine sc_region ?_
    refine st_v (ov_add_i64 rfl rfl (by omega)) rfl ?_
    refine st_v (ov_move rfl) rfl ?_
    refine st_nil ?_
    have hi2 : i < b.length := by omega
    have hlt2 : 2 * i + 2 = 2 * (i + 1) := by omega
    rw [hlt2]
    refine pn_round2 (i + 1) g2 ?_ ?_ ?_
    · exact (Sub.cons rfl (Sub.cons rfl (Sub.cons rfl (Sub.cons rfl (Sub.nil _)))))
    · omega
    ·
      rw [hexOf_take b hi2, List.map_append]
      exact ⟨hp.sub (lsub_cons rfl (lsub_nil _)), hcap, by omega⟩
  ·
    have hc := of_decide_eq_false hc
    obtain rfl : i = b.length := by omega
    rw [List.take_length] at hp hcap hlt
    refine sc_exit ?_
    refine pe_then ?_
    refine pe_then ?_
    refine pe_hit ?_
    refine pn_then ?_
    refine sc_seq ?_
    refine sc_region ?_
    refine st_v (ov_move rfl) rfl ?_
    refine st_v (ov_convBS Try.underlying27 Try.underlying5 Try.underlying9 rfl (Rd.own (hp.own 9 _ rfl)) (by rw [hlt])) rfl ?_
    refine st_v (ov_assign rfl) rfl ?_
    refine st_nil ?_
    refine pn_then ?_
    refine sc_ret ?_
    refine pr_one rfl rfl ?_
    exact ⟨rfl, hp.chg⟩

set_option maxRecDepth 100000 in
theorem hexr_walk (b : List UInt8) (ao : Option Addr) (ca : Nat) (w0 : World) (h1 : Rd w0 ao (b.map B8)) (hz : b.length ≤ 1048576) :
    Calls Try.prog 19 #[.slice ao b.length ca] w0 fun e w' => e = .returned (vS (hexOf b)) ∧ Chg [] w0 w' := by
  refine calls_in Try.func19 Try.ntmps19 rfl rfl ?_
  have hp := Hp.start w0
  refine sc_seq ?_
  refine sc_region ?_
  refine st_v (ov_assign rfl) rfl ?_
  refine st_nil ?_
  refine pn_then ?_
  refine sc_seq ?_
  refine sc_region ?_
  refine st_v (ov_assign rfl) rfl ?_
  refine st_nil ?_
  refine pn_then ?_
  refine sc_seq ?_
  refine sc_seq ?_
  refine sc_region ?_
  refine st_v (ov_assign rfl) rfl ?_
  refine st_nil ?_
  refine pn_then ?_
  refine sc_block ?_
  refine sc_loop2 (α := Nat) (β := Gs) 0 gnil (fun i g => [(3, .slice (adr g.ob) (2 * i) g.cap), (0, .slice ao b.length ca), (4, .int .i64 ((i : Nat) : Int))]) (fun i g w => Hp w0 [] [(9, ⟨g.ob, (hexOf (b.take i)).map B8 ++ g.sp, 5⟩)] [] w ∧ ((hexOf (b.take i)).map B8 ++ g.sp).length = g.cap * 1 ∧ i ≤ b.length) (fun i g => b.length - i) ?_ ?_ ?_
  · exact (Sub.cons rfl (Sub.cons rfl (Sub.cons rfl (Sub.nil _))))
  · exact ⟨hp.nil 9 _, by simp [hexOf], by omega⟩
  intro i g w hw
  obtain ⟨hp, hcap, hi⟩ := hw
  have hlt := hexOf_len (b.take i)
  rw [List.length_take, Nat.min_eq_left hi] at hlt
  refine sc_seq ?_
  refine sc_seq ?_
  refine sc_region ?_
  refine st_v (ov_move rfl) rfl ?_
  refine st_v (ov_move rfl) rfl ?_
  refine st_v (ov_len rfl Try.underlying27 rfl) rfl ?_
  refine st_v (ov_lss rfl rfl) rfl ?_
  refine st_nil ?_
  refine pn_then ?_
  refine sc_cond rfl (fun hc => ?_) (fun hc => ?_)
  ·
    have hc := of_decide_eq_true hc
    refine sc_skip ?_
    refine pn_then ?_
    refine sc_seq ?_
    refine sc_block ?_
    refine sc_seq ?_
    refine sc_region ?_
    have hc8 := (b.getD i 0).toNat_lt
    refine st_v (ov_move rfl) rfl ?_
    refine st_v (ov_move rfl) rfl ?_
    refine st_v (ov_move rfl) rfl ?_
    obtain ⟨bb1, oo1, hadr1, hcl1⟩ := (h1.chg hp.chg).pos (by simp; omega)
    refine st_v (ov_indexR hadr1 rfl rfl Try.underlying27 sz5 (by omega)) rfl ?_
    refine st_v (ov_load1 rfl Try.underlying5 rfl (Cells.elem' hcl1 (i) (by omega) 0)) rfl ?_
    refine st_v (ov_quo_u8n (a := (b.getD i 0).toNat) (b := 16) rfl rfl ⟨by omega, by omega⟩) rfl ?_
    refine st_v (ov_indexStr (s := digitsL) rfl rfl Try.underlying9 (by rw [digit_len]; omega)) rfl ?_
    rw [Int.toNat_natCast]
    refine st_app1 9 18 g  hp rfl rfl rfl rfl rfl (by simp) rfl rfl Try.underlying27 in5 (by decide) rfl (by simp; omega) hcap rfl rfl (by simp [Value.oneCell']) (by omega) (fun g2 b18 w hp hcap hf9 => ?_)
    refine st_v (ov_assign rfl) rfl ?_
    refine st_nil ?_
    refine pn_then ?_
    refine sc_region ?_
    refine st_v (ov_move rfl) rfl ?_
    refine st_v (ov_move rfl) rfl ?_
    refine st_v (ov_move rfl) rfl ?_
    obtain ⟨bb2, oo2, hadr2, hcl2⟩ := (h1.chg hp.chg).pos (by simp; omega)
    refine st_v (ov_indexR hadr2 rfl rfl Try.underlying27 sz5 (by omega)) rfl ?_
    refine st_v (ov_load1 rfl Try.underlying5 rfl (Cells.elem' hcl2 (i) (by omega) 0)) rfl ?_
    refine st_v (ov_rem_n (a := (b.getD i 0).toNat) (b := 16) rfl rfl (by omega)) rfl ?_
    refine st_v (ov_indexStr (s := digitsL) rfl rfl Try.underlying9 (by rw [digit_len]; omega)) rfl ?_
    rw [Int.toNat_natCast]
    refine st_app1 9 27 g2  hp rfl rfl rfl rfl rfl (by simp) rfl rfl Try.underlying27 in5 (by decide) rfl (by simp; omega) hcap rfl rfl (by simp [Value.oneCell']) (by omega) (fun g3 b27 w hp hcap hf9 => ?_)
    refine st_v (ov_assign rfl) rfl ?_
    refine st_nil ?_
    refine pn_block ?_
    refine pn_then ?_
    refine sc_region ?_
    refine st_v (ov_move rfl) rfl ?_
    refine st_v (ov_add_i64 rfl rfl (by omega)) rfl ?_
    refine st_v (ov_assign rfl) rfl ?_
    refine st_nil ?_
    have hi2 : i < b.length := by omega
    have hlt2 : 2 * i + 1 + 1 = 2 * (i + 1) := by omega
    rw [hlt2]
    rw [List.append_assoc (List.map B8 (hexOf (b.take i))) [_] [_]] at hp hcap
    refine pn_round2 (i + 1) g3 ?_ ?_ ?_
    · exact (Sub.cons rfl (Sub.cons rfl (Sub.cons rfl (Sub.nil _))))
    · omega
    ·
      rw [hexOf_take b hi2, List.map_append]
      exact ⟨hp.sub (lsub_cons rfl (lsub_nil _)), hcap, by omega⟩
  ·
    have hc := of_decide_eq_false hc
    obtain rfl : i = b.length := by omega
    rw [List.take_length] at hp hcap hlt
    refine sc_exit ?_
    refine pe_then ?_
    refine pe_then ?_
    refine pe_hit ?_
    refine pn_then ?_
    refine sc_seq ?_
    refine sc_region ?_
    refine st_v (ov_move rfl) rfl ?_
    refine st_v (ov_convBS Try.underlying27 Try.underlying5 Try.underlying9 rfl (Rd.own (hp.own 9 _ rfl)) (by rw [hlt])) rfl ?_
    refine st_v (ov_assign rfl) rfl ?_
    refine st_nil ?_
    refine pn_then ?_
    refine sc_ret ?_
    refine pr_one rfl rfl ?_
    exact ⟨rfl, hp.chg⟩

set_option maxRecDepth 100000 in
theorem unhex_walk (s : List UInt8) (w0 : World) (hz : s.length ≤ 2097152) :
    Calls Try.prog 20 #[vS s] w0 fun e w' => ∃ g : Gs, e = .returned (.tuple #[.slice (adr g.ob) (unhexL s).length g.cap, .int .i64 (unhexE s)]) ∧ Made w0 w' 5 1 ((unhexL s).map B8) g := by
  refine calls_in Try.func20 Try.ntmps20 rfl rfl ?_
  have hp := Hp.start w0
  refine sc_seq ?_
  refine sc_region ?_
  refine st_v (ov_assign rfl) rfl ?_
  refine st_v (ov_assign rfl) rfl ?_
  refine st_nil ?_
  refine pn_then ?_
  refine sc_seq ?_
  refine sc_seq ?_
  refine sc_region ?_
  refine st_v (ov_move rfl) rfl ?_
  refine st_v (ov_lenS rfl Try.underlying9 rfl) rfl ?_
  refine st_v (ov_rem_i64 rfl rfl (by omega)) rfl ?_
  refine st_v (ov_neq rfl rfl) rfl ?_
  refine st_nil ?_
  refine pn_then ?_
  refine sc_cond rfl (fun hc => ?_) (fun hc => ?_)
  ·
    have hc := of_decide_eq_true hc
    refine sc_seq ?_
    refine sc_region ?_
    refine st_v (ov_assign rfl) rfl ?_
    refine st_v (ov_assign rfl) rfl ?_
    refine st_nil ?_
    refine pn_then ?_
    refine sc_ret ?_
    refine pr_then ?_
    refine pr_two rfl rfl rfl ?_
    obtain ⟨e1, e2⟩ := unhex_odd (s := s) (by omega)
    rw [e1, e2]
    exact ⟨gnil, rfl, hp.made_nil _ _⟩
  ·
    have hc := of_decide_eq_false hc
    have hev : s.length % 2 = 0 := by omega
    refine sc_skip ?_
    refine pn_then ?_
    refine sc_seq ?_
    refine sc_region ?_
    refine st_v (ov_assign rfl) rfl ?_
    refine st_nil ?_
    refine pn_then ?_
    refine sc_seq ?_
    refine sc_seq ?_
    refine sc_region ?_
    refine st_v (ov_assign rfl) rfl ?_
    refine st_nil ?_
    refine pn_then ?_
    refine sc_block ?_
    refine sc_loop2 (α := Nat) (β := Gs) 0 gnil (fun j g => [(0, vS s), (4, .slice (adr g.ob) (j) g.cap), (5, .int .i64 ((2 * j : Nat) : Int))]) (fun j g w => Hp w0 [] [(9, ⟨g.ob, (bytesTo s j).map B8 ++ g.sp, 5⟩)] [] w ∧ ((bytesTo s j).map B8 ++ g.sp).length = g.cap * 1 ∧ 2 * j ≤ s.length ∧ ∀ k, k < 2 * j → okD s k) (fun j g => s.length - 2 * j) ?_ ?_ ?_
    · exact (Sub.cons rfl (Sub.cons rfl (Sub.cons rfl (Sub.nil _))))
    · exact ⟨hp.nil 9 _, by simp [bytesTo], by omega, fun k hk => by omega⟩
    intro j g w hw
    obtain ⟨hp, hcap, hj, hall⟩ := hw
    have hlen := bytesTo_len s j
    refine sc_seq ?_
    refine sc_seq ?_
    refine sc_region ?_
    refine st_v (ov_move rfl) rfl ?_
    refine st_v (ov_move rfl) rfl ?_
    refine st_v (ov_lenS rfl Try.underlying9 rfl) rfl ?_
    refine st_v (ov_lss rfl rfl) rfl ?_
    refine st_nil ?_
    refine pn_then ?_
    refine sc_cond rfl (fun hc => ?_) (fun hc => ?_)
    ·
      have hc := of_decide_eq_true hc
      refine sc_skip ?_
      refine pn_then ?_
      refine sc_seq ?_
      refine sc_block ?_
      refine sc_seq ?_
      refine sc_draws (by kernel_rfl) (by kernel_rfl) ?_
      replace hp := hp.drew
      refine ss_v (ov_move rfl) rfl ?_
      refine ss_v (ov_move rfl) rfl ?_
      refine ss_v (ov_indexStr (s := s) rfl rfl Try.underlying9 (by omega)) rfl ?_
      rw [show ((2 * j : Nat) : Int).toNat = 2 * j by omega]
      refine ss_call pl26 rfl rfl rfl (half_walk _ _) ?_
      refine ss_v (ov_move rfl) rfl ?_
      refine ss_v (ov_move rfl) rfl ?_
      refine ss_v (ov_add_i64 rfl rfl (by omega)) rfl ?_
      refine ss_v (ov_indexStr (s := s) rfl rfl Try.underlying9 (by omega)) rfl ?_
      rw [show (((2 * j : Nat) : Int) + 1).toNat = 2 * j + 1 by omega]
      refine ss_call pl26 rfl rfl rfl (half_walk _ _) ?_
      refine ss_v (ov_assign rfl) rfl ?_
      refine ss_v (ov_assign rfl) rfl ?_
      refine ss_end ?_
      refine pn_then ?_
      refine sc_seq ?_
      refine sc_seq ?_
      refine sc_region ?_
      refine st_v (ov_move rfl) rfl ?_
      refine st_v (ov_lss rfl rfl) rfl ?_
      refine st_v (ov_move rfl) rfl ?_
      refine st_split (j := 29) rfl (fun hb => ?_) (fun hb => ?_)
      ·
        have hb := of_decide_eq_true hb
        refine st_off (j := 2) rfl rfl rfl rfl ?_
        refine st_off (j := 2) rfl rfl rfl rfl ?_
        refine st_v (ov_pick_t rfl rfl) rfl ?_
        refine st_nil ?_
        refine pn_then ?_
        refine sc_true rfl ?_
        refine sc_seq ?_
        refine sc_region ?_
        refine st_v (ov_assign rfl) rfl ?_
        refine st_v (ov_assign rfl) rfl ?_
        refine st_nil ?_
        refine pn_then ?_
        refine sc_ret ?_
        refine pr_then ?_
        refine pr_block ?_
        refine pr_then ?_
        refine pr_then ?_
        refine pr_block ?_
        refine pr_then ?_
        refine pr_two rfl rfl rfl ?_
        obtain ⟨e1, e2⟩ := unhex_bad (s := s) (k := 2 * j) (by omega) (half_bad hb)
        rw [e1, e2]
        exact ⟨gnil, rfl, hp.made_nil _ _⟩
      ·
        have hb := of_decide_eq_false hb
        refine st_on (j := 2) rfl rfl ?_
        refine st_v (ov_move rfl) rfl ?_
        refine st_on (j := 2) rfl rfl ?_
        refine st_v (ov_lss rfl rfl) rfl ?_
        refine st_v (ov_pick_f rfl rfl) rfl ?_
        refine st_nil ?_
        refine pn_then ?_
        refine sc_cond rfl (fun hc => ?_) (fun hc => ?_)
        ·
          have hc := of_decide_eq_true hc
          refine sc_seq ?_
          refine sc_region ?_
          refine st_v (ov_assign rfl) rfl ?_
          refine st_v (ov_assign rfl) rfl ?_
          refine st_nil ?_
          refine pn_then ?_
          refine sc_ret ?_
          refine pr_then ?_
          refine pr_block ?_
          refine pr_then ?_
          refine pr_then ?_
          refine pr_block ?_
          refine pr_then ?_
          refine pr_two rfl rfl rfl ?_
          obtain ⟨e1, e2⟩ := unhex_bad (s := s) (k := 2 * j + 1) (by omega) (half_bad hc)
          rw [e1, e2]
          exact ⟨gnil, rfl, hp.made_nil _ _⟩
        ·
          have hc := of_decide_eq_false hc
          refine sc_skip ?_
          refine pn_then ?_
          refine sc_region ?_
          obtain ⟨ok1, ek1⟩ := half_ok hb
          obtain ⟨ok2, ek2⟩ := half_ok hc
          rw [ek1, ek2]
          have hl1 : hv (s.getD (2 * j) 0) < 16 := ok1
          have hl2 : hv (s.getD (2 * j + 1) 0) < 16 := ok2
          refine st_v (ov_move rfl) rfl ?_
          refine st_v (ov_move rfl) rfl ?_
          refine st_v (shl_four hl1 ▸ ov_shl rfl rfl (by omega)) rfl ?_
          refine st_v (ov_move rfl) rfl ?_
          refine st_v (or_four hl1 hl2 ▸ ov_or rfl rfl) rfl ?_
          refine st_v (ov_conv_64_8 Try.underlying3 Try.underlying5 rfl) rfl ?_
          rw [byte_of (n := hv (s.getD (2 * j) 0) * 16 + hv (s.getD (2 * j + 1) 0)) (by omega)]
          refine st_app1 9 39 g  hp rfl rfl rfl rfl rfl (by simp) rfl rfl Try.underlying27 in5 (by decide) rfl (by simp; omega) hcap rfl rfl (by simp [Value.oneCell']) (by omega) (fun g2 b39 w hp hcap hf9 => ?_)
          refine st_v (ov_assign rfl) rfl ?_
          refine st_nil ?_
          refine pn_block ?_
          refine pn_then ?_
          refine sc_region ?_
          refine st_v (ov_move rfl) rfl ?_
          refine st_v (ov_add_i64 rfl rfl (by omega)) rfl ?_
          refine st_v (ov_assign rfl) rfl ?_
          refine st_nil ?_
          refine pn_round2 (j + 1) g2 ?_ ?_ ?_
          · exact (Sub.cons rfl (Sub.cons rfl (Sub.cons rfl (Sub.nil _))))
          · omega
          ·
            refine ⟨by rw [bytesTo_succ, List.map_append]; exact hp.sub (lsub_cons rfl (lsub_nil _)), by rw [bytesTo_succ, List.map_append]; exact hcap, by omega, fun k hk => ?_⟩
            rcases Nat.lt_or_ge k (2 * j) with h | h
            · exact hall k h
            · rcases Nat.eq_or_lt_of_le h with h | h
              · rw [← h]; exact ok1
              · obtain rfl : k = 2 * j + 1 := by omega
                exact ok2
    ·
      have hc := of_decide_eq_false hc
      obtain ⟨e1, e2⟩ := unhex_good (s := s) hev fun k hk => hall k (by omega)
      obtain rfl : j = s.length / 2 := by omega
      refine sc_exit ?_
      refine pe_then ?_
      refine pe_then ?_
      refine pe_hit ?_
      refine pn_then ?_
      refine sc_seq ?_
      refine sc_region ?_
      refine st_v (ov_move rfl) rfl ?_
      refine st_v (ov_assign rfl) rfl ?_
      refine st_v (ov_assign rfl) rfl ?_
      refine st_nil ?_
      refine pn_then ?_
      refine sc_ret ?_
      refine pr_two rfl rfl rfl ?_
      rw [e1, e2, hlen]
      exact ⟨g, rfl, hp.made (t := 9) rfl hcap⟩

set_option maxRecDepth 100000 in
theorem unhexr_walk (s : List UInt8) (w0 : World) (hz : s.length ≤ 2097152) :
    Calls Try.prog 21 #[vS s] w0 fun e w' => ∃ g : Gs, e = .returned (.tuple #[.slice (adr g.ob) (unhexL s).length g.cap, .int .i64 (unhexE s)]) ∧ Made w0 w' 5 1 ((unhexL s).map B8) g := by
  refine calls_in Try.func21 Try.ntmps21 rfl rfl ?_
  have hp := Hp.start w0
  refine sc_seq ?_
  refine sc_region ?_
  refine st_v (ov_assign rfl) rfl ?_
  refine st_v (ov_assign rfl) rfl ?_
  refine st_nil ?_
  refine pn_then ?_
  refine sc_seq ?_
  refine sc_region ?_
  refine st_v (ov_assign rfl) rfl ?_
  refine st_nil ?_
  refine pn_then ?_
  refine sc_seq ?_
  refine sc_seq ?_
  refine sc_region ?_
  refine st_v (ov_assign rfl) rfl ?_
  refine st_nil ?_
  refine pn_then ?_
  refine sc_block ?_
  refine sc_loop2 (α := Nat) (β := Gs) 0 gnil (fun i g => [(0, vS s), (4, .slice (adr g.ob) ((i + 1) / 2) g.cap), (5, .int .i64 ((i : Nat) : Int))]) (fun i g w => Hp w0 [] [(9, ⟨g.ob, (outAt s i).map B8 ++ g.sp, 5⟩)] [] w ∧ ((outAt s i).map B8 ++ g.sp).length = g.cap * 1 ∧ i ≤ s.length ∧ ∀ k, k < i → okD s k) (fun i g => s.length - i) ?_ ?_ ?_
  · exact (Sub.cons rfl (Sub.cons rfl (Sub.cons rfl (Sub.nil _))))
  · exact ⟨hp.nil 9 _, by simp [outAt, bytesTo], by omega, fun k hk => by omega⟩
  intro i g w hw
  obtain ⟨hp, hcap, hi, hall⟩ := hw
  have hlen := outAt_len s i
  refine sc_seq ?_
  refine sc_seq ?_
  refine sc_region ?_
  refine st_v (ov_move rfl) rfl ?_
  refine st_v (ov_move rfl) rfl ?_
  refine st_v (ov_lenS rfl Try.underlying9 rfl) rfl ?_
  refine st_v (ov_lss rfl rfl) rfl ?_
  refine st_nil ?_
  refine pn_then ?_
  refine sc_cond rfl (fun hc => ?_) (fun hc => ?_)
  ·
    have hc := of_decide_eq_true hc
    refine sc_skip ?_
    refine pn_then ?_
    refine sc_seq ?_
    refine sc_block ?_
    refine sc_seq ?_
    refine sc_region ?_
    refine st_v (ov_move rfl) rfl ?_
    refine st_v (ov_move rfl) rfl ?_
    refine st_v (ov_indexStr (s := s) rfl rfl Try.underlying9 (by omega)) rfl ?_
    rw [Int.toNat_natCast]
    refine st_call pl27 rfl rfl rfl (value_walk _ _) ?_
    rintro _ w ⟨rfl, hch⟩
    refine ⟨_, rfl, ?_⟩
    replace hp := hp.call hch
    have hvle := hv_le (s.getD i 0)
    refine st_v (ov_assign rfl) rfl ?_
    refine st_nil ?_
    refine pn_then ?_
    refine sc_seq ?_
    refine sc_seq ?_
    refine sc_region ?_
    refine st_v (ov_move rfl) rfl ?_
    refine st_v (ov_eql rfl rfl) rfl ?_
    refine st_nil ?_
    refine pn_then ?_
    refine sc_cond rfl (fun hc => ?_) (fun hc => ?_)
    ·
      have hc := of_decide_eq_true hc
      refine sc_seq ?_
      refine sc_region ?_
      refine st_v (ov_assign rfl) rfl ?_
      refine st_v (ov_assign rfl) rfl ?_
      refine st_nil ?_
      refine pn_then ?_
      refine sc_ret ?_
      refine pr_then ?_
      refine pr_block ?_
      refine pr_then ?_
      refine pr_then ?_
      refine pr_block ?_
      refine pr_then ?_
      refine pr_two rfl rfl rfl ?_
      obtain ⟨e1, e2⟩ := unhex_bad (s := s) (k := i) (by omega) (by unfold okD; omega)
      rw [e1, e2]
      exact ⟨gnil, rfl, hp.made_nil _ _⟩
    ·
      have hc := of_decide_eq_false hc
      have okh : okD s i := by unfold okD; omega
      refine sc_skip ?_
      refine pn_then ?_
      refine sc_seq ?_
      refine sc_region ?_
      refine st_v (ov_move rfl) rfl ?_
      refine st_v (ov_rem_i64 rfl rfl (by omega)) rfl ?_
      refine st_v (ov_eql rfl rfl) rfl ?_
      refine st_nil ?_
      refine pn_then ?_
      refine sc_cond rfl (fun hc => ?_) (fun hc => ?_)
      ·
        have hc := of_decide_eq_true hc
        refine sc_region ?_
        refine st_v (ov_move rfl) rfl ?_
        refine st_v (ov_move rfl) rfl ?_
        refine st_v (ov_conv_64_8 Try.underlying3 Try.underlying5 rfl) rfl ?_
        rw [byte_of (n := hv (s.getD i 0)) (by omega)]
        refine st_v (ov_mul_u8 (q := 16) rfl rfl) rfl ?_
        refine st_app1 9 26 g  hp rfl rfl rfl rfl rfl (by simp) rfl rfl Try.underlying27 in5 (by decide) rfl (by simp; omega) hcap rfl rfl (by simp [Value.oneCell']) (by omega) (fun g2 b26 w hp hcap hf9 => ?_)
        refine st_v (ov_assign rfl) rfl ?_
        refine st_nil ?_
        refine pn_block ?_
        refine pn_then ?_
        refine sc_region ?_
        refine st_v (ov_move rfl) rfl ?_
        refine st_v (ov_add_i64 rfl rfl (by omega)) rfl ?_
        refine st_v (ov_assign rfl) rfl ?_
        refine st_nil ?_
        have hlt2 : (i + 1) / 2 + 1 = (i + 1 + 1) / 2 := by omega
        rw [hlt2]
        refine pn_round2 (i + 1) g2 ?_ ?_ ?_
        · exact (Sub.cons rfl (Sub.cons rfl (Sub.cons rfl (Sub.nil _))))
        · omega
        ·
          have e9 : (outAt s (i + 1)).map B8 = (outAt s i).map B8 ++ [B8 (UInt8.ofNat (hv (s.getD i 0)) * 16)] := by rw [outAt_even s i (by omega)]; simp
          rw [e9]
          refine ⟨hp.sub (lsub_cons rfl (lsub_nil _)), hcap, by omega, (fun k hk => okd_next hall okh k hk)⟩
      ·
        have hc := of_decide_eq_false hc
        refine sc_region ?_
        obtain ⟨bb, hbb⟩ := Hp.some (hp.own 9 _ rfl) (by simp; omega)
        rw [hbb] at hp ⊢
        refine st_v (ov_move rfl) rfl ?_
        refine st_v (ov_move rfl) rfl ?_
        refine st_v (ov_quo_i64 rfl rfl (by omega)) rfl ?_
        refine st_v (ov_move rfl) rfl ?_
        refine st_v (ov_move rfl) rfl ?_
        refine st_v (ov_quo_i64 rfl rfl (by omega)) rfl ?_
        refine st_v (ov_indexS (bl := bb) (o := 0) rfl rfl Try.underlying27 sz5 (by omega)) rfl ?_
        refine st_v (ov_load1 (v := B8 ((outAt s i).getD (i / 2) 0)) rfl Try.underlying5 rfl (Cells.elem' (hp.cells' (t := 9) rfl).left (i / 2) (by omega) 0)) rfl ?_
        refine st_v (ov_move rfl) rfl ?_
        refine st_v (ov_conv_64_8 Try.underlying3 Try.underlying5 rfl) rfl ?_
        rw [byte_of (n := hv (s.getD i 0)) (by omega)]
        refine st_v (ov_add_u8 rfl rfl) rfl ?_
        refine st_v (ov_indexS (bl := bb) (o := 0) rfl rfl Try.underlying27 sz5 (by omega)) rfl ?_
        refine st_store1 9 hp rfl rfl rfl rfl sz5 (by simp; omega) (fun w hp => ?_)
        have eset : ∀ v : UInt8, ((outAt s i).map B8 ++ g.sp).set (0 + ((i : Int) / 2).toNat * 1) (B8 v) = ((outAt s i).set (i / 2) v).map B8 ++ g.sp := fun v => by
          rw [show 0 + ((i : Int) / 2).toNat * 1 = i / 2 by omega, List.set_append_left _ _ (by simp; omega), List.map_set]
        rw [eset, ← hbb] at hp
        rw [← hbb]
        refine st_nil ?_
        refine pn_block ?_
        refine pn_then ?_
        refine sc_region ?_
        refine st_v (ov_move rfl) rfl ?_
        refine st_v (ov_add_i64 rfl rfl (by omega)) rfl ?_
        refine st_v (ov_assign rfl) rfl ?_
        refine st_nil ?_
        have hlt2 : (i + 1) / 2 = (i + 1 + 1) / 2 := by omega
        rw [hlt2]
        refine pn_round2 (i + 1) g ?_ ?_ ?_
        · exact (Sub.cons rfl (Sub.cons rfl (Sub.cons rfl (Sub.nil _))))
        · omega
        ·
          rw [outAt_odd s i (by omega) (hall (i - 1) (by omega))] at hp
          refine ⟨hp.sub (lsub_cons rfl (lsub_nil _)), by rw [← outAt_odd s i (by omega) (hall (i - 1) (by omega))]; simpa using hcap, by omega, (fun k hk => okd_next hall okh k hk)⟩
  ·
    have hc := of_decide_eq_false hc
    refine sc_exit ?_
    refine pe_then ?_
    refine pe_then ?_
    refine pe_hit ?_
    refine pn_then ?_
    refine sc_seq ?_
    refine sc_seq ?_
    refine sc_region ?_
    refine st_v (ov_move rfl) rfl ?_
    refine st_v (ov_lenS rfl Try.underlying9 rfl) rfl ?_
    refine st_v (ov_rem_i64 rfl rfl (by omega)) rfl ?_
    refine st_v (ov_neq rfl rfl) rfl ?_
    refine st_nil ?_
    refine pn_then ?_
    refine sc_cond rfl (fun hc => ?_) (fun hc => ?_)
    ·
      have hc := of_decide_eq_true hc
      refine sc_seq ?_
      refine sc_region ?_
      refine st_v (ov_assign rfl) rfl ?_
      refine st_v (ov_assign rfl) rfl ?_
      refine st_nil ?_
      refine pn_then ?_
      refine sc_ret ?_
      refine pr_then ?_
      refine pr_two rfl rfl rfl ?_
      obtain ⟨e1, e2⟩ := unhex_odd (s := s) (by omega)
      rw [e1, e2]
      exact ⟨gnil, rfl, hp.made_nil _ _⟩
    ·
      have hc := of_decide_eq_false hc
      refine sc_skip ?_
      refine pn_then ?_
      refine sc_seq ?_
      refine sc_region ?_
      refine st_v (ov_move rfl) rfl ?_
      refine st_v (ov_assign rfl) rfl ?_
      refine st_v (ov_assign rfl) rfl ?_
      refine st_nil ?_
      refine pn_then ?_
      refine sc_ret ?_
      refine pr_two rfl rfl rfl ?_
      obtain ⟨e1, e2⟩ := unhex_good (s := s) (by omega) fun k hk => hall k (by omega)
      obtain rfl : i = s.length := by omega
      have eo : outAt s s.length = bytesTo s (s.length / 2) := outAt_end s (by omega)
      rw [e1, e2, ← eo, hlen]
      exact ⟨g, rfl, hp.made (t := 9) rfl hcap⟩

set_option maxRecDepth 100000 in
theorem law_hexes (b s : List UInt8) (ao : Option Addr) (ca : Nat) (w0 : World) (h1 : Rd w0 ao (b.map B8)) (hz : b.length ≤ 1048576) (hs : s.length ≤ 1048576) :
    Calls Try.prog 7 #[.slice ao b.length ca, vS s] w0 fun e w' => e = .returned (.bool true) ∧ Chg [] w0 w' := by
  refine calls_in Try.func7 Try.ntmps7 rfl rfl ?_
  have hp := Hp.start w0
  have hxl := hexOf_len b
  obtain ⟨hb1, hb2⟩ := hex_back b
  have hul := unhexL_len s
  refine sc_seq ?_
  refine sc_region ?_
  refine st_v (ov_assign rfl) rfl ?_
  refine st_nil ?_
  refine pn_then ?_
  refine sc_seq ?_
  refine sc_region ?_
  refine st_v (ov_move rfl) rfl ?_
  refine st_call pl17 rfl rfl rfl (copied_walk b ao ca _ h1 (by omega)) ?_
  rintro _ w ⟨g5, rfl, hmade⟩
  refine ⟨_, rfl, ?_⟩
  replace hp := hp.call_made 5 hmade
  clear hmade
  refine st_v (ov_assign rfl) rfl ?_
  refine st_nil ?_
  refine pn_then ?_
  refine sc_seq ?_
  refine sc_region ?_
  refine st_v (ov_move rfl) rfl ?_
  refine st_call pl18 rfl rfl rfl (hex_walk b _ _ _ (Rd.own (hp.own 5 _ rfl)) (by omega)) ?_
  rintro _ w ⟨rfl, hch⟩
  refine ⟨_, rfl, ?_⟩
  replace hp := hp.call hch
  refine st_v (ov_assign rfl) rfl ?_
  refine st_nil ?_
  refine pn_then ?_
  refine sc_seq ?_
  refine sc_region ?_
  refine st_v (ov_move rfl) rfl ?_
  refine st_call pl19 rfl rfl rfl (hexr_walk b _ _ _ (h1.chg hp.chg) (by omega)) ?_
  rintro _ w ⟨rfl, hch⟩
  refine ⟨_, rfl, ?_⟩
  replace hp := hp.call hch
  refine st_v (ov_assign rfl) rfl ?_
  refine st_nil ?_
  refine pn_then ?_
  refine sc_seq ?_
  refine sc_seq ?_
  refine sc_region ?_
  refine st_v (ov_move rfl) rfl ?_
  refine st_v (ov_move rfl) rfl ?_
  refine st_v (ov_neqStr rfl rfl) rfl ?_
  refine st_v (ov_move rfl) rfl ?_
  refine st_split (j := 23) rfl (fun hb => ?_) (fun hb => ?_)
  ·
    have hb := of_decide_eq_true hb
    refine st_off (j := 3) rfl rfl rfl rfl ?_
    refine st_off (j := 3) rfl rfl rfl rfl ?_
    refine st_off (j := 3) rfl rfl rfl rfl ?_
    refine st_off (j := 3) rfl rfl rfl rfl ?_
    refine st_v (ov_pick_t rfl rfl) rfl ?_
    refine st_nil ?_
    refine pn_then ?_
    refine sc_true rfl ?_
    refine sc_seq ?_
    refine sc_region ?_
    refine st_v (ov_assign rfl) rfl ?_
    refine st_nil ?_
    refine pn_then ?_
    refine sc_ret ?_
    refine pr_then ?_
    refine pr_one rfl rfl ?_
    exact absurd rfl hb
  ·
    have hb := of_decide_eq_false hb
    refine st_on (j := 3) rfl rfl ?_
    refine st_v (ov_move rfl) rfl ?_
    refine st_on (j := 3) rfl rfl ?_
    refine st_v (ov_move rfl) rfl ?_
    refine st_on (j := 3) rfl rfl ?_
    refine st_call pl12 rfl rfl rfl (same_walk b b _ _ _ _ _ (Rd.own (hp.own 5 _ rfl)) (h1.chg hp.chg) (by omega)) ?_
    rintro _ w ⟨rfl, hch⟩
    refine ⟨_, rfl, ?_⟩
    replace hp := hp.call hch
    refine st_on (j := 3) rfl rfl ?_
    refine st_v (ov_not rfl) rfl ?_
    refine st_v (ov_pick_f rfl rfl) rfl ?_
    refine st_nil ?_
    refine pn_then ?_
    refine sc_cond rfl (fun hc => ?_) (fun hc => ?_)
    · exact absurd hc (by simp)
    skip
    refine sc_skip ?_
    refine pn_then ?_
    refine sc_seq ?_
    refine sc_region ?_
    refine st_v (ov_move rfl) rfl ?_
    refine st_call pl20 rfl rfl rfl (unhex_walk (hexOf b) _ (by omega)) ?_
    rintro _ w ⟨g8, rfl, hmade⟩
    refine ⟨_, rfl, ?_⟩
    replace hp := hp.call_made 8 hmade
    clear hmade
    refine st_v (ov_move rfl) rfl ?_
    rw [hb2]
    refine st_v (ov_extract rfl rfl) rfl ?_
    refine st_v (ov_extract rfl rfl) rfl ?_
    refine st_v (ov_assign rfl) rfl ?_
    refine st_v (ov_assign rfl) rfl ?_
    refine st_nil ?_
    refine pn_then ?_
    refine sc_seq ?_
    refine sc_seq ?_
    refine sc_region ?_
    refine st_v (ov_move rfl) rfl ?_
    refine st_v (ov_neq rfl rfl) rfl ?_
    refine st_v (ov_move rfl) rfl ?_
    refine st_split (j := 36) rfl (fun hb => ?_) (fun hb => ?_)
    ·
      have hb := of_decide_eq_true hb
      refine st_off (j := 2) rfl rfl rfl rfl ?_
      refine st_off (j := 2) rfl rfl rfl rfl ?_
      refine st_off (j := 2) rfl rfl rfl rfl ?_
      refine st_off (j := 2) rfl rfl rfl rfl ?_
      refine st_v (ov_pick_t rfl rfl) rfl ?_
      refine st_nil ?_
      refine pn_then ?_
      refine sc_true rfl ?_
      refine sc_seq ?_
      refine sc_region ?_
      refine st_v (ov_assign rfl) rfl ?_
      refine st_nil ?_
      refine pn_then ?_
      refine sc_ret ?_
      refine pr_then ?_
      refine pr_one rfl rfl ?_
      exact absurd rfl hb
    ·
      have hb := of_decide_eq_false hb
      refine st_on (j := 2) rfl rfl ?_
      refine st_v (ov_move rfl) rfl ?_
      refine st_on (j := 2) rfl rfl ?_
      refine st_v (ov_move rfl) rfl ?_
      refine st_on (j := 2) rfl rfl ?_
      refine st_call pl12 rfl rfl rfl (same_walk (unhexL (hexOf b)) b _ _ _ _ _ (Rd.own (hp.own 8 _ rfl)) (h1.chg hp.chg) (by rw [hb1]; omega)) ?_
      rintro _ w ⟨rfl, hch⟩
      refine ⟨_, rfl, ?_⟩
      replace hp := hp.call hch
      refine st_on (j := 2) rfl rfl ?_
      refine st_v (ov_not rfl) rfl ?_
      refine st_v (ov_pick_f rfl rfl) rfl ?_
      refine st_nil ?_
      refine pn_then ?_
      refine sc_cond rfl (fun hc => ?_) (fun hc => ?_)
      · exact absurd hc (by rw [hb1]; simp)
      skip
      refine sc_skip ?_
      refine pn_then ?_
      refine sc_seq ?_
      refine sc_region ?_
      refine st_v (ov_move rfl) rfl ?_
      refine st_call pl20 rfl rfl rfl (unhex_walk (s) _ (by omega)) ?_
      rintro _ w ⟨g6, rfl, hmade⟩
      refine ⟨_, rfl, ?_⟩
      replace hp := hp.call_made 6 hmade
      clear hmade
      refine st_v (ov_move rfl) rfl ?_
      refine st_v (ov_extract rfl rfl) rfl ?_
      refine st_v (ov_extract rfl rfl) rfl ?_
      refine st_v (ov_assign rfl) rfl ?_
      refine st_v (ov_assign rfl) rfl ?_
      refine st_nil ?_
      refine pn_then ?_
      refine sc_seq ?_
      refine sc_region ?_
      refine st_v (ov_move rfl) rfl ?_
      refine st_call pl21 rfl rfl rfl (unhexr_walk (s) _ (by omega)) ?_
      rintro _ w ⟨g7, rfl, hmade⟩
      refine ⟨_, rfl, ?_⟩
      replace hp := hp.call_made 7 hmade
      clear hmade
      refine st_v (ov_move rfl) rfl ?_
      refine st_v (ov_extract rfl rfl) rfl ?_
      refine st_v (ov_extract rfl rfl) rfl ?_
      refine st_v (ov_assign rfl) rfl ?_
      refine st_v (ov_assign rfl) rfl ?_
      refine st_nil ?_
      refine pn_then ?_
      refine sc_seq ?_
      refine sc_region ?_
      refine st_v (ov_move rfl) rfl ?_
      refine st_v (ov_move rfl) rfl ?_
      refine st_v (ov_eql rfl rfl) rfl ?_
      refine st_v (ov_move rfl) rfl ?_
      refine st_split (j := 55) rfl (fun hb => ?_) (fun hb => ?_)
      ·
        have hb := of_decide_eq_true hb
        refine st_on (j := 3) rfl rfl ?_
        refine st_v (ov_move rfl) rfl ?_
        refine st_on (j := 3) rfl rfl ?_
        refine st_v (ov_move rfl) rfl ?_
        refine st_on (j := 3) rfl rfl ?_
        refine st_call pl12 rfl rfl rfl (same_walk (unhexL s) (unhexL s) _ _ _ _ _ (Rd.own (hp.own 6 _ rfl)) (Rd.own (hp.own 7 _ rfl)) (by omega)) ?_
        rintro _ w ⟨rfl, hch⟩
        refine ⟨_, rfl, ?_⟩
        replace hp := hp.call hch
        refine st_v (ov_pick_t rfl rfl) rfl ?_
        refine st_v (ov_assign rfl) rfl ?_
        refine st_nil ?_
        refine pn_then ?_
        refine sc_ret ?_
        refine pr_one rfl rfl ?_
        exact ⟨by simp, hp.chg⟩
      ·
        have hb := of_decide_eq_false hb
        refine st_off (j := 3) rfl rfl rfl rfl ?_
        refine st_off (j := 3) rfl rfl rfl rfl ?_
        refine st_off (j := 3) rfl rfl rfl rfl ?_
        refine st_v (ov_pick_f rfl rfl) rfl ?_
        refine st_v (ov_assign rfl) rfl ?_
        refine st_nil ?_
        refine pn_then ?_
        refine sc_ret ?_
        refine pr_one rfl rfl ?_
        exact absurd rfl hb

end Go.Proofs.Ytcpbfnbfbladoaa
