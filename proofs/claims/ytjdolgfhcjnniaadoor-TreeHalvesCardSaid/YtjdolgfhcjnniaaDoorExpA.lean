/-
  The walks of both Expands.
-/
import Derived.Test.YtjdolgfhcjnniaaDoorFacts
import Derived.Test.YtjdolgfhcjnniaaDoorExpP
namespace Go.Proofs.YtjdolgfhcjnniaaDoor
open Go Go.RowKit

set_option maxRecDepth 100000 in
theorem rot_walk (x : UInt32) (k : Int) (s : Nat) (hs : Nat.blt s 32 = true) (hs2 : Nat.blt (32 - s) 32 = true) (hk : IntKind.u64.wrap ((BitVec.ofInt IntKind.u64.bits (IntKind.u64.wrap k) &&& BitVec.ofInt IntKind.u64.bits 31).toNat : Int) = (s : Int)) (w : World) :
    Calls Tryd.prog 106 #[B32 x, .int .i64 k] w fun e w' => e = .returned (B32 (rotl x s)) ∧ w' = w := by
  refine calls_in Tryd.func106 Tryd.ntmps106 rfl rfl ?_
  refine sc_seq ?_
  refine sc_region ?_
  refine st_v (ov_assign rfl) rfl ?_
  refine st_nil ?_
  refine pn_then ?_
  refine sc_seq ?_
  refine sc_region ?_
  refine st_v (ov_move rfl) rfl ?_
  refine st_v (ov_conv Tryd.underlying3 Tryd.underlying120 rfl) rfl ?_
  refine st_v (hk ▸ ov_and rfl rfl) rfl ?_
  refine st_v (ov_assign rfl) rfl ?_
  refine st_nil ?_
  refine pn_then ?_
  refine sc_seq ?_
  refine sc_region ?_
  refine st_v (ov_move rfl) rfl ?_
  refine st_v (ov_move rfl) rfl ?_
  refine st_v (ov_shl_u32 (s := s) rfl rfl hs) rfl ?_
  refine st_v (ov_move rfl) rfl ?_
  refine st_v (ov_move rfl) rfl ?_
  refine st_v (wrap_sub32 hs ▸ ov_sub rfl rfl) rfl ?_
  refine st_v (ov_shr_u32 (s := 32 - s) rfl rfl hs2) rfl ?_
  refine st_v (ov_or_u32 rfl rfl) rfl ?_
  refine st_v (ov_assign rfl) rfl ?_
  refine st_nil ?_
  refine pn_then ?_
  refine sc_ret ?_
  refine pr_one rfl rfl ?_
  exact ⟨rfl, rfl⟩

set_option maxRecDepth 100000 in
theorem right_walk (x : UInt32) (s : Nat) (hs : Nat.blt s 32 = true) (hs2 : Nat.blt (32 - s) 32 = true) (w : World) :
    Calls Tryd.prog 112 #[B32 x, .int .i64 (s : Int)] w fun e w' => e = .returned (B32 (x >>> UInt32.ofNat s ||| x <<< UInt32.ofNat (32 - s))) ∧ Chg [] w w' := by
  refine calls_in Tryd.func112 Tryd.ntmps112 rfl rfl ?_
  have hp := Hp.start w
  refine sc_seq ?_
  refine sc_region ?_
  refine st_v (ov_assign rfl) rfl ?_
  refine st_nil ?_
  refine pn_then ?_
  refine sc_seq ?_
  refine sc_draws (by kernel_rfl) (by kernel_rfl) ?_
  replace hp := hp.drew
  refine ss_v (ov_move rfl) rfl ?_
  refine ss_v (ov_move rfl) rfl ?_
  refine ss_v (ov_shr_u32 (s := s) rfl rfl hs) rfl ?_
  refine ss_v (ov_move rfl) rfl ?_
  refine ss_v (ov_move rfl) rfl ?_
  refine ss_v (int_sub32 hs ▸ ov_sub_i64 rfl rfl (by rw [int_sub32 hs]; omega)) rfl ?_
  refine ss_v (ov_shl_u32 (s := 32 - s) rfl rfl hs2) rfl ?_
  refine ss_v (ov_or_u32 rfl rfl) rfl ?_
  refine ss_v (ov_assign rfl) rfl ?_
  refine ss_end ?_
  refine pn_then ?_
  refine sc_ret ?_
  refine pr_one rfl rfl ?_
  exact ⟨rfl, hp.chg⟩

set_option maxRecDepth 100000 in
theorem expand_walk (b : List UInt8) (hb : b.length = 64) (w0 : World) :
    Calls Tryd.prog 105 #[.agg (b.map B8).toArray] w0 fun e w' => e = .returned (.agg ((expand b).map B32).toArray) ∧ Chg [] w0 w' := by
  refine calls_in Tryd.func105 Tryd.ntmps105 rfl rfl ?_
  have hp := Hp.start w0
  refine sc_seq ?_
  refine sc_region ?_
  refine st_box 1 hp rfl rfl rfl (fun b1 w hp => ?_)
  refine st_alloc 2 ((List.replicate 64 (0 : UInt32)).map B32) hp rfl zl138 rfl (fun b2 w hp => ?_)
  refine st_nil ?_
  refine pn_then ?_
  refine sc_seq ?_
  refine sc_region ?_
  refine st_alloc 3 ((List.replicate 64 (0 : UInt32)).map B32) hp rfl zl138 rfl (fun b3 w hp => ?_)
  refine st_nil ?_
  refine pn_then ?_
  refine sc_seq ?_
  refine sc_seq ?_
  refine sc_region ?_
  refine st_v (ov_move rfl) rfl ?_
  refine st_nil ?_
  refine pn_then ?_
  refine sc_block ?_
  refine sc_loop1 (α := Nat) 0 (fun t => [(10, .int .i64 ((t : Nat) : Int)), (1, .pointer (some ⟨b1, 0, none⟩)), (2, .pointer (some ⟨b2, 0, none⟩)), (3, .pointer (some ⟨b3, 0, none⟩))]) (fun t w => Hp w0 [] [(1, ⟨some b1, b.map B8, 118⟩), (2, ⟨some b2, z32 64, 138⟩), (3, ⟨some b3, (ex1 b t).map B32, 138⟩)] [] w ∧ t ≤ 16) (fun t => 16 - t) ?_ ?_ ?_
  · exact (Sub.cons rfl (Sub.cons rfl (Sub.cons rfl (Sub.cons rfl (Sub.nil _)))))
  · exact ⟨hp.sub (lsub_cons rfl (lsub_cons rfl (lsub_cons rfl (lsub_nil _)))), by omega⟩
  intro t w hw
  obtain ⟨hp, ht⟩ := hw
  have hl := ex1_len b t
  refine sc_seq ?_
  refine sc_region ?_
  refine st_v (ov_lss rfl rfl) rfl ?_
  refine st_nil ?_
  refine pn_then ?_
  refine sc_seq ?_
  refine sc_cond rfl (fun hc => ?_) (fun hc => ?_)
  ·
    have hc := of_decide_eq_true hc
    refine sc_skip ?_
    refine pn_then ?_
    refine sc_seq ?_
    refine sc_block ?_
    refine sc_seq ?_
    refine sc_region ?_
    refine st_v (ov_move rfl) rfl ?_
    refine st_v (ov_assign rfl) rfl ?_
    refine st_nil ?_
    refine pn_then ?_
    refine sc_draws_tail 31 (by kernel_rfl) (by kernel_rfl) ?_
    replace hp := hp.drew
    simp only [List.take_succ_cons, List.take_zero, List.drop_succ_cons, List.drop_zero]
    refine ss_v (ov_move rfl) rfl ?_
    refine ss_v (ov_move rfl) rfl ?_
    refine ss_v (ov_mul_i64 rfl rfl (by omega)) rfl ?_
    refine ss_v (ov_indexA rfl rfl Tryd.underlying118 sz5 (by omega)) rfl ?_
    refine ss_v (ov_load1 rfl Tryd.underlying5 rfl (Cells.elem' (hp.cells' (t := 1) rfl) (4 * t) (by omega) 0)) rfl ?_
    refine ss_v (ov_conv_8_32 Tryd.underlying5 Tryd.underlying121 rfl) rfl ?_
    refine ss_v (ov_shl_u32 (s := 24) rfl rfl rfl) rfl ?_
    refine ss_v (ov_move rfl) rfl ?_
    refine ss_v (ov_mul_i64 rfl rfl (by omega)) rfl ?_
    refine ss_v (ov_add_i64 rfl rfl (by omega)) rfl ?_
    refine ss_v (ov_indexA rfl rfl Tryd.underlying118 sz5 (by omega)) rfl ?_
    refine ss_v (ov_load1 rfl Tryd.underlying5 rfl (Cells.elem' (hp.cells' (t := 1) rfl) ((4 * t) + 1) (by omega) 0)) rfl ?_
    refine ss_v (ov_conv_8_32 Tryd.underlying5 Tryd.underlying121 rfl) rfl ?_
    refine ss_v (ov_shl_u32 (s := 16) rfl rfl rfl) rfl ?_
    refine ss_v (ov_or_u32 rfl rfl) rfl ?_
    refine ss_v (ov_move rfl) rfl ?_
    refine ss_v (ov_mul_i64 rfl rfl (by omega)) rfl ?_
    refine ss_v (ov_add_i64 rfl rfl (by omega)) rfl ?_
    refine ss_v (ov_indexA rfl rfl Tryd.underlying118 sz5 (by omega)) rfl ?_
    refine ss_v (ov_load1 rfl Tryd.underlying5 rfl (Cells.elem' (hp.cells' (t := 1) rfl) ((4 * t) + 2) (by omega) 0)) rfl ?_
    refine ss_v (ov_conv_8_32 Tryd.underlying5 Tryd.underlying121 rfl) rfl ?_
    refine ss_v (ov_shl_u32 (s := 8) rfl rfl rfl) rfl ?_
    refine ss_v (ov_or_u32 rfl rfl) rfl ?_
    refine ss_v (ov_move rfl) rfl ?_
    refine ss_v (ov_mul_i64 rfl rfl (by omega)) rfl ?_
    refine ss_v (ov_add_i64 rfl rfl (by omega)) rfl ?_
    refine ss_v (ov_indexA rfl rfl Tryd.underlying118 sz5 (by omega)) rfl ?_
    refine ss_v (ov_load1 rfl Tryd.underlying5 rfl (Cells.elem' (hp.cells' (t := 1) rfl) ((4 * t) + 3) (by omega) 0)) rfl ?_
    refine ss_v (ov_conv_8_32 Tryd.underlying5 Tryd.underlying121 rfl) rfl ?_
    refine ss_v (ov_or_u32 rfl rfl) rfl ?_
    refine ss_v (ov_indexA rfl rfl Tryd.underlying138 sz121 (by omega)) rfl ?_
    refine ss_tail ?_
    refine st_storeE 3 hp rfl rfl rfl (t) (by omega) rfl sz121 (fun w hp => ?_)
    refine st_nil ?_
    refine pn_block ?_
    refine pn_then ?_
    refine sc_region ?_
    refine st_v (ov_add_i64 rfl rfl (by omega)) rfl ?_
    refine st_v (ov_move rfl) rfl ?_
    refine st_nil ?_
    refine pn_round1 (t + 1) ?_ ?_ ?_
    · exact (Sub.cons rfl (Sub.cons rfl (Sub.cons rfl (Sub.cons rfl (Sub.nil _)))))
    · omega
    ·
      exact ⟨hp.sub (lsub_cons rfl (lsub_cons rfl (lsub_cons rfl (lsub_nil _)))), by omega⟩
  ·
    have hc := of_decide_eq_false hc
    obtain rfl : t = 16 := by omega
    refine sc_exit ?_
    refine pe_then ?_
    refine pe_then ?_
    refine pe_hit ?_
    refine pn_then ?_
    refine sc_seq ?_
    refine sc_seq ?_
    refine sc_region ?_
    refine st_v (ov_assign rfl) rfl ?_
    refine st_nil ?_
    refine pn_then ?_
    refine sc_block ?_
    refine sc_loop1 (α := Nat) 0 (fun j => [(5, .int .i64 ((16 + j : Nat) : Int)), (1, .pointer (some ⟨b1, 0, none⟩)), (2, .pointer (some ⟨b2, 0, none⟩)), (3, .pointer (some ⟨b3, 0, none⟩))]) (fun j w => Hp w0 [] [(2, ⟨some b2, z32 64, 138⟩), (3, ⟨some b3, (ex2 b j).map B32, 138⟩)] [] w ∧ j ≤ 48) (fun j => 48 - j) ?_ ?_ ?_
    · exact (Sub.cons rfl (Sub.cons rfl (Sub.cons rfl (Sub.cons rfl (Sub.nil _)))))
    · exact ⟨hp.sub (lsub_cons rfl (lsub_cons rfl (lsub_nil _))), by omega⟩
    intro j w hw
    obtain ⟨hp, hj⟩ := hw
    have hl2 := ex2_len b j
    refine sc_seq ?_
    refine sc_seq ?_
    refine sc_region ?_
    refine st_v (ov_move rfl) rfl ?_
    refine st_v (ov_lss rfl rfl) rfl ?_
    refine st_nil ?_
    refine pn_then ?_
    refine sc_cond rfl (fun hc => ?_) (fun hc => ?_)
    ·
      have hc := of_decide_eq_true hc
      refine sc_skip ?_
      refine pn_then ?_
      refine sc_seq ?_
      refine sc_block ?_
      refine sc_seq ?_
      refine sc_draws (by kernel_rfl) (by kernel_rfl) ?_
      replace hp := hp.drew
      refine ss_v (ov_move rfl) rfl ?_
      refine ss_v (ov_sub_i64 rfl rfl (by omega)) rfl ?_
      refine ss_v (ov_indexA rfl rfl Tryd.underlying138 sz121 (by omega)) rfl ?_
      refine ss_v (ov_load1 rfl Tryd.underlying121 rfl (Cells.elem' (hp.cells' (t := 3) rfl) ((16 + j) - 15) (by omega) 0)) rfl ?_
      refine ss_v (ov_move rfl) rfl ?_
      refine ss_v (ov_sub_i64 rfl rfl (by omega)) rfl ?_
      refine ss_v (ov_indexA rfl rfl Tryd.underlying138 sz121 (by omega)) rfl ?_
      refine ss_v (ov_load1 rfl Tryd.underlying121 rfl (Cells.elem' (hp.cells' (t := 3) rfl) ((16 + j) - 2) (by omega) 0)) rfl ?_
      refine ss_v (ov_assign rfl) rfl ?_
      refine ss_v (ov_assign rfl) rfl ?_
      refine ss_end ?_
      refine pn_then ?_
      refine sc_seq ?_
      refine sc_region ?_
      refine st_v (ov_move rfl) rfl ?_
      refine st_call pl106 rfl rfl rfl (rot_walk _ (-7) 25 rfl rfl (by decide) _) ?_
      rintro _ _ ⟨rfl, rfl⟩
      refine ⟨_, rfl, ?_⟩
      refine st_v (ov_move rfl) rfl ?_
      refine st_call pl106 rfl rfl rfl (rot_walk _ (-18) 14 rfl rfl (by decide) _) ?_
      rintro _ _ ⟨rfl, rfl⟩
      refine ⟨_, rfl, ?_⟩
      refine st_v (ov_xor_u32 rfl rfl) rfl ?_
      refine st_v (ov_move rfl) rfl ?_
      refine st_v (ov_shr_u32 (s := 3) rfl rfl rfl) rfl ?_
      refine st_v (ov_xor_u32 rfl rfl) rfl ?_
      refine st_v (ov_assign rfl) rfl ?_
      refine st_nil ?_
      refine pn_then ?_
      refine sc_seq ?_
      refine sc_region ?_
      refine st_v (ov_move rfl) rfl ?_
      refine st_call pl106 rfl rfl rfl (rot_walk _ (-17) 15 rfl rfl (by decide) _) ?_
      rintro _ _ ⟨rfl, rfl⟩
      refine ⟨_, rfl, ?_⟩
      refine st_v (ov_move rfl) rfl ?_
      refine st_call pl106 rfl rfl rfl (rot_walk _ (-19) 13 rfl rfl (by decide) _) ?_
      rintro _ _ ⟨rfl, rfl⟩
      refine ⟨_, rfl, ?_⟩
      refine st_v (ov_xor_u32 rfl rfl) rfl ?_
      refine st_v (ov_move rfl) rfl ?_
      refine st_v (ov_shr_u32 (s := 10) rfl rfl rfl) rfl ?_
      refine st_v (ov_xor_u32 rfl rfl) rfl ?_
      refine st_v (ov_assign rfl) rfl ?_
      refine st_nil ?_
      refine pn_then ?_
      refine sc_draws_tail 15 (by kernel_rfl) (by kernel_rfl) ?_
      replace hp := hp.drew
      simp only [List.take_succ_cons, List.take_zero, List.drop_succ_cons, List.drop_zero]
      refine ss_v (ov_move rfl) rfl ?_
      refine ss_v (ov_move rfl) rfl ?_
      refine ss_v (ov_move rfl) rfl ?_
      refine ss_v (ov_sub_i64 rfl rfl (by omega)) rfl ?_
      refine ss_v (ov_indexA rfl rfl Tryd.underlying138 sz121 (by omega)) rfl ?_
      refine ss_v (ov_load1 rfl Tryd.underlying121 rfl (Cells.elem' (hp.cells' (t := 3) rfl) ((16 + j) - 7) (by omega) 0)) rfl ?_
      refine ss_v (ov_add_u32 rfl rfl) rfl ?_
      refine ss_v (ov_move rfl) rfl ?_
      refine ss_v (ov_add_u32 rfl rfl) rfl ?_
      refine ss_v (ov_move rfl) rfl ?_
      refine ss_v (ov_sub_i64 rfl rfl (by omega)) rfl ?_
      refine ss_v (ov_indexA rfl rfl Tryd.underlying138 sz121 (by omega)) rfl ?_
      refine ss_v (ov_load1 rfl Tryd.underlying121 rfl (Cells.elem' (hp.cells' (t := 3) rfl) ((16 + j) - 16) (by omega) 0)) rfl ?_
      refine ss_v (ov_add_u32 rfl rfl) rfl ?_
      refine ss_v (ov_indexA rfl rfl Tryd.underlying138 sz121 (by omega)) rfl ?_
      refine ss_tail ?_
      refine st_storeE 3 hp rfl rfl rfl (16 + j) (by omega) rfl sz121 (fun w hp => ?_)
      refine st_nil ?_
      refine pn_block ?_
      refine pn_then ?_
      refine sc_region ?_
      refine st_v (ov_move rfl) rfl ?_
      refine st_v (ov_add_i64 rfl rfl (by omega)) rfl ?_
      refine st_v (ov_assign rfl) rfl ?_
      refine st_nil ?_
      refine pn_round1 (j + 1) ?_ ?_ ?_
      · exact (Sub.cons rfl (Sub.cons rfl (Sub.cons rfl (Sub.cons rfl (Sub.nil _)))))
      · omega
      ·
        exact ⟨hp.sub (lsub_cons rfl (lsub_cons rfl (lsub_nil _))), by omega⟩
    ·
      have hc := of_decide_eq_false hc
      obtain rfl : j = 48 := by omega
      refine sc_exit ?_
      refine pe_then ?_
      refine pe_then ?_
      refine pe_hit ?_
      refine pn_then ?_
      refine sc_seq ?_
      refine sc_region ?_
      refine st_v (ov_loadN rfl Tryd.underlying138 rfl (sz138.trans (by simp [ex2_len])) (hp.cells' (t := 3) rfl)) rfl ?_
      refine st_storeA 2 hp rfl rfl rfl (by simp [ex2_len]) (sz138.trans (by simp [ex2_len])) (one_all _) (fun w hp => ?_)
      refine st_nil ?_
      refine pn_then ?_
      refine sc_ret ?_
      refine pr_rv1 rfl (rv_cells rfl Tryd.underlying138 rfl (sz138.trans (by simp [ex2_len])) (hp.cells' (t := 2) rfl)) ?_
      rw [show expand b = ex2 b 48 by unfold expand; rfl]
      exact ⟨rfl, hp.chg⟩

set_option maxRecDepth 100000 in
theorem expandr_walk (b : List UInt8) (hb : b.length = 64) (w0 : World) :
    Calls Tryd.prog 110 #[.agg (b.map B8).toArray] w0 fun e w' => e = .returned (.agg ((expand b).map B32).toArray) ∧ Chg [] w0 w' := by
  refine calls_in Tryd.func110 Tryd.ntmps110 rfl rfl ?_
  have hp := Hp.start w0
  refine sc_seq ?_
  refine sc_region ?_
  refine st_box 1 hp rfl rfl rfl (fun b1 w hp => ?_)
  refine st_alloc 2 ((List.replicate 64 (0 : UInt32)).map B32) hp rfl zl138 rfl (fun b2 w hp => ?_)
  refine st_nil ?_
  refine pn_then ?_
  refine sc_seq ?_
  refine sc_region ?_
  refine st_alloc 3 ((List.replicate 64 (0 : UInt32)).map B32) hp rfl zl138 rfl (fun b3 w hp => ?_)
  refine st_nil ?_
  refine pn_then ?_
  refine sc_seq ?_
  refine sc_seq ?_
  refine sc_region ?_
  refine st_v (ov_assign rfl) rfl ?_
  refine st_nil ?_
  refine pn_then ?_
  refine sc_block ?_
  refine sc_loop1 (α := Nat) 0 (fun t => [(4, .int .i64 ((t : Nat) : Int)), (1, .pointer (some ⟨b1, 0, none⟩)), (2, .pointer (some ⟨b2, 0, none⟩)), (3, .pointer (some ⟨b3, 0, none⟩))]) (fun t w => Hp w0 [] [(1, ⟨some b1, b.map B8, 118⟩), (2, ⟨some b2, z32 64, 138⟩), (3, ⟨some b3, (ex3 b t).map B32, 138⟩)] [] w ∧ t ≤ 64) (fun t => 64 - t) ?_ ?_ ?_
  · exact (Sub.cons rfl (Sub.cons rfl (Sub.cons rfl (Sub.cons rfl (Sub.nil _)))))
  · exact ⟨hp.sub (lsub_cons rfl (lsub_cons rfl (lsub_cons rfl (lsub_nil _)))), by omega⟩
  intro t w hw
  obtain ⟨hp, ht⟩ := hw
  have hl := ex3_len b t
  refine sc_seq ?_
  refine sc_seq ?_
  refine sc_region ?_
  refine st_v (ov_move rfl) rfl ?_
  refine st_v (ov_lss rfl rfl) rfl ?_
  refine st_nil ?_
  refine pn_then ?_
  refine sc_cond rfl (fun hc => ?_) (fun hc => ?_)
  ·
    have hc := of_decide_eq_true hc
    refine sc_skip ?_
    refine pn_then ?_
    refine sc_seq ?_
    refine sc_block ?_
    refine sc_seq ?_
    refine sc_seq ?_
    refine sc_region ?_
    refine st_v (ov_move rfl) rfl ?_
    refine st_v (ov_lss rfl rfl) rfl ?_
    refine st_nil ?_
    refine pn_then ?_
    refine sc_cond rfl (fun hc => ?_) (fun hc => ?_)
    ·
      have hc := of_decide_eq_true hc
      refine sc_seq ?_
      refine sc_draws_tail 31 (by kernel_rfl) (by kernel_rfl) ?_
      replace hp := hp.drew
      simp only [List.take_succ_cons, List.take_zero, List.drop_succ_cons, List.drop_zero]
      refine ss_v (ov_move rfl) rfl ?_
      refine ss_v (ov_move rfl) rfl ?_
      refine ss_v (ov_mul_i64 rfl rfl (by omega)) rfl ?_
      refine ss_v (ov_indexA rfl rfl Tryd.underlying118 sz5 (by omega)) rfl ?_
      refine ss_v (ov_load1 rfl Tryd.underlying5 rfl (Cells.elem' (hp.cells' (t := 1) rfl) (4 * t) (by omega) 0)) rfl ?_
      refine ss_v (ov_conv_8_32 Tryd.underlying5 Tryd.underlying121 rfl) rfl ?_
      refine ss_v (ov_mul_u32 (q := 16777216) rfl rfl) rfl ?_
      refine ss_v (ov_move rfl) rfl ?_
      refine ss_v (ov_mul_i64 rfl rfl (by omega)) rfl ?_
      refine ss_v (ov_add_i64 rfl rfl (by omega)) rfl ?_
      refine ss_v (ov_indexA rfl rfl Tryd.underlying118 sz5 (by omega)) rfl ?_
      refine ss_v (ov_load1 rfl Tryd.underlying5 rfl (Cells.elem' (hp.cells' (t := 1) rfl) ((4 * t) + 1) (by omega) 0)) rfl ?_
      refine ss_v (ov_conv_8_32 Tryd.underlying5 Tryd.underlying121 rfl) rfl ?_
      refine ss_v (ov_mul_u32 (q := 65536) rfl rfl) rfl ?_
      refine ss_v (ov_add_u32 rfl rfl) rfl ?_
      refine ss_v (ov_move rfl) rfl ?_
      refine ss_v (ov_mul_i64 rfl rfl (by omega)) rfl ?_
      refine ss_v (ov_add_i64 rfl rfl (by omega)) rfl ?_
      refine ss_v (ov_indexA rfl rfl Tryd.underlying118 sz5 (by omega)) rfl ?_
      refine ss_v (ov_load1 rfl Tryd.underlying5 rfl (Cells.elem' (hp.cells' (t := 1) rfl) ((4 * t) + 2) (by omega) 0)) rfl ?_
      refine ss_v (ov_conv_8_32 Tryd.underlying5 Tryd.underlying121 rfl) rfl ?_
      refine ss_v (ov_mul_u32 (q := 256) rfl rfl) rfl ?_
      refine ss_v (ov_add_u32 rfl rfl) rfl ?_
      refine ss_v (ov_move rfl) rfl ?_
      refine ss_v (ov_mul_i64 rfl rfl (by omega)) rfl ?_
      refine ss_v (ov_add_i64 rfl rfl (by omega)) rfl ?_
      refine ss_v (ov_indexA rfl rfl Tryd.underlying118 sz5 (by omega)) rfl ?_
      refine ss_v (ov_load1 rfl Tryd.underlying5 rfl (Cells.elem' (hp.cells' (t := 1) rfl) ((4 * t) + 3) (by omega) 0)) rfl ?_
      refine ss_v (ov_conv_8_32 Tryd.underlying5 Tryd.underlying121 rfl) rfl ?_
      refine ss_v (ov_add_u32 rfl rfl) rfl ?_
      refine ss_v (ov_indexA rfl rfl Tryd.underlying138 sz121 (by omega)) rfl ?_
      refine ss_tail ?_
      refine st_storeE 3 hp rfl rfl rfl (t) (by omega) rfl sz121 (fun w hp => ?_)
      refine st_nil ?_
      refine pn_then ?_
      refine sc_exit ?_
      refine pe_then ?_
      refine pe_hit ?_
      refine pn_then ?_
      refine sc_region ?_
      refine st_v (ov_move rfl) rfl ?_
      refine st_v (ov_add_i64 rfl rfl (by omega)) rfl ?_
      refine st_v (ov_assign rfl) rfl ?_
      refine st_nil ?_
      refine pn_round1 (t + 1) ?_ ?_ ?_
      · exact (Sub.cons rfl (Sub.cons rfl (Sub.cons rfl (Sub.cons rfl (Sub.nil _)))))
      · omega
      ·
        have e3 : ex3 b (t + 1) = (ex3 b t).set t (w4r b t) := by simp only [ex3]; rw [if_pos (by omega)]
        rw [e3]
        exact ⟨hp.sub (lsub_cons rfl (lsub_cons rfl (lsub_cons rfl (lsub_nil _)))), by omega⟩
    ·
      have hc := of_decide_eq_false hc
      refine sc_skip ?_
      refine pn_then ?_
      refine sc_seq ?_
      refine sc_region ?_
      refine st_v (ov_move rfl) rfl ?_
      refine st_v (ov_sub_i64 rfl rfl (by omega)) rfl ?_
      refine st_v (ov_indexA rfl rfl Tryd.underlying138 sz121 (by omega)) rfl ?_
      refine st_v (ov_load1 rfl Tryd.underlying121 rfl (Cells.elem' (hp.cells' (t := 3) rfl) (t - 15) (by omega) 0)) rfl ?_
      refine st_v (ov_assign rfl) rfl ?_
      refine st_nil ?_
      refine pn_then ?_
      refine sc_seq ?_
      refine sc_region ?_
      refine st_v (ov_move rfl) rfl ?_
      refine st_v (ov_sub_i64 rfl rfl (by omega)) rfl ?_
      refine st_v (ov_indexA rfl rfl Tryd.underlying138 sz121 (by omega)) rfl ?_
      refine st_v (ov_load1 rfl Tryd.underlying121 rfl (Cells.elem' (hp.cells' (t := 3) rfl) (t - 2) (by omega) 0)) rfl ?_
      refine st_v (ov_assign rfl) rfl ?_
      refine st_nil ?_
      refine pn_then ?_
      refine sc_seq ?_
      refine sc_region ?_
      refine st_v (ov_move rfl) rfl ?_
      refine st_call pl112 rfl rfl rfl (right_walk _ 7 rfl rfl _) ?_
      rintro _ w ⟨rfl, hch⟩
      refine ⟨_, rfl, ?_⟩
      replace hp := hp.call hch
      rw [right_rot _ 7 (by omega)]
      refine st_v (ov_move rfl) rfl ?_
      refine st_call pl112 rfl rfl rfl (right_walk _ 18 rfl rfl _) ?_
      rintro _ w ⟨rfl, hch⟩
      refine ⟨_, rfl, ?_⟩
      replace hp := hp.call hch
      rw [right_rot _ 18 (by omega)]
      refine st_v (ov_xor_u32 rfl rfl) rfl ?_
      refine st_v (ov_move rfl) rfl ?_
      refine st_v (ov_shr_u32 (s := 3) rfl rfl rfl) rfl ?_
      refine st_v (ov_xor_u32 rfl rfl) rfl ?_
      refine st_v (ov_assign rfl) rfl ?_
      refine st_nil ?_
      refine pn_then ?_
      refine sc_seq ?_
      refine sc_region ?_
      refine st_v (ov_move rfl) rfl ?_
      refine st_call pl112 rfl rfl rfl (right_walk _ 17 rfl rfl _) ?_
      rintro _ w ⟨rfl, hch⟩
      refine ⟨_, rfl, ?_⟩
      replace hp := hp.call hch
      rw [right_rot _ 17 (by omega)]
      refine st_v (ov_move rfl) rfl ?_
      refine st_call pl112 rfl rfl rfl (right_walk _ 19 rfl rfl _) ?_
      rintro _ w ⟨rfl, hch⟩
      refine ⟨_, rfl, ?_⟩
      replace hp := hp.call hch
      rw [right_rot _ 19 (by omega)]
      refine st_v (ov_xor_u32 rfl rfl) rfl ?_
      refine st_v (ov_move rfl) rfl ?_
      refine st_v (ov_shr_u32 (s := 10) rfl rfl rfl) rfl ?_
      refine st_v (ov_xor_u32 rfl rfl) rfl ?_
      refine st_v (ov_assign rfl) rfl ?_
      refine st_nil ?_
      refine pn_then ?_
      refine sc_draws_tail 15 (by kernel_rfl) (by kernel_rfl) ?_
      replace hp := hp.drew
      simp only [List.take_succ_cons, List.take_zero, List.drop_succ_cons, List.drop_zero]
      refine ss_v (ov_move rfl) rfl ?_
      refine ss_v (ov_move rfl) rfl ?_
      refine ss_v (ov_move rfl) rfl ?_
      refine ss_v (ov_sub_i64 rfl rfl (by omega)) rfl ?_
      refine ss_v (ov_indexA rfl rfl Tryd.underlying138 sz121 (by omega)) rfl ?_
      refine ss_v (ov_load1 rfl Tryd.underlying121 rfl (Cells.elem' (hp.cells' (t := 3) rfl) (t - 7) (by omega) 0)) rfl ?_
      refine ss_v (ov_add_u32 rfl rfl) rfl ?_
      refine ss_v (ov_move rfl) rfl ?_
      refine ss_v (ov_add_u32 rfl rfl) rfl ?_
      refine ss_v (ov_move rfl) rfl ?_
      refine ss_v (ov_sub_i64 rfl rfl (by omega)) rfl ?_
      refine ss_v (ov_indexA rfl rfl Tryd.underlying138 sz121 (by omega)) rfl ?_
      refine ss_v (ov_load1 rfl Tryd.underlying121 rfl (Cells.elem' (hp.cells' (t := 3) rfl) (t - 16) (by omega) 0)) rfl ?_
      refine ss_v (ov_add_u32 rfl rfl) rfl ?_
      refine ss_v (ov_indexA rfl rfl Tryd.underlying138 sz121 (by omega)) rfl ?_
      refine ss_tail ?_
      refine st_storeE 3 hp rfl rfl rfl (t) (by omega) rfl sz121 (fun w hp => ?_)
      refine st_nil ?_
      refine pn_block ?_
      refine pn_then ?_
      refine sc_region ?_
      refine st_v (ov_move rfl) rfl ?_
      refine st_v (ov_add_i64 rfl rfl (by omega)) rfl ?_
      refine st_v (ov_assign rfl) rfl ?_
      refine st_nil ?_
      refine pn_round1 (t + 1) ?_ ?_ ?_
      · exact (Sub.cons rfl (Sub.cons rfl (Sub.cons rfl (Sub.cons rfl (Sub.nil _)))))
      · omega
      ·
        have e3 : ex3 b (t + 1) = (ex3 b t).set t (nextw (ex3 b t) t) := by simp only [ex3]; rw [if_neg (by omega)]
        rw [e3]
        exact ⟨hp.sub (lsub_cons rfl (lsub_cons rfl (lsub_cons rfl (lsub_nil _)))), by omega⟩
  ·
    have hc := of_decide_eq_false hc
    obtain rfl : t = 64 := by omega
    refine sc_exit ?_
    refine pe_then ?_
    refine pe_then ?_
    refine pe_hit ?_
    refine pn_then ?_
    refine sc_seq ?_
    refine sc_region ?_
    refine st_v (ov_loadN rfl Tryd.underlying138 rfl (sz138.trans (by simp [ex3_len])) (hp.cells' (t := 3) rfl)) rfl ?_
    refine st_storeA 2 hp rfl rfl rfl (by simp [ex3_len]) (sz138.trans (by simp [ex3_len])) (one_all _) (fun w hp => ?_)
    refine st_nil ?_
    refine pn_then ?_
    refine sc_ret ?_
    refine pr_rv1 rfl (rv_cells rfl Tryd.underlying138 rfl (sz138.trans (by simp [ex3_len])) (hp.cells' (t := 2) rfl)) ?_
    rw [ex3_all]
    exact ⟨rfl, hp.chg⟩

end Go.Proofs.YtjdolgfhcjnniaaDoor
