/-
  The walk of the plain Compress.
-/
import Derived.Test.YtjdolgfhcjnniaaDoorFacts
import Derived.Test.YtjdolgfhcjnniaaDoorCompA
namespace Go.Proofs.YtjdolgfhcjnniaaDoor
open Go Go.RowKit

set_option maxRecDepth 100000 in
theorem compr_walk (st : List UInt32) (blk : List UInt8) (hst : st.length = 8) (hb : blk.length = 64) (w0 : World) :
    Calls Tryd.prog 109 #[.agg (st.map B32).toArray, .agg (blk.map B8).toArray] w0 fun e w' => e = .returned (.agg ((compress st blk).map B32).toArray) ∧ Chg [] w0 w' := by
  refine calls_in Tryd.func109 Tryd.ntmps109 rfl rfl ?_
  have hp := Hp.start w0
  obtain ⟨wl, hE⟩ : ∃ wl, wl = expand blk := ⟨_, rfl⟩
  have hwl : wl.length = 64 := by rw [hE]; exact expand_len blk
  have hex : ∀ w, Calls Tryd.prog 110 #[.agg (blk.map B8).toArray] w fun e w' => e = .returned (.agg (wl.map B32).toArray) ∧ Chg [] w w' := fun w => by rw [hE]; exact expandr_walk blk hb w
  refine sc_seq ?_
  refine sc_region ?_
  refine st_box 2 hp rfl rfl rfl (fun b2 w hp => ?_)
  refine st_box 3 hp rfl rfl rfl (fun b3 w hp => ?_)
  refine st_alloc 4 ((List.replicate 8 (0 : UInt32)).map B32) hp rfl zl122 rfl (fun b4 w hp => ?_)
  refine st_nil ?_
  refine pn_then ?_
  refine sc_seq ?_
  refine sc_region ?_
  refine st_v (ov_loadN rfl Tryd.underlying118 rfl (sz118.trans (by simp [hb])) (hp.cells' (t := 3) rfl)) rfl ?_
  refine st_call pl110 rfl rfl rfl (hex _) ?_
  rintro _ w ⟨rfl, hch⟩
  refine ⟨_, rfl, ?_⟩
  replace hp := hp.call hch
  clear hch
  refine st_alloc 5 ((List.replicate 64 (0 : UInt32)).map B32) hp rfl zl138 rfl (fun b5 w hp => ?_)
  refine st_storeA 5 hp rfl rfl rfl (by simp [hwl]) (sz138.trans (by simp [hwl])) (one_all _) (fun w hp => ?_)
  refine st_nil ?_
  refine pn_then ?_
  refine sc_seq ?_
  refine sc_region ?_
  refine st_call pl111 rfl rfl rfl (rounds_walk _) ?_
  rintro _ w ⟨rfl, hch⟩
  refine ⟨_, rfl, ?_⟩
  replace hp := hp.call hch
  clear hch
  refine st_alloc 6 ((List.replicate 64 (0 : UInt32)).map B32) hp rfl zl138 rfl (fun b6 w hp => ?_)
  refine st_storeA 6 hp rfl rfl rfl (by simp [kL_len]) (sz138.trans (by simp [kL_len])) (one_all _) (fun w hp => ?_)
  refine st_nil ?_
  refine pn_then ?_
  refine sc_seq ?_
  refine sc_region ?_
  refine st_alloc 7 ((List.replicate 68 (0 : UInt32)).map B32) hp rfl zl143 rfl (fun b7 w hp => ?_)
  refine st_nil ?_
  refine pn_then ?_
  refine sc_seq ?_
  refine sc_region ?_
  refine st_alloc 8 ((List.replicate 68 (0 : UInt32)).map B32) hp rfl zl143 rfl (fun b8 w hp => ?_)
  rw [← asN_zero (va st wl)] at hp
  refine st_nil ?_
  refine pn_then ?_
  refine sc_seq ?_
  refine sc_seq ?_
  have e78 : List.replicate 68 (0 : UInt32) = asN (ve st wl) 0 := (asN_zero _).symm
  have e77 : asN (va st wl) 0 = List.replicate 68 (0 : UInt32) := asN_zero _
  refine sc_region ?_
  refine st_v (ov_assign rfl) rfl ?_
  refine st_nil ?_
  refine pn_then ?_
  refine sc_block ?_
  refine sc_loop1 (α := Nat) 0 (fun i => [(9, .int .i64 ((i : Nat) : Int)), (2, .pointer (some ⟨b2, 0, none⟩)), (4, .pointer (some ⟨b4, 0, none⟩)), (5, .pointer (some ⟨b5, 0, none⟩)), (6, .pointer (some ⟨b6, 0, none⟩)), (7, .pointer (some ⟨b7, 0, none⟩)), (8, .pointer (some ⟨b8, 0, none⟩))]) (fun i w => Hp w0 [] [(8, ⟨some b8, (asN (ve st wl) i).map B32, 143⟩), (7, ⟨some b7, (asN (va st wl) i).map B32, 143⟩), (2, ⟨some b2, st.map B32, 122⟩), (4, ⟨some b4, z32 8, 122⟩), (5, ⟨some b5, wl.map B32, 138⟩), (6, ⟨some b6, kL.map B32, 138⟩)] [] w ∧ i ≤ 4) (fun i => 4 - i) ?_ ?_ ?_
  · exact (Sub.cons rfl (Sub.cons rfl (Sub.cons rfl (Sub.cons rfl (Sub.cons rfl (Sub.cons rfl (Sub.cons rfl (Sub.nil _))))))))
  · refine ⟨hp.sub ?_, by omega⟩; rw [asN_zero, asN_zero]; exact lsub_cons rfl (lsub_cons rfl (lsub_cons rfl (lsub_cons rfl (lsub_cons rfl (lsub_cons rfl (lsub_nil _))))))
  intro i w hw
  obtain ⟨hp, hi⟩ := hw
  have hl7 := asN_len (va st wl) i
  have hl8 := asN_len (ve st wl) i
  refine sc_seq ?_
  refine sc_seq ?_
  refine sc_region ?_
  refine st_v (ov_move rfl) rfl ?_
  refine st_v (ov_lss rfl rfl) rfl ?_
  refine st_nil ?_
  refine pn_then ?_
  refine sc_cond rfl (fun hc => ?_) (fun hc => ?_)
  ·
    have hc := of_decide_eq_true hc
    refine sc_skip ?_
    refine pn_then ?_
    refine sc_seq ?_
    refine sc_block ?_
    refine sc_seq ?_
    refine sc_region ?_
    refine st_v (ov_move rfl) rfl ?_
    refine st_v (ov_move rfl) rfl ?_
    refine st_v (ov_sub_i64 rfl rfl (by omega)) rfl ?_
    refine st_v (ov_indexA rfl rfl Tryd.underlying122 sz121 (by omega)) rfl ?_
    refine st_v (ov_load1 rfl Tryd.underlying121 rfl (Cells.elem' (hp.cells' (t := 2) rfl) (3 - i) (by omega) 0)) rfl ?_
    refine st_v (ov_indexA rfl rfl Tryd.underlying143 sz121 (by omega)) rfl ?_
    refine st_storeE 7 hp rfl rfl rfl (i) (by omega) rfl sz121 (fun w hp => ?_)
    refine st_nil ?_
    refine pn_then ?_
    refine sc_region ?_
    refine st_v (ov_move rfl) rfl ?_
    refine st_v (ov_move rfl) rfl ?_
    refine st_v (ov_sub_i64 rfl rfl (by omega)) rfl ?_
    refine st_v (ov_indexA rfl rfl Tryd.underlying122 sz121 (by omega)) rfl ?_
    refine st_v (ov_load1 rfl Tryd.underlying121 rfl (Cells.elem' (hp.cells' (t := 2) rfl) (7 - i) (by omega) 0)) rfl ?_
    refine st_v (ov_indexA rfl rfl Tryd.underlying143 sz121 (by omega)) rfl ?_
    refine st_storeE 8 hp rfl rfl rfl (i) (by omega) rfl sz121 (fun w hp => ?_)
    refine st_nil ?_
    refine pn_block ?_
    refine pn_then ?_
    refine sc_region ?_
    refine st_v (ov_move rfl) rfl ?_
    refine st_v (ov_add_i64 rfl rfl (by omega)) rfl ?_
    refine st_v (ov_assign rfl) rfl ?_
    refine st_nil ?_
    refine pn_round1 (i + 1) ?_ ?_ ?_
    · exact (Sub.cons rfl (Sub.cons rfl (Sub.cons rfl (Sub.cons rfl (Sub.cons rfl (Sub.cons rfl (Sub.cons rfl (Sub.nil _))))))))
    · omega
    ·
      have ea : st.getD (3 - i) 0 = va st wl i := by unfold va; rw [if_pos (by omega)]
      have ee : st.getD (7 - i) 0 = ve st wl i := by unfold ve; rw [if_pos (by omega)]
      rw [ea, ee, asN_set, asN_set] at hp
      exact ⟨hp.sub (lsub_cons rfl (lsub_cons rfl (lsub_cons rfl (lsub_cons rfl (lsub_cons rfl (lsub_cons rfl (lsub_nil _))))))), by omega⟩
  ·
    have hc := of_decide_eq_false hc
    obtain rfl : i = 4 := by omega
    refine sc_exit ?_
    refine pe_then ?_
    refine pe_then ?_
    refine pe_hit ?_
    refine pn_then ?_
    refine sc_seq ?_
    refine sc_seq ?_
    refine sc_region ?_
    refine st_v (ov_assign rfl) rfl ?_
    refine st_nil ?_
    refine pn_then ?_
    refine sc_block ?_
    refine sc_loop1 (α := Nat) 0 (fun t => [(10, .int .i64 ((t : Nat) : Int)), (2, .pointer (some ⟨b2, 0, none⟩)), (4, .pointer (some ⟨b4, 0, none⟩)), (5, .pointer (some ⟨b5, 0, none⟩)), (6, .pointer (some ⟨b6, 0, none⟩)), (7, .pointer (some ⟨b7, 0, none⟩)), (8, .pointer (some ⟨b8, 0, none⟩))]) (fun t w => Hp w0 [] [(8, ⟨some b8, (asN (ve st wl) (t + 4)).map B32, 143⟩), (7, ⟨some b7, (asN (va st wl) (t + 4)).map B32, 143⟩), (2, ⟨some b2, st.map B32, 122⟩), (4, ⟨some b4, z32 8, 122⟩), (5, ⟨some b5, wl.map B32, 138⟩), (6, ⟨some b6, kL.map B32, 138⟩)] [] w ∧ t ≤ 64) (fun t => 64 - t) ?_ ?_ ?_
    · exact (Sub.cons rfl (Sub.cons rfl (Sub.cons rfl (Sub.cons rfl (Sub.cons rfl (Sub.cons rfl (Sub.cons rfl (Sub.nil _))))))))
    · exact ⟨hp.sub (lsub_cons rfl (lsub_cons rfl (lsub_cons rfl (lsub_cons rfl (lsub_cons rfl (lsub_cons rfl (lsub_nil _))))))), by omega⟩
    intro t w hw
    obtain ⟨hp, ht⟩ := hw
    have hl7 := asN_len (va st wl) (t + 4)
    have hl8 := asN_len (ve st wl) (t + 4)
    have hkl := kL_len
    have g70 : (asN (va st wl) (t + 4)).getD (t + 0) 0 = va st wl (t + 0) := asN_get _ (by omega) (by omega)
    have g71 : (asN (va st wl) (t + 4)).getD (t + 1) 0 = va st wl (t + 1) := asN_get _ (by omega) (by omega)
    have g72 : (asN (va st wl) (t + 4)).getD (t + 2) 0 = va st wl (t + 2) := asN_get _ (by omega) (by omega)
    have g73 : (asN (va st wl) (t + 4)).getD (t + 3) 0 = va st wl (t + 3) := asN_get _ (by omega) (by omega)
    have g80 : (asN (ve st wl) (t + 4)).getD (t + 0) 0 = ve st wl (t + 0) := asN_get _ (by omega) (by omega)
    have g81 : (asN (ve st wl) (t + 4)).getD (t + 1) 0 = ve st wl (t + 1) := asN_get _ (by omega) (by omega)
    have g82 : (asN (ve st wl) (t + 4)).getD (t + 2) 0 = ve st wl (t + 2) := asN_get _ (by omega) (by omega)
    have g83 : (asN (ve st wl) (t + 4)).getD (t + 3) 0 = ve st wl (t + 3) := asN_get _ (by omega) (by omega)
    refine sc_seq ?_
    refine sc_seq ?_
    refine sc_region ?_
    refine st_v (ov_move rfl) rfl ?_
    refine st_v (ov_lss rfl rfl) rfl ?_
    refine st_nil ?_
    refine pn_then ?_
    refine sc_cond rfl (fun hc => ?_) (fun hc => ?_)
    ·
      have hc := of_decide_eq_true hc
      refine sc_skip ?_
      refine pn_then ?_
      refine sc_seq ?_
      refine sc_block ?_
      refine sc_seq ?_
      refine sc_region ?_
      refine st_v (ov_move rfl) rfl ?_
      refine st_v (ov_add_i64 rfl rfl (by omega)) rfl ?_
      refine st_v (ov_indexA rfl rfl Tryd.underlying143 sz121 (by omega)) rfl ?_
      refine st_v (ov_load1 rfl Tryd.underlying121 rfl (Cells.elem' (hp.cells' (t := 7) rfl) (t + 3) (by omega) 0)) rfl ?_
      rw [g73]
      refine st_v (ov_assign rfl) rfl ?_
      refine st_nil ?_
      refine pn_then ?_
      refine sc_seq ?_
      refine sc_region ?_
      refine st_v (ov_move rfl) rfl ?_
      refine st_v (ov_add_i64 rfl rfl (by omega)) rfl ?_
      refine st_v (ov_indexA rfl rfl Tryd.underlying143 sz121 (by omega)) rfl ?_
      refine st_v (ov_load1 rfl Tryd.underlying121 rfl (Cells.elem' (hp.cells' (t := 7) rfl) (t + 2) (by omega) 0)) rfl ?_
      rw [g72]
      refine st_v (ov_assign rfl) rfl ?_
      refine st_nil ?_
      refine pn_then ?_
      refine sc_seq ?_
      refine sc_region ?_
      refine st_v (ov_move rfl) rfl ?_
      refine st_v (ov_add_i64 rfl rfl (by omega)) rfl ?_
      refine st_v (ov_indexA rfl rfl Tryd.underlying143 sz121 (by omega)) rfl ?_
      refine st_v (ov_load1 rfl Tryd.underlying121 rfl (Cells.elem' (hp.cells' (t := 7) rfl) (t + 1) (by omega) 0)) rfl ?_
      rw [g71]
      refine st_v (ov_assign rfl) rfl ?_
      refine st_nil ?_
      refine pn_then ?_
      refine sc_seq ?_
      refine sc_region ?_
      refine st_v (ov_move rfl) rfl ?_
      refine st_v (ov_add_i64 rfl rfl (by omega)) rfl ?_
      refine st_v (ov_indexA rfl rfl Tryd.underlying143 sz121 (by omega)) rfl ?_
      refine st_v (ov_load1 rfl Tryd.underlying121 rfl (Cells.elem' (hp.cells' (t := 8) rfl) (t + 3) (by omega) 0)) rfl ?_
      rw [g83]
      refine st_v (ov_assign rfl) rfl ?_
      refine st_nil ?_
      refine pn_then ?_
      refine sc_seq ?_
      refine sc_region ?_
      refine st_v (ov_move rfl) rfl ?_
      refine st_call pl112 rfl rfl rfl (right_walk _ 2 rfl rfl _) ?_
      rintro _ w ⟨rfl, hch⟩
      refine ⟨_, rfl, ?_⟩
      replace hp := hp.call hch
      rw [right_rot _ 2 (by omega)]
      refine st_v (ov_move rfl) rfl ?_
      refine st_call pl112 rfl rfl rfl (right_walk _ 13 rfl rfl _) ?_
      rintro _ w ⟨rfl, hch⟩
      refine ⟨_, rfl, ?_⟩
      replace hp := hp.call hch
      rw [right_rot _ 13 (by omega)]
      refine st_v (ov_xor_u32 rfl rfl) rfl ?_
      refine st_v (ov_move rfl) rfl ?_
      refine st_call pl112 rfl rfl rfl (right_walk _ 22 rfl rfl _) ?_
      rintro _ w ⟨rfl, hch⟩
      refine ⟨_, rfl, ?_⟩
      replace hp := hp.call hch
      rw [right_rot _ 22 (by omega)]
      refine st_v (ov_xor_u32 rfl rfl) rfl ?_
      refine st_v (ov_assign rfl) rfl ?_
      refine st_nil ?_
      refine pn_then ?_
      refine sc_seq ?_
      refine sc_region ?_
      refine st_v (ov_move rfl) rfl ?_
      refine st_call pl112 rfl rfl rfl (right_walk _ 6 rfl rfl _) ?_
      rintro _ w ⟨rfl, hch⟩
      refine ⟨_, rfl, ?_⟩
      replace hp := hp.call hch
      rw [right_rot _ 6 (by omega)]
      refine st_v (ov_move rfl) rfl ?_
      refine st_call pl112 rfl rfl rfl (right_walk _ 11 rfl rfl _) ?_
      rintro _ w ⟨rfl, hch⟩
      refine ⟨_, rfl, ?_⟩
      replace hp := hp.call hch
      rw [right_rot _ 11 (by omega)]
      refine st_v (ov_xor_u32 rfl rfl) rfl ?_
      refine st_v (ov_move rfl) rfl ?_
      refine st_call pl112 rfl rfl rfl (right_walk _ 25 rfl rfl _) ?_
      rintro _ w ⟨rfl, hch⟩
      refine ⟨_, rfl, ?_⟩
      replace hp := hp.call hch
      rw [right_rot _ 25 (by omega)]
      refine st_v (ov_xor_u32 rfl rfl) rfl ?_
      refine st_v (ov_assign rfl) rfl ?_
      refine st_nil ?_
      refine pn_then ?_
      refine sc_seq ?_
      refine sc_draws (by kernel_rfl) (by kernel_rfl) ?_
      replace hp := hp.drew
      refine ss_v (ov_move rfl) rfl ?_
      refine ss_v (ov_move rfl) rfl ?_
      refine ss_v (ov_add_i64 rfl rfl (by omega)) rfl ?_
      refine ss_v (ov_indexA rfl rfl Tryd.underlying143 sz121 (by omega)) rfl ?_
      refine ss_v (ov_load1 rfl Tryd.underlying121 rfl (Cells.elem' (hp.cells' (t := 8) rfl) (t + 2) (by omega) 0)) rfl ?_
      rw [g82]
      refine ss_v (ov_and_u32 rfl rfl) rfl ?_
      refine ss_v (ov_move rfl) rfl ?_
      refine ss_v (ov_com_u32 rfl) rfl ?_
      refine ss_v (ov_move rfl) rfl ?_
      refine ss_v (ov_add_i64 rfl rfl (by omega)) rfl ?_
      refine ss_v (ov_indexA rfl rfl Tryd.underlying143 sz121 (by omega)) rfl ?_
      refine ss_v (ov_load1 rfl Tryd.underlying121 rfl (Cells.elem' (hp.cells' (t := 8) rfl) (t + 1) (by omega) 0)) rfl ?_
      rw [g81]
      refine ss_v (ov_and_u32 rfl rfl) rfl ?_
      refine ss_v (ov_xor_u32 rfl rfl) rfl ?_
      refine ss_v (ov_assign rfl) rfl ?_
      refine ss_end ?_
      refine pn_then ?_
      refine sc_seq ?_
      refine sc_region ?_
      refine st_v (ov_move rfl) rfl ?_
      refine st_v (ov_move rfl) rfl ?_
      refine st_v (ov_and_u32 rfl rfl) rfl ?_
      refine st_v (ov_move rfl) rfl ?_
      refine st_v (ov_move rfl) rfl ?_
      refine st_v (ov_and_u32 rfl rfl) rfl ?_
      refine st_v (ov_xor_u32 rfl rfl) rfl ?_
      refine st_v (ov_move rfl) rfl ?_
      refine st_v (ov_move rfl) rfl ?_
      refine st_v (ov_and_u32 rfl rfl) rfl ?_
      refine st_v (ov_xor_u32 rfl rfl) rfl ?_
      refine st_v (ov_assign rfl) rfl ?_
      refine st_nil ?_
      refine pn_then ?_
      refine sc_seq ?_
      refine sc_draws (by kernel_rfl) (by kernel_rfl) ?_
      replace hp := hp.drew
      refine ss_v (ov_move rfl) rfl ?_
      refine ss_v (ov_indexA rfl rfl Tryd.underlying143 sz121 (by omega)) rfl ?_
      refine ss_v (ov_load1 rfl Tryd.underlying121 rfl (Cells.elem' (hp.cells' (t := 8) rfl) (t + 0) (by omega) 0)) rfl ?_
      rw [g80]
      refine ss_v (ov_move rfl) rfl ?_
      refine ss_v (ov_add_u32 rfl rfl) rfl ?_
      refine ss_v (ov_move rfl) rfl ?_
      refine ss_v (ov_add_u32 rfl rfl) rfl ?_
      refine ss_v (ov_move rfl) rfl ?_
      refine ss_v (ov_indexA rfl rfl Tryd.underlying138 sz121 (by omega)) rfl ?_
      refine ss_v (ov_load1 rfl Tryd.underlying121 rfl (Cells.elem' (hp.cells' (t := 6) rfl) (t) (by omega) 0)) rfl ?_
      refine ss_v (ov_add_u32 rfl rfl) rfl ?_
      refine ss_v (ov_move rfl) rfl ?_
      refine ss_v (ov_indexA rfl rfl Tryd.underlying138 sz121 (by omega)) rfl ?_
      refine ss_v (ov_load1 rfl Tryd.underlying121 rfl (Cells.elem' (hp.cells' (t := 5) rfl) (t) (by omega) 0)) rfl ?_
      refine ss_v (ov_add_u32 rfl rfl) rfl ?_
      refine ss_v (ov_assign rfl) rfl ?_
      refine ss_end ?_
      refine pn_then ?_
      refine sc_seq ?_
      refine sc_region ?_
      refine st_v (ov_move rfl) rfl ?_
      refine st_v (ov_add_i64 rfl rfl (by omega)) rfl ?_
      refine st_v (ov_move rfl) rfl ?_
      refine st_v (ov_move rfl) rfl ?_
      refine st_v (ov_add_u32 rfl rfl) rfl ?_
      refine st_v (ov_move rfl) rfl ?_
      refine st_v (ov_add_u32 rfl rfl) rfl ?_
      refine st_v (ov_indexA rfl rfl Tryd.underlying143 sz121 (by omega)) rfl ?_
      refine st_storeE 7 hp rfl rfl rfl (t + 4) (by omega) rfl sz121 (fun w hp => ?_)
      replace hp := hp.eqc (cs' := (asN (va st wl) (t + 4 + 1)).map B32) (by have h9 := asN_set (va st wl) (m := t + 4); rw [va_next] at h9; exact congrArg (List.map B32) h9)
      have hl7n := asN_len (va st wl) (t + 4 + 1)
      have g70n : (asN (va st wl) (t + 4 + 1)).getD (t + 0) 0 = va st wl (t + 0) := asN_get _ (by omega) (by omega)
      refine st_nil ?_
      refine pn_then ?_
      refine sc_region ?_
      refine st_v (ov_move rfl) rfl ?_
      refine st_v (ov_add_i64 rfl rfl (by omega)) rfl ?_
      refine st_v (ov_move rfl) rfl ?_
      refine st_v (ov_indexA rfl rfl Tryd.underlying143 sz121 (by omega)) rfl ?_
      refine st_v (ov_load1 rfl Tryd.underlying121 rfl (Cells.elem' (hp.cells' (t := 7) rfl) (t + 0) (by omega) 0)) rfl ?_
      rw [g70n]
      refine st_v (ov_move rfl) rfl ?_
      refine st_v (ov_add_u32 rfl rfl) rfl ?_
      refine st_v (ov_indexA rfl rfl Tryd.underlying143 sz121 (by omega)) rfl ?_
      refine st_storeE 8 hp rfl rfl rfl (t + 4) (by omega) rfl sz121 (fun w hp => ?_)
      replace hp := hp.eqc (cs' := (asN (ve st wl) (t + 4 + 1)).map B32) (by have h9 := asN_set (ve st wl) (m := t + 4); rw [ve_next] at h9; exact congrArg (List.map B32) h9)
      have hl8n := asN_len (ve st wl) (t + 4 + 1)
      refine st_nil ?_
      refine pn_block ?_
      refine pn_then ?_
      refine sc_region ?_
      refine st_v (ov_move rfl) rfl ?_
      refine st_v (ov_add_i64 rfl rfl (by omega)) rfl ?_
      refine st_v (ov_assign rfl) rfl ?_
      refine st_nil ?_
      refine pn_round1 (t + 1) ?_ ?_ ?_
      · exact (Sub.cons rfl (Sub.cons rfl (Sub.cons rfl (Sub.cons rfl (Sub.cons rfl (Sub.cons rfl (Sub.cons rfl (Sub.nil _))))))))
      · omega
      ·
        rw [show t + 1 + 4 = t + 4 + 1 by omega]
        exact ⟨hp.sub (lsub_cons rfl (lsub_cons rfl (lsub_cons rfl (lsub_cons rfl (lsub_cons rfl (lsub_cons rfl (lsub_nil _))))))), by omega⟩
    ·
      have hc := of_decide_eq_false hc
      obtain rfl : t = 64 := by omega
      refine sc_exit ?_
      refine pe_then ?_
      refine pe_then ?_
      refine pe_hit ?_
      refine pn_then ?_
      refine sc_seq ?_
      refine sc_region ?_
      refine st_alloc 20 ((List.replicate 8 (0 : UInt32)).map B32) hp rfl zl122 rfl (fun b20 w hp => ?_)
      refine st_nil ?_
      refine pn_then ?_
      refine sc_seq ?_
      refine sc_seq ?_
      refine sc_region ?_
      refine st_v (ov_assign rfl) rfl ?_
      refine st_nil ?_
      refine pn_then ?_
      refine sc_block ?_
      refine sc_loop1 (α := Nat) 0 (fun i => [(21, .int .i64 ((i : Nat) : Int)), (2, .pointer (some ⟨b2, 0, none⟩)), (4, .pointer (some ⟨b4, 0, none⟩)), (7, .pointer (some ⟨b7, 0, none⟩)), (8, .pointer (some ⟨b8, 0, none⟩)), (20, .pointer (some ⟨b20, 0, none⟩))]) (fun i w => Hp w0 [] [(20, ⟨some b20, (outN st wl i).map B32, 122⟩), (8, ⟨some b8, (asN (ve st wl) 68).map B32, 143⟩), (7, ⟨some b7, (asN (va st wl) 68).map B32, 143⟩), (2, ⟨some b2, st.map B32, 122⟩), (4, ⟨some b4, z32 8, 122⟩)] [] w ∧ i ≤ 4) (fun i => 4 - i) ?_ ?_ ?_
      · exact (Sub.cons rfl (Sub.cons rfl (Sub.cons rfl (Sub.cons rfl (Sub.cons rfl (Sub.cons rfl (Sub.nil _)))))))
      · exact ⟨hp.sub (lsub_cons rfl (lsub_cons rfl (lsub_cons rfl (lsub_cons rfl (lsub_cons rfl (lsub_nil _)))))), by omega⟩
      intro i w hw
      obtain ⟨hp, hi⟩ := hw
      have hl7 := asN_len (va st wl) 68
      have hl8 := asN_len (ve st wl) 68
      have hlo := outN_len st wl i
      refine sc_seq ?_
      refine sc_seq ?_
      refine sc_region ?_
      refine st_v (ov_move rfl) rfl ?_
      refine st_v (ov_lss rfl rfl) rfl ?_
      refine st_nil ?_
      refine pn_then ?_
      refine sc_cond rfl (fun hc => ?_) (fun hc => ?_)
      ·
        have hc := of_decide_eq_true hc
        refine sc_skip ?_
        refine pn_then ?_
        refine sc_seq ?_
        refine sc_block ?_
        refine sc_seq ?_
        refine sc_draws_tail 10 (by kernel_rfl) (by kernel_rfl) ?_
        replace hp := hp.drew
        simp only [List.take_succ_cons, List.take_zero, List.drop_succ_cons, List.drop_zero]
        refine ss_v (ov_move rfl) rfl ?_
        refine ss_v (ov_move rfl) rfl ?_
        refine ss_v (ov_indexA rfl rfl Tryd.underlying122 sz121 (by omega)) rfl ?_
        refine ss_v (ov_load1 rfl Tryd.underlying121 rfl (Cells.elem' (hp.cells' (t := 2) rfl) (i) (by omega) 0)) rfl ?_
        refine ss_v (ov_move rfl) rfl ?_
        refine ss_v (ov_sub_i64 rfl rfl (by omega)) rfl ?_
        refine ss_v (ov_indexA rfl rfl Tryd.underlying143 sz121 (by omega)) rfl ?_
        refine ss_v (ov_load1 rfl Tryd.underlying121 rfl (Cells.elem' (hp.cells' (t := 7) rfl) (67 - i) (by omega) 0)) rfl ?_
        rw [asN_get (va st wl) (m := 68) (j := 67 - i) (by omega) (by omega)]
        refine ss_v (ov_add_u32 rfl rfl) rfl ?_
        refine ss_v (ov_indexA rfl rfl Tryd.underlying122 sz121 (by omega)) rfl ?_
        refine ss_tail ?_
        refine st_storeE 20 hp rfl rfl rfl (i) (by omega) rfl sz121 (fun w hp => ?_)
        refine st_nil ?_
        refine pn_then ?_
        refine sc_draws_tail 12 (by kernel_rfl) (by kernel_rfl) ?_
        replace hp := hp.drew
        simp only [List.take_succ_cons, List.take_zero, List.drop_succ_cons, List.drop_zero]
        refine ss_v (ov_move rfl) rfl ?_
        refine ss_v (ov_add_i64 rfl rfl (by omega)) rfl ?_
        refine ss_v (ov_move rfl) rfl ?_
        refine ss_v (ov_add_i64 rfl rfl (by omega)) rfl ?_
        refine ss_v (ov_indexA rfl rfl Tryd.underlying122 sz121 (by omega)) rfl ?_
        refine ss_v (ov_load1 rfl Tryd.underlying121 rfl (Cells.elem' (hp.cells' (t := 2) rfl) (4 + i) (by omega) 0)) rfl ?_
        refine ss_v (ov_move rfl) rfl ?_
        refine ss_v (ov_sub_i64 rfl rfl (by omega)) rfl ?_
        refine ss_v (ov_indexA rfl rfl Tryd.underlying143 sz121 (by omega)) rfl ?_
        refine ss_v (ov_load1 rfl Tryd.underlying121 rfl (Cells.elem' (hp.cells' (t := 8) rfl) (67 - i) (by omega) 0)) rfl ?_
        rw [asN_get (ve st wl) (m := 68) (j := 67 - i) (by omega) (by omega)]
        refine ss_v (ov_add_u32 rfl rfl) rfl ?_
        refine ss_v (ov_indexA rfl rfl Tryd.underlying122 sz121 (by omega)) rfl ?_
        refine ss_tail ?_
        refine st_storeE 20 hp rfl rfl rfl (4 + i) (by simp; omega) rfl sz121 (fun w hp => ?_)
        refine st_nil ?_
        refine pn_block ?_
        refine pn_then ?_
        refine sc_region ?_
        refine st_v (ov_move rfl) rfl ?_
        refine st_v (ov_add_i64 rfl rfl (by omega)) rfl ?_
        refine st_v (ov_assign rfl) rfl ?_
        refine st_nil ?_
        refine pn_round1 (i + 1) ?_ ?_ ?_
        · exact (Sub.cons rfl (Sub.cons rfl (Sub.cons rfl (Sub.cons rfl (Sub.cons rfl (Sub.cons rfl (Sub.nil _)))))))
        · omega
        ·
          exact ⟨hp.sub (lsub_cons rfl (lsub_cons rfl (lsub_cons rfl (lsub_cons rfl (lsub_cons rfl (lsub_nil _)))))), by omega⟩
      ·
        have hc := of_decide_eq_false hc
        obtain rfl : i = 4 := by omega
        rw [hE, out_end st blk] at hp
        refine sc_exit ?_
        refine pe_then ?_
        refine pe_then ?_
        refine pe_hit ?_
        refine pn_then ?_
        refine sc_seq ?_
        refine sc_region ?_
        refine st_v (ov_loadN rfl Tryd.underlying122 rfl (sz122.trans (by simp [compress_len])) (hp.cells' (t := 20) rfl)) rfl ?_
        refine st_storeA 4 hp rfl rfl rfl (by simp [compress_len]) (sz122.trans (by simp [compress_len])) (one_all _) (fun w hp => ?_)
        refine st_nil ?_
        refine pn_then ?_
        refine sc_ret ?_
        refine pr_rv1 rfl (rv_cells rfl Tryd.underlying122 rfl (sz122.trans (by simp [compress_len])) (hp.cells' (t := 4) rfl)) ?_
        exact ⟨rfl, hp.chg⟩

end Go.Proofs.YtjdolgfhcjnniaaDoor
