/-
  The walks of both Resumes, Lens.
-/
import Derived.Test.YtcpbfnbfbladoaaDoorResP
import Derived.Test.YtcpbfnbfbladoaaDoorListA
namespace Go.Proofs.YtcpbfnbfbladoaaDoor
open Go Go.RowKit

set_option maxRecDepth 100000 in
theorem resume_walk (mst : List UInt32) (hst : mst.length = 8) (md : Int) (mt : List UInt8) (mao : Option Addr) (mca : Nat) (w0 : World) (hm : Rd w0 mao (mt.map B8)) (hmz : mt.length ≤ 140737488351232) (hk : Cells w0 0 0 (kL.map B32)) (hf : Cells w0 1 0 (fL.map B32)) :
    Calls Tryd.prog 26 #[.agg (midc mst md mao mt.length mca).toArray] w0 fun e w' => (midBad mst md mt ∧ e = .returned (.tuple #[.pointer none, .int .i64 12]) ∧ Chg [] w0 w') ∨
      (¬ midBad mst md mt ∧ ∃ b tl, e = .returned (.tuple #[.pointer (some ⟨b, 0, none⟩), .int .i64 0]) ∧ Left w0 w' [] [⟨some b, strm mst md.toNat tl, 91⟩] ∧ Stands mst mt mst tl) := by
  refine calls_in Tryd.func26 Tryd.ntmps26 rfl rfl ?_
  have hp := Hp.start w0
  refine sc_seq ?_
  refine sc_region ?_
  refine st_box 1 hp rfl rfl rfl (fun b1 w hp => ?_)
  refine st_v (ov_assign rfl) rfl ?_
  refine st_v (ov_assign rfl) rfl ?_
  refine st_nil ?_
  refine pn_then ?_
  refine sc_seq ?_
  refine sc_region ?_
  refine st_v (ov_loadN rfl Tryd.underlying24 rfl (sz24.trans (by simp; rfl)) (hp.old hf (by simp))) rfl ?_
  refine st_alloc 4 ((List.replicate 8 (0 : UInt32)).map B32) hp rfl zl24 rfl (fun b4 w hp => ?_)
  refine st_storeA 4 hp rfl rfl rfl rfl (sz24.trans (by simp; rfl)) (one_all _) (fun w hp => ?_)
  refine st_nil ?_
  refine pn_then ?_
  refine sc_seq ?_
  refine sc_seq ?_
  refine sc_region ?_
  refine st_v (ov_field (q := 8) rfl Tryd.underlying51 rfl sz3 rfl) rfl ?_
  refine st_v (ov_load1 rfl Tryd.underlying3 rfl (midc_done (hp.cells' (t := 1) rfl) hst)) rfl ?_
  refine st_v (ov_lss rfl rfl) rfl ?_
  refine st_v (ov_move rfl) rfl ?_
  refine st_split (j := 10) rfl (fun hb => ?_) (fun hb => ?_)
  ·
    have hb := of_decide_eq_true hb
    refine st_off (j := 3) rfl rfl rfl rfl ?_
    refine st_off (j := 3) rfl rfl rfl rfl ?_
    refine st_off (j := 3) rfl rfl rfl rfl ?_
    refine st_v (ov_pick_t rfl rfl) rfl ?_
    refine st_v (ov_move rfl) rfl ?_
    refine st_off (j := 8) rfl rfl rfl rfl ?_
    refine st_off (j := 8) rfl rfl rfl rfl ?_
    refine st_off (j := 8) rfl rfl rfl rfl ?_
    refine st_off (j := 8) rfl rfl rfl rfl ?_
    refine st_off (j := 8) rfl rfl rfl rfl ?_
    refine st_off (j := 8) rfl rfl rfl rfl ?_
    refine st_off (j := 8) rfl rfl rfl rfl ?_
    refine st_v (ov_pick_t rfl rfl) rfl ?_
    refine st_v (ov_move rfl) rfl ?_
    refine st_off (j := 17) rfl rfl rfl rfl ?_
    refine st_off (j := 17) rfl rfl rfl rfl ?_
    refine st_off (j := 17) rfl rfl rfl rfl ?_
    refine st_off (j := 17) rfl rfl rfl rfl ?_
    refine st_offU (j := 21) rfl rfl rfl ?_
    refine st_offU (j := 21) rfl rfl rfl ?_
    refine st_offU (j := 21) rfl rfl rfl ?_
    refine st_offU (j := 21) rfl rfl rfl ?_
    refine st_off (j := 17) rfl rfl rfl rfl ?_
    refine st_v (ov_pick_t rfl rfl) rfl ?_
    refine st_nil ?_
    refine pn_then ?_
    refine sc_true rfl ?_
    refine sc_seq ?_
    refine sc_region ?_
    refine st_v (ov_assign rfl) rfl ?_
    refine st_v (ov_assign rfl) rfl ?_
    refine st_nil ?_
    refine pn_then ?_
    refine sc_ret ?_
    refine pr_then ?_
    refine pr_two rfl rfl rfl ?_
    refine .inl ⟨?_, rfl, hp.chg⟩
    unfold midBad
    first | (refine .inl ?_; omega) | (refine .inr (.inl ?_); omega) | (refine .inr (.inr (.inl ?_)); omega) | (refine .inr (.inr (.inr ⟨?_, ?_⟩)); omega; assumption)
  ·
    have hb := of_decide_eq_false hb
    refine st_on (j := 3) rfl rfl ?_
    refine st_v (ov_field (q := 8) rfl Tryd.underlying51 rfl sz3 rfl) rfl ?_
    refine st_on (j := 3) rfl rfl ?_
    refine st_v (ov_load1 rfl Tryd.underlying3 rfl (midc_done (hp.cells' (t := 1) rfl) hst)) rfl ?_
    refine st_on (j := 3) rfl rfl ?_
    refine st_v (ov_gtr rfl rfl) rfl ?_
    refine st_v (ov_pick_f rfl rfl) rfl ?_
    refine st_v (ov_move rfl) rfl ?_
    refine st_split (j := 15) rfl (fun hb => ?_) (fun hb => ?_)
    ·
      have hb := of_decide_eq_true hb
      refine st_off (j := 8) rfl rfl rfl rfl ?_
      refine st_off (j := 8) rfl rfl rfl rfl ?_
      refine st_off (j := 8) rfl rfl rfl rfl ?_
      refine st_off (j := 8) rfl rfl rfl rfl ?_
      refine st_off (j := 8) rfl rfl rfl rfl ?_
      refine st_off (j := 8) rfl rfl rfl rfl ?_
      refine st_off (j := 8) rfl rfl rfl rfl ?_
      refine st_v (ov_pick_t rfl rfl) rfl ?_
      refine st_v (ov_move rfl) rfl ?_
      refine st_off (j := 17) rfl rfl rfl rfl ?_
      refine st_off (j := 17) rfl rfl rfl rfl ?_
      refine st_off (j := 17) rfl rfl rfl rfl ?_
      refine st_off (j := 17) rfl rfl rfl rfl ?_
      refine st_offU (j := 21) rfl rfl rfl ?_
      refine st_offU (j := 21) rfl rfl rfl ?_
      refine st_offU (j := 21) rfl rfl rfl ?_
      refine st_offU (j := 21) rfl rfl rfl ?_
      refine st_off (j := 17) rfl rfl rfl rfl ?_
      refine st_v (ov_pick_t rfl rfl) rfl ?_
      refine st_nil ?_
      refine pn_then ?_
      refine sc_true rfl ?_
      refine sc_seq ?_
      refine sc_region ?_
      refine st_v (ov_assign rfl) rfl ?_
      refine st_v (ov_assign rfl) rfl ?_
      refine st_nil ?_
      refine pn_then ?_
      refine sc_ret ?_
      refine pr_then ?_
      refine pr_two rfl rfl rfl ?_
      refine .inl ⟨?_, rfl, hp.chg⟩
      unfold midBad
      first | (refine .inl ?_; omega) | (refine .inr (.inl ?_); omega) | (refine .inr (.inr (.inl ?_)); omega) | (refine .inr (.inr (.inr ⟨?_, ?_⟩)); omega; assumption)
    ·
      have hb := of_decide_eq_false hb
      refine st_on (j := 8) rfl rfl ?_
      refine st_v (ov_field (q := 9) rfl Tryd.underlying51 rfl sz33 rfl) rfl ?_
      refine st_on (j := 8) rfl rfl ?_
      refine st_v (ov_load1 rfl Tryd.underlying33 rfl (midc_tail (hp.cells' (t := 1) rfl) hst)) rfl ?_
      refine st_on (j := 8) rfl rfl ?_
      refine st_v (ov_len rfl Tryd.underlying33 rfl) rfl ?_
      refine st_on (j := 8) rfl rfl ?_
      refine st_v (ov_field (q := 8) rfl Tryd.underlying51 rfl sz3 rfl) rfl ?_
      refine st_on (j := 8) rfl rfl ?_
      refine st_v (ov_load1 rfl Tryd.underlying3 rfl (midc_done (hp.cells' (t := 1) rfl) hst)) rfl ?_
      refine st_on (j := 8) rfl rfl ?_
      refine st_v (ov_rem_i64 rfl rfl (by omega)) rfl ?_
      refine st_on (j := 8) rfl rfl ?_
      refine st_v (ov_neq rfl rfl) rfl ?_
      refine st_v (ov_pick_f rfl rfl) rfl ?_
      refine st_v (ov_move rfl) rfl ?_
      refine st_split (j := 24) rfl (fun hb => ?_) (fun hb => ?_)
      ·
        have hb := of_decide_eq_true hb
        refine st_off (j := 17) rfl rfl rfl rfl ?_
        refine st_off (j := 17) rfl rfl rfl rfl ?_
        refine st_off (j := 17) rfl rfl rfl rfl ?_
        refine st_off (j := 17) rfl rfl rfl rfl ?_
        refine st_offU (j := 21) rfl rfl rfl ?_
        refine st_offU (j := 21) rfl rfl rfl ?_
        refine st_offU (j := 21) rfl rfl rfl ?_
        refine st_offU (j := 21) rfl rfl rfl ?_
        refine st_off (j := 17) rfl rfl rfl rfl ?_
        refine st_v (ov_pick_t rfl rfl) rfl ?_
        refine st_nil ?_
        refine pn_then ?_
        refine sc_true rfl ?_
        refine sc_seq ?_
        refine sc_region ?_
        refine st_v (ov_assign rfl) rfl ?_
        refine st_v (ov_assign rfl) rfl ?_
        refine st_nil ?_
        refine pn_then ?_
        refine sc_ret ?_
        refine pr_then ?_
        refine pr_two rfl rfl rfl ?_
        refine .inl ⟨?_, rfl, hp.chg⟩
        unfold midBad
        first | (refine .inl ?_; omega) | (refine .inr (.inl ?_); omega) | (refine .inr (.inr (.inl ?_)); omega) | (refine .inr (.inr (.inr ⟨?_, ?_⟩)); omega; assumption)
      ·
        have hb := of_decide_eq_false hb
        refine st_on (j := 17) rfl rfl ?_
        refine st_v (ov_field (q := 8) rfl Tryd.underlying51 rfl sz3 rfl) rfl ?_
        refine st_on (j := 17) rfl rfl ?_
        refine st_v (ov_load1 rfl Tryd.underlying3 rfl (midc_done (hp.cells' (t := 1) rfl) hst)) rfl ?_
        refine st_on (j := 17) rfl rfl ?_
        refine st_v (ov_lss rfl rfl) rfl ?_
        refine st_on (j := 17) rfl rfl ?_
        refine st_v (ov_move rfl) rfl ?_
        refine st_split (j := 28) rfl (fun hb => ?_) (fun hb => ?_)
        ·
          have hb := of_decide_eq_true hb
          refine st_on (j := 21) rfl rfl ?_
          refine st_v (ov_field (q := 0) rfl Tryd.underlying51 rfl sz24 rfl) rfl ?_
          refine st_on (j := 21) rfl rfl ?_
          refine st_v (ov_loadN rfl Tryd.underlying24 rfl (sz24.trans (by simp [hst])) ((hp.cells' (t := 1) rfl)).left) rfl ?_
          refine st_on (j := 21) rfl rfl ?_
          refine st_v (ov_loadN rfl Tryd.underlying24 rfl (sz24.trans (by simp; rfl)) (hp.cells' (t := 4) rfl)) rfl ?_
          refine st_on (j := 21) rfl rfl ?_
          refine st_v (ov_neqA (k := .u32) (g := fun x : UInt32 => (x.toNat : Int))  inj32 Tryd.underlying24 Tryd.underlying22 sz22 gd24 rfl rfl ⟨hst, rfl⟩) rfl ?_
          refine st_on (j := 17) rfl rfl ?_
          refine st_v (ov_pick_t rfl rfl) rfl ?_
          refine st_v (ov_pick_f rfl rfl) rfl ?_
          refine st_nil ?_
          refine pn_then ?_
          refine sc_cond rfl (fun hc => ?_) (fun hc => ?_)
          ·
            have hc := of_decide_eq_true hc
            refine sc_seq ?_
            refine sc_region ?_
            refine st_v (ov_assign rfl) rfl ?_
            refine st_v (ov_assign rfl) rfl ?_
            refine st_nil ?_
            refine pn_then ?_
            refine sc_ret ?_
            refine pr_then ?_
            refine pr_two rfl rfl rfl ?_
            refine .inl ⟨?_, rfl, hp.chg⟩
            unfold midBad
            first | (refine .inl ?_; omega) | (refine .inr (.inl ?_); omega) | (refine .inr (.inr (.inl ?_)); omega) | (refine .inr (.inr (.inr ⟨?_, ?_⟩)); omega; assumption)
          ·
            have hc := of_decide_eq_false hc
            refine sc_skip ?_
            refine pn_then ?_
            refine sc_seq ?_
            have hng : ¬ midBad mst md mt := fun h9 => by
              unfold midBad at h9
              rcases h9 with h9 | h9 | h9 | ⟨h9, h8⟩
              · omega
              · omega
              · omega
              · first | omega | exact absurd ‹¬ mst ≠ fL› (fun h7 => h7 h8)
            obtain ⟨bf, rfl, hbf, htl, hle, _⟩ := mid_good hng
            refine sc_region ?_
            refine st_v (ov_field (q := 0) rfl Tryd.underlying51 rfl sz24 rfl) rfl ?_
            refine st_v (ov_loadN rfl Tryd.underlying24 rfl (sz24.trans (by simp [hst])) ((hp.cells' (t := 1) rfl)).left) rfl ?_
            refine st_v (ov_field (q := 8) rfl Tryd.underlying51 rfl sz3 rfl) rfl ?_
            refine st_v (ov_load1 rfl Tryd.underlying3 rfl (midc_done (hp.cells' (t := 1) rfl) hst)) rfl ?_
            refine st_v (ov_buildS (pl := #[(0, 8), (8, 1), (9, 64)]) (cells := strm mst (bf + mt.length) (List.replicate 64 0)) rfl Tryd.underlying91 zl91 (by intro w; kernel_rfl) (by exact fill_strm mst hst _)) rfl ?_
            refine st_box 40 hp rfl rfl rfl (fun b40 w hp => ?_)
            refine st_v (ov_assign rfl) rfl ?_
            refine st_nil ?_
            refine pn_then ?_
            refine sc_seq ?_
            refine sc_draws_tail 6 (by kernel_rfl) (by kernel_rfl) ?_
            replace hp := hp.drew
            simp only [List.take_succ_cons, List.take_zero, List.drop_succ_cons, List.drop_zero]
            refine ss_v (ov_move rfl) rfl ?_
            refine ss_v (ov_nilCheck rfl) rfl ?_
            refine ss_v (ov_field (q := 9) rfl Tryd.underlying91 rfl sz30 rfl) rfl ?_
            refine ss_v (ov_sliceA Tryd.underlying30 sz5 rfl) rfl ?_
            refine ss_v (ov_field (q := 9) rfl Tryd.underlying51 rfl sz33 rfl) rfl ?_
            refine ss_v (ov_load1 rfl Tryd.underlying33 rfl (midc_tail (hp.cells' (t := 1) rfl) hst)) rfl ?_
            refine ss_tail ?_
            refine st_copy 40 (cs' := strm mst (bf + mt.length) (put (List.replicate 64 0) mt 0)) (news := mt.map B8) (m := mt.length) (off := 9) (n' := ((mt.length : Nat) : Int)) hp rfl rfl rfl rfl rfl Tryd.underlying33 sz5 (by omega) (fun _ => rfl) (hm.chg hp.chg) (by first | omega | (simp; done) | (simp; omega) | (simp [*]; omega)) (one_all _) (by simp [hst]; omega) (by have h9 := strm_put (d := bf + mt.length) (tl := List.replicate 64 0) (news := mt) (q := 0) hst (by simp; omega); exact h9) rfl (fun w hp => ?_)
            refine st_nil ?_
            refine pn_then ?_
            refine sc_seq ?_
            refine sc_region ?_
            refine st_v (ov_move rfl) rfl ?_
            refine st_v (ov_assign rfl) rfl ?_
            refine st_v (ov_assign rfl) rfl ?_
            refine st_nil ?_
            refine pn_then ?_
            refine sc_ret ?_
            refine pr_two rfl rfl rfl ?_
            exact .inr ⟨hng, b40, put (List.replicate 64 0) mt 0, rfl, by rw [Int.toNat_natCast]; exact hp.left' (i := []) [40] (by simp) rfl, stands_mid _ _ _ htl (by rw [put_len (by simp; omega)]; simp) (by simp [put])⟩
        ·
          have hb := of_decide_eq_false hb
          refine st_off (j := 21) rfl rfl rfl rfl ?_
          refine st_off (j := 21) rfl rfl rfl rfl ?_
          refine st_off (j := 21) rfl rfl rfl rfl ?_
          refine st_off (j := 21) rfl rfl rfl rfl ?_
          refine st_on (j := 17) rfl rfl ?_
          refine st_v (ov_pick_f rfl rfl) rfl ?_
          refine st_v (ov_pick_f rfl rfl) rfl ?_
          refine st_nil ?_
          refine pn_then ?_
          refine sc_false rfl ?_
          refine sc_skip ?_
          refine pn_then ?_
          refine sc_seq ?_
          have hng : ¬ midBad mst md mt := fun h9 => by
            unfold midBad at h9
            rcases h9 with h9 | h9 | h9 | ⟨h9, h8⟩
            · omega
            · omega
            · omega
            · first | omega | exact absurd ‹¬ mst ≠ fL› (fun h7 => h7 h8)
          obtain ⟨bf, rfl, hbf, htl, hle, _⟩ := mid_good hng
          refine sc_region ?_
          refine st_v (ov_field (q := 0) rfl Tryd.underlying51 rfl sz24 rfl) rfl ?_
          refine st_v (ov_loadN rfl Tryd.underlying24 rfl (sz24.trans (by simp [hst])) ((hp.cells' (t := 1) rfl)).left) rfl ?_
          refine st_v (ov_field (q := 8) rfl Tryd.underlying51 rfl sz3 rfl) rfl ?_
          refine st_v (ov_load1 rfl Tryd.underlying3 rfl (midc_done (hp.cells' (t := 1) rfl) hst)) rfl ?_
          refine st_v (ov_buildS (pl := #[(0, 8), (8, 1), (9, 64)]) (cells := strm mst (bf + mt.length) (List.replicate 64 0)) rfl Tryd.underlying91 zl91 (by intro w; kernel_rfl) (by exact fill_strm mst hst _)) rfl ?_
          refine st_box 40 hp rfl rfl rfl (fun b40 w hp => ?_)
          refine st_v (ov_assign rfl) rfl ?_
          refine st_nil ?_
          refine pn_then ?_
          refine sc_seq ?_
          refine sc_draws_tail 6 (by kernel_rfl) (by kernel_rfl) ?_
          replace hp := hp.drew
          simp only [List.take_succ_cons, List.take_zero, List.drop_succ_cons, List.drop_zero]
          refine ss_v (ov_move rfl) rfl ?_
          refine ss_v (ov_nilCheck rfl) rfl ?_
          refine ss_v (ov_field (q := 9) rfl Tryd.underlying91 rfl sz30 rfl) rfl ?_
          refine ss_v (ov_sliceA Tryd.underlying30 sz5 rfl) rfl ?_
          refine ss_v (ov_field (q := 9) rfl Tryd.underlying51 rfl sz33 rfl) rfl ?_
          refine ss_v (ov_load1 rfl Tryd.underlying33 rfl (midc_tail (hp.cells' (t := 1) rfl) hst)) rfl ?_
          refine ss_tail ?_
          refine st_copy 40 (cs' := strm mst (bf + mt.length) (put (List.replicate 64 0) mt 0)) (news := mt.map B8) (m := mt.length) (off := 9) (n' := ((mt.length : Nat) : Int)) hp rfl rfl rfl rfl rfl Tryd.underlying33 sz5 (by omega) (fun _ => rfl) (hm.chg hp.chg) (by first | omega | (simp; done) | (simp; omega) | (simp [*]; omega)) (one_all _) (by simp [hst]; omega) (by have h9 := strm_put (d := bf + mt.length) (tl := List.replicate 64 0) (news := mt) (q := 0) hst (by simp; omega); exact h9) rfl (fun w hp => ?_)
          refine st_nil ?_
          refine pn_then ?_
          refine sc_seq ?_
          refine sc_region ?_
          refine st_v (ov_move rfl) rfl ?_
          refine st_v (ov_assign rfl) rfl ?_
          refine st_v (ov_assign rfl) rfl ?_
          refine st_nil ?_
          refine pn_then ?_
          refine sc_ret ?_
          refine pr_two rfl rfl rfl ?_
          exact .inr ⟨hng, b40, put (List.replicate 64 0) mt 0, rfl, by rw [Int.toNat_natCast]; exact hp.left' (i := []) [40] (by simp) rfl, stands_mid _ _ _ htl (by rw [put_len (by simp; omega)]; simp) (by simp [put])⟩

set_option maxRecDepth 100000 in
theorem resumer_walk (mst : List UInt32) (hst : mst.length = 8) (md : Int) (mt : List UInt8) (mao : Option Addr) (mca : Nat) (w0 : World) (hm : Rd w0 mao (mt.map B8)) (hmz : mt.length ≤ 140737488351232) :
    Calls Tryd.prog 27 #[.agg (midc mst md mao mt.length mca).toArray] w0 fun e w' => (midBad mst md mt ∧ e = .returned (.tuple #[.pointer none, .int .i64 12]) ∧ Chg [] w0 w') ∨
      (¬ midBad mst md mt ∧ ∃ b g, e = .returned (.tuple #[.pointer (some ⟨b, 0, none⟩), .int .i64 0]) ∧ Left w0 w' [] (rsk b (md.toNat - mt.length) mst mt g) ∧ (mt.map B8 ++ g.sp).length = g.cap * 1) := by
  refine calls_in Tryd.func27 Tryd.ntmps27 rfl rfl ?_
  have hp := Hp.start w0
  refine sc_seq ?_
  refine sc_region ?_
  refine st_box 1 hp rfl rfl rfl (fun b1 w hp => ?_)
  refine st_v (ov_assign rfl) rfl ?_
  refine st_v (ov_assign rfl) rfl ?_
  refine st_nil ?_
  refine pn_then ?_
  refine sc_seq ?_
  refine sc_seq ?_
  refine sc_region ?_
  refine st_v (ov_field (q := 8) rfl Tryd.underlying51 rfl sz3 rfl) rfl ?_
  refine st_v (ov_load1 rfl Tryd.underlying3 rfl (midc_done (hp.cells' (t := 1) rfl) hst)) rfl ?_
  refine st_v (ov_lss rfl rfl) rfl ?_
  refine st_v (ov_move rfl) rfl ?_
  refine st_split (j := 8) rfl (fun hb => ?_) (fun hb => ?_)
  ·
    have hb := of_decide_eq_true hb
    refine st_off (j := 3) rfl rfl rfl rfl ?_
    refine st_off (j := 3) rfl rfl rfl rfl ?_
    refine st_off (j := 3) rfl rfl rfl rfl ?_
    refine st_v (ov_pick_t rfl rfl) rfl ?_
    refine st_v (ov_move rfl) rfl ?_
    refine st_off (j := 8) rfl rfl rfl rfl ?_
    refine st_off (j := 8) rfl rfl rfl rfl ?_
    refine st_off (j := 8) rfl rfl rfl rfl ?_
    refine st_off (j := 8) rfl rfl rfl rfl ?_
    refine st_off (j := 8) rfl rfl rfl rfl ?_
    refine st_off (j := 8) rfl rfl rfl rfl ?_
    refine st_off (j := 8) rfl rfl rfl rfl ?_
    refine st_v (ov_pick_t rfl rfl) rfl ?_
    refine st_nil ?_
    refine pn_then ?_
    refine sc_true rfl ?_
    refine sc_seq ?_
    refine sc_region ?_
    refine st_v (ov_assign rfl) rfl ?_
    refine st_v (ov_assign rfl) rfl ?_
    refine st_nil ?_
    refine pn_then ?_
    refine sc_ret ?_
    refine pr_then ?_
    refine pr_two rfl rfl rfl ?_
    refine .inl ⟨?_, rfl, hp.chg⟩
    unfold midBad
    first | (refine .inl ?_; omega) | (refine .inr (.inl ?_); omega) | (refine .inr (.inr (.inl ?_)); omega) | (refine .inr (.inr (.inr ⟨?_, ?_⟩)); omega; assumption)
  ·
    have hb := of_decide_eq_false hb
    refine st_on (j := 3) rfl rfl ?_
    refine st_v (ov_field (q := 8) rfl Tryd.underlying51 rfl sz3 rfl) rfl ?_
    refine st_on (j := 3) rfl rfl ?_
    refine st_v (ov_load1 rfl Tryd.underlying3 rfl (midc_done (hp.cells' (t := 1) rfl) hst)) rfl ?_
    refine st_on (j := 3) rfl rfl ?_
    refine st_v (ov_gtr rfl rfl) rfl ?_
    refine st_v (ov_pick_f rfl rfl) rfl ?_
    refine st_v (ov_move rfl) rfl ?_
    refine st_split (j := 13) rfl (fun hb => ?_) (fun hb => ?_)
    ·
      have hb := of_decide_eq_true hb
      refine st_off (j := 8) rfl rfl rfl rfl ?_
      refine st_off (j := 8) rfl rfl rfl rfl ?_
      refine st_off (j := 8) rfl rfl rfl rfl ?_
      refine st_off (j := 8) rfl rfl rfl rfl ?_
      refine st_off (j := 8) rfl rfl rfl rfl ?_
      refine st_off (j := 8) rfl rfl rfl rfl ?_
      refine st_off (j := 8) rfl rfl rfl rfl ?_
      refine st_v (ov_pick_t rfl rfl) rfl ?_
      refine st_nil ?_
      refine pn_then ?_
      refine sc_true rfl ?_
      refine sc_seq ?_
      refine sc_region ?_
      refine st_v (ov_assign rfl) rfl ?_
      refine st_v (ov_assign rfl) rfl ?_
      refine st_nil ?_
      refine pn_then ?_
      refine sc_ret ?_
      refine pr_then ?_
      refine pr_two rfl rfl rfl ?_
      refine .inl ⟨?_, rfl, hp.chg⟩
      unfold midBad
      first | (refine .inl ?_; omega) | (refine .inr (.inl ?_); omega) | (refine .inr (.inr (.inl ?_)); omega) | (refine .inr (.inr (.inr ⟨?_, ?_⟩)); omega; assumption)
    ·
      have hb := of_decide_eq_false hb
      refine st_on (j := 8) rfl rfl ?_
      refine st_v (ov_field (q := 9) rfl Tryd.underlying51 rfl sz33 rfl) rfl ?_
      refine st_on (j := 8) rfl rfl ?_
      refine st_v (ov_load1 rfl Tryd.underlying33 rfl (midc_tail (hp.cells' (t := 1) rfl) hst)) rfl ?_
      refine st_on (j := 8) rfl rfl ?_
      refine st_v (ov_len rfl Tryd.underlying33 rfl) rfl ?_
      refine st_on (j := 8) rfl rfl ?_
      refine st_v (ov_field (q := 8) rfl Tryd.underlying51 rfl sz3 rfl) rfl ?_
      refine st_on (j := 8) rfl rfl ?_
      refine st_v (ov_load1 rfl Tryd.underlying3 rfl (midc_done (hp.cells' (t := 1) rfl) hst)) rfl ?_
      refine st_on (j := 8) rfl rfl ?_
      refine st_v (ov_rem_i64 rfl rfl (by omega)) rfl ?_
      refine st_on (j := 8) rfl rfl ?_
      refine st_v (ov_neq rfl rfl) rfl ?_
      refine st_v (ov_pick_f rfl rfl) rfl ?_
      refine st_nil ?_
      refine pn_then ?_
      refine sc_cond rfl (fun hc => ?_) (fun hc => ?_)
      ·
        have hc := of_decide_eq_true hc
        refine sc_seq ?_
        refine sc_region ?_
        refine st_v (ov_assign rfl) rfl ?_
        refine st_v (ov_assign rfl) rfl ?_
        refine st_nil ?_
        refine pn_then ?_
        refine sc_ret ?_
        refine pr_then ?_
        refine pr_two rfl rfl rfl ?_
        refine .inl ⟨?_, rfl, hp.chg⟩
        unfold midBad
        first | (refine .inl ?_; omega) | (refine .inr (.inl ?_); omega) | (refine .inr (.inr (.inl ?_)); omega) | (refine .inr (.inr (.inr ⟨?_, ?_⟩)); omega; assumption)
      ·
        have hc := of_decide_eq_false hc
        refine sc_skip ?_
        refine pn_then ?_
        refine sc_seq ?_
        refine sc_seq ?_
        obtain ⟨Hs, hHs⟩ := (hp.sub (L' := [(1, _)]) (LSub.cons rfl (LSub.nil _))).hs
        refine sc_plan Hs [0, 1, 2, 3, 4, 5, 7, 8] [6] (.take 0 (.load 1 (.take 2 (.take 3 (.take 4 (.load 5 (.one 6 (.take 7 (.take 8 .nil))))))))) (by kernel_rfl) (by kernel_rfl) (by repeat (first | exact calm_body _ _ _ | refine calm_then ?_ | refine calm_block ?_ | refine calm_jump ?_ | refine calm_ng ?_)) ?_
        replace hp := hp.drew
        refine sp_take rfl (fun w => ov_field (q := 8) rfl Tryd.underlying51 rfl sz3 rfl) rfl ?_
        refine sp_load rfl ((hHs _).2 (hp.sub (LSub.cons rfl (LSub.nil _)))) (fun w hs => have hp := (hHs w).1 hs; ov_load1 rfl Tryd.underlying3 rfl (midc_done (hp.cells' (t := 1) rfl) hst)) rfl ?_
        refine sp_take rfl (fun w => ov_lss rfl rfl) rfl ?_
        refine sp_take rfl (fun w => ov_move rfl) rfl ?_
        refine sp_split (j := 25) rfl (fun hb => ?_) (fun hb => ?_)
        ·
          have hb := of_decide_eq_true hb
          refine sp_take_on rfl rfl rfl (fun w => ov_field (q := 0) rfl Tryd.underlying51 rfl sz24 rfl) rfl ?_
          refine sp_load_on rfl rfl rfl ((hHs _).2 (hp.sub (LSub.cons rfl (LSub.nil _)))) (fun w hs => have hp := (hHs w).1 hs; ov_loadN rfl Tryd.underlying24 rfl (sz24.trans (by simp [hst])) ((hp.cells' (t := 1) rfl)).left) rfl ?_
          refine sp_one rfl ?_
          refine st_on (j := 3) rfl rfl ?_
          refine st_call pl61 rfl rfl rfl (first_walk _) ?_
          rintro _ w ⟨rfl, hch⟩
          refine ⟨_, rfl, ?_⟩
          replace hp := hp.call hch
          clear hch
          refine st_nil ?_
          refine sp_next (i := 6) (fun _ => ((hHs _).2 (hp.sub (LSub.cons rfl (LSub.nil _))))) ?_
          refine sp_take_on rfl rfl rfl (fun w => ov_neqA (k := .u32) (g := fun x : UInt32 => (x.toNat : Int))  inj32 Tryd.underlying24 Tryd.underlying22 sz22 gd24 rfl rfl ⟨hst, rfl⟩) rfl ?_
          refine sp_take rfl (fun w => ov_pick_t rfl rfl) rfl ?_
          refine sp_nil ?_
          refine pn_then ?_
          refine sc_cond rfl (fun hc => ?_) (fun hc => ?_)
          ·
            have hc := of_decide_eq_true hc
            refine sc_seq ?_
            refine sc_region ?_
            refine st_v (ov_assign rfl) rfl ?_
            refine st_v (ov_assign rfl) rfl ?_
            refine st_nil ?_
            refine pn_then ?_
            refine sc_ret ?_
            refine pr_then ?_
            refine pr_two rfl rfl rfl ?_
            refine .inl ⟨?_, rfl, hp.chg⟩
            unfold midBad
            first | (refine .inl ?_; omega) | (refine .inr (.inl ?_); omega) | (refine .inr (.inr (.inl ?_)); omega) | (refine .inr (.inr (.inr ⟨?_, ?_⟩)); omega; assumption)
          ·
            have hc := of_decide_eq_false hc
            refine sc_skip ?_
            refine pn_then ?_
            refine sc_seq ?_
            have hng : ¬ midBad mst md mt := fun h9 => by
              unfold midBad at h9
              rcases h9 with h9 | h9 | h9 | ⟨h9, h8⟩
              · omega
              · omega
              · omega
              · first | omega | exact absurd ‹¬ mst ≠ fL› (fun h7 => h7 h8)
            obtain ⟨bf, rfl, hbf, htl, hle, _⟩ := mid_good hng
            refine sc_region ?_
            refine st_v (ov_field (q := 0) rfl Tryd.underlying51 rfl sz24 rfl) rfl ?_
            refine st_v (ov_loadN rfl Tryd.underlying24 rfl (sz24.trans (by simp [hst])) ((hp.cells' (t := 1) rfl)).left) rfl ?_
            refine st_v (ov_field (q := 8) rfl Tryd.underlying51 rfl sz3 rfl) rfl ?_
            refine st_v (ov_load1 rfl Tryd.underlying3 rfl (midc_done (hp.cells' (t := 1) rfl) hst)) rfl ?_
            refine st_v (ov_field (q := 9) rfl Tryd.underlying51 rfl sz33 rfl) rfl ?_
            refine st_v (ov_load1 rfl Tryd.underlying33 rfl (midc_tail (hp.cells' (t := 1) rfl) hst)) rfl ?_
            refine st_v (ov_len rfl Tryd.underlying33 rfl) rfl ?_
            refine st_v (ov_sub_n (a := (bf + mt.length)) (b := mt.length) rfl rfl (by omega)) rfl ?_
            rw [Nat.add_sub_cancel]
            refine st_v (ov_buildS (pl := #[(0, 8), (8, 1), (9, 1)]) (cells := midc mst (bf : Int) none 0 0) rfl Tryd.underlying97 zl97 (by intro w; kernel_rfl) (by exact fill_mid mst hst _)) rfl ?_
            refine st_box 40 hp rfl rfl rfl (fun b40 w hp => ?_)
            refine st_v (ov_assign rfl) rfl ?_
            replace hp := hp.nil 50 5
            refine st_nil ?_
            refine pn_then ?_
            refine sc_seq ?_
            obtain ⟨Hs, hHs⟩ := (hp.sub (L' := [(50, _), (40, _), (1, _)]) (LSub.cons rfl (LSub.cons rfl (LSub.cons rfl (LSub.nil _))))).hs
            refine sc_plan Hs [0, 1, 2, 3, 4, 5, 6, 8, 9] [] (.take 0 (.take 1 (.take 2 (.take 3 (.load 4 (.take 5 (.load 6 (.one 7 (.take 8 (.take 9 (.one 10 .nil))))))))))) (by kernel_rfl) (by kernel_rfl) (by repeat (first | exact calm_body _ _ _ | refine calm_then ?_ | refine calm_block ?_ | refine calm_jump ?_ | refine calm_ng ?_)) ?_
            replace hp := hp.drew
            refine sp_take rfl (fun w => ov_move rfl) rfl ?_
            refine sp_take rfl (fun w => ov_move rfl) rfl ?_
            refine sp_take rfl (fun w => ov_nilCheck rfl) rfl ?_
            refine sp_take rfl (fun w => ov_field (q := 9) rfl Tryd.underlying97 rfl sz33 rfl) rfl ?_
            refine sp_load rfl ((hHs _).2 (hp.sub (LSub.cons rfl (LSub.cons rfl (LSub.cons rfl (LSub.nil _)))))) (fun w hs => have hp := (hHs w).1 hs; ov_load1 rfl Tryd.underlying33 rfl (midc_tail (hp.cells' (t := 40) rfl) hst)) rfl ?_
            refine sp_take rfl (fun w => ov_field (q := 9) rfl Tryd.underlying51 rfl sz33 rfl) rfl ?_
            refine sp_load rfl ((hHs _).2 (hp.sub (LSub.cons rfl (LSub.cons rfl (LSub.cons rfl (LSub.nil _)))))) (fun w hs => have hp := (hHs w).1 hs; ov_load1 rfl Tryd.underlying33 rfl (midc_tail (hp.cells' (t := 1) rfl) hst)) rfl ?_
            refine sp_one rfl ?_
            refine st_append 50 gnil (xs := []) hp rfl rfl rfl rfl rfl Tryd.underlying33 in5 (by decide) rfl rfl (by simp) (hm.chg hp.chg) (by simp) (one_all _) (by omega) (fun g2 w hp hcg hf50 => ?_)
            simp only [List.nil_append] at hp hcg
            rw [Nat.zero_add]
            refine st_nil ?_
            refine sp_next (i := 7) (fun h => absurd h (by decide)) ?_
            refine sp_take rfl (fun w => ov_nilCheck rfl) rfl ?_
            refine sp_take rfl (fun w => ov_field (q := 9) rfl Tryd.underlying97 rfl sz33 rfl) rfl ?_
            refine sp_one rfl ?_
            refine st_store1 40 hp rfl rfl rfl rfl sz33 (by simp [hst]) (fun w hp => ?_)
            rw [midc_set9 hst] at hp
            refine st_nil ?_
            refine sp_next (i := 10) (fun h => absurd h (by decide)) ?_
            refine sp_nil ?_
            refine pn_then ?_
            refine sc_seq ?_
            refine sc_region ?_
            refine st_v (ov_move rfl) rfl ?_
            refine st_v (ov_assign rfl) rfl ?_
            refine st_v (ov_assign rfl) rfl ?_
            refine st_nil ?_
            refine pn_then ?_
            refine sc_ret ?_
            refine pr_two rfl rfl rfl ?_
            exact .inr ⟨hng, b40, g2, rfl, by rw [Int.toNat_natCast, Nat.add_sub_cancel]; exact hp.left' (i := []) [40, 50] (by simp) rfl, hcg⟩
        ·
          have hb := of_decide_eq_false hb
          refine sp_take_off rfl rfl rfl rfl rfl ?_
          refine sp_load_off rfl rfl rfl rfl ((hHs _).2 (hp.sub (LSub.cons rfl (LSub.nil _)))) rfl ?_
          refine sp_one rfl ?_
          refine st_off (j := 3) rfl rfl rfl rfl ?_
          refine st_nil ?_
          refine sp_next (i := 6) (fun _ => ((hHs _).2 (hp.sub (LSub.cons rfl (LSub.nil _))))) ?_
          refine sp_take_off rfl rfl rfl rfl rfl ?_
          refine sp_take rfl (fun w => ov_pick_f rfl rfl) rfl ?_
          refine sp_nil ?_
          refine pn_then ?_
          refine sc_false rfl ?_
          refine sc_skip ?_
          refine pn_then ?_
          refine sc_seq ?_
          have hng : ¬ midBad mst md mt := fun h9 => by
            unfold midBad at h9
            rcases h9 with h9 | h9 | h9 | ⟨h9, h8⟩
            · omega
            · omega
            · omega
            · first | omega | exact absurd ‹¬ mst ≠ fL› (fun h7 => h7 h8)
          obtain ⟨bf, rfl, hbf, htl, hle, _⟩ := mid_good hng
          refine sc_region ?_
          refine st_v (ov_field (q := 0) rfl Tryd.underlying51 rfl sz24 rfl) rfl ?_
          refine st_v (ov_loadN rfl Tryd.underlying24 rfl (sz24.trans (by simp [hst])) ((hp.cells' (t := 1) rfl)).left) rfl ?_
          refine st_v (ov_field (q := 8) rfl Tryd.underlying51 rfl sz3 rfl) rfl ?_
          refine st_v (ov_load1 rfl Tryd.underlying3 rfl (midc_done (hp.cells' (t := 1) rfl) hst)) rfl ?_
          refine st_v (ov_field (q := 9) rfl Tryd.underlying51 rfl sz33 rfl) rfl ?_
          refine st_v (ov_load1 rfl Tryd.underlying33 rfl (midc_tail (hp.cells' (t := 1) rfl) hst)) rfl ?_
          refine st_v (ov_len rfl Tryd.underlying33 rfl) rfl ?_
          refine st_v (ov_sub_n (a := (bf + mt.length)) (b := mt.length) rfl rfl (by omega)) rfl ?_
          rw [Nat.add_sub_cancel]
          refine st_v (ov_buildS (pl := #[(0, 8), (8, 1), (9, 1)]) (cells := midc mst (bf : Int) none 0 0) rfl Tryd.underlying97 zl97 (by intro w; kernel_rfl) (by exact fill_mid mst hst _)) rfl ?_
          refine st_box 40 hp rfl rfl rfl (fun b40 w hp => ?_)
          refine st_v (ov_assign rfl) rfl ?_
          replace hp := hp.nil 50 5
          refine st_nil ?_
          refine pn_then ?_
          refine sc_seq ?_
          obtain ⟨Hs, hHs⟩ := (hp.sub (L' := [(50, _), (40, _), (1, _)]) (LSub.cons rfl (LSub.cons rfl (LSub.cons rfl (LSub.nil _))))).hs
          refine sc_plan Hs [0, 1, 2, 3, 4, 5, 6, 8, 9] [] (.take 0 (.take 1 (.take 2 (.take 3 (.load 4 (.take 5 (.load 6 (.one 7 (.take 8 (.take 9 (.one 10 .nil))))))))))) (by kernel_rfl) (by kernel_rfl) (by repeat (first | exact calm_body _ _ _ | refine calm_then ?_ | refine calm_block ?_ | refine calm_jump ?_ | refine calm_ng ?_)) ?_
          replace hp := hp.drew
          refine sp_take rfl (fun w => ov_move rfl) rfl ?_
          refine sp_take rfl (fun w => ov_move rfl) rfl ?_
          refine sp_take rfl (fun w => ov_nilCheck rfl) rfl ?_
          refine sp_take rfl (fun w => ov_field (q := 9) rfl Tryd.underlying97 rfl sz33 rfl) rfl ?_
          refine sp_load rfl ((hHs _).2 (hp.sub (LSub.cons rfl (LSub.cons rfl (LSub.cons rfl (LSub.nil _)))))) (fun w hs => have hp := (hHs w).1 hs; ov_load1 rfl Tryd.underlying33 rfl (midc_tail (hp.cells' (t := 40) rfl) hst)) rfl ?_
          refine sp_take rfl (fun w => ov_field (q := 9) rfl Tryd.underlying51 rfl sz33 rfl) rfl ?_
          refine sp_load rfl ((hHs _).2 (hp.sub (LSub.cons rfl (LSub.cons rfl (LSub.cons rfl (LSub.nil _)))))) (fun w hs => have hp := (hHs w).1 hs; ov_load1 rfl Tryd.underlying33 rfl (midc_tail (hp.cells' (t := 1) rfl) hst)) rfl ?_
          refine sp_one rfl ?_
          refine st_append 50 gnil (xs := []) hp rfl rfl rfl rfl rfl Tryd.underlying33 in5 (by decide) rfl rfl (by simp) (hm.chg hp.chg) (by simp) (one_all _) (by omega) (fun g2 w hp hcg hf50 => ?_)
          simp only [List.nil_append] at hp hcg
          rw [Nat.zero_add]
          refine st_nil ?_
          refine sp_next (i := 7) (fun h => absurd h (by decide)) ?_
          refine sp_take rfl (fun w => ov_nilCheck rfl) rfl ?_
          refine sp_take rfl (fun w => ov_field (q := 9) rfl Tryd.underlying97 rfl sz33 rfl) rfl ?_
          refine sp_one rfl ?_
          refine st_store1 40 hp rfl rfl rfl rfl sz33 (by simp [hst]) (fun w hp => ?_)
          rw [midc_set9 hst] at hp
          refine st_nil ?_
          refine sp_next (i := 10) (fun h => absurd h (by decide)) ?_
          refine sp_nil ?_
          refine pn_then ?_
          refine sc_seq ?_
          refine sc_region ?_
          refine st_v (ov_move rfl) rfl ?_
          refine st_v (ov_assign rfl) rfl ?_
          refine st_v (ov_assign rfl) rfl ?_
          refine st_nil ?_
          refine pn_then ?_
          refine sc_ret ?_
          refine pr_two rfl rfl rfl ?_
          exact .inr ⟨hng, b40, g2, rfl, by rw [Int.toNat_natCast, Nat.add_sub_cancel]; exact hp.left' (i := []) [40, 50] (by simp) rfl, hcg⟩

theorem resume_bad (mst : List UInt32) (hst : mst.length = 8) (md : Int) (mt : List UInt8) (mao : Option Addr) (mca : Nat) (w0 : World) (hm : Rd w0 mao (mt.map B8)) (hmz : mt.length ≤ 140737488351232) (hk : Cells w0 0 0 (kL.map B32)) (hf : Cells w0 1 0 (fL.map B32)) (hb : midBad mst md mt) :
    Calls Tryd.prog 26 #[.agg (midc mst md mao mt.length mca).toArray] w0 fun e w' => e = .returned (.tuple #[.pointer none, .int .i64 12]) ∧ Chg [] w0 w' :=
  (resume_walk mst hst md mt mao mca w0 hm hmz hk hf).mono fun e w' h => h.elim (fun h => h.2) (fun h => absurd hb h.1)
theorem resume_good (mst : List UInt32) (hst : mst.length = 8) (bf : Nat) (mt : List UInt8) (mao : Option Addr) (mca : Nat) (w0 : World) (hm : Rd w0 mao (mt.map B8)) (hmz : mt.length ≤ 140737488351232) (hk : Cells w0 0 0 (kL.map B32)) (hf : Cells w0 1 0 (fL.map B32)) (hb : ¬ midBad mst ((bf + mt.length : Nat) : Int) mt) :
    Calls Tryd.prog 26 #[.agg (midc mst ((bf + mt.length : Nat) : Int) mao mt.length mca).toArray] w0 fun e w' => ∃ b tl, e = .returned (.tuple #[.pointer (some ⟨b, 0, none⟩), .int .i64 0]) ∧ Left w0 w' [] [⟨some b, strm mst (bf + mt.length) tl, 91⟩] ∧ Stands mst mt mst tl :=
  (resume_walk mst hst _ mt mao mca w0 hm hmz hk hf).mono fun e w' h => h.elim (fun h => absurd h.1 hb) (fun h => h.2)
theorem resumer_bad (mst : List UInt32) (hst : mst.length = 8) (md : Int) (mt : List UInt8) (mao : Option Addr) (mca : Nat) (w0 : World) (hm : Rd w0 mao (mt.map B8)) (hmz : mt.length ≤ 140737488351232) (hb : midBad mst md mt) :
    Calls Tryd.prog 27 #[.agg (midc mst md mao mt.length mca).toArray] w0 fun e w' => e = .returned (.tuple #[.pointer none, .int .i64 12]) ∧ Chg [] w0 w' :=
  (resumer_walk mst hst md mt mao mca w0 hm hmz).mono fun e w' h => h.elim (fun h => h.2) (fun h => absurd hb h.1)
theorem resumer_good (mst : List UInt32) (hst : mst.length = 8) (bf : Nat) (mt : List UInt8) (mao : Option Addr) (mca : Nat) (w0 : World) (hm : Rd w0 mao (mt.map B8)) (hmz : mt.length ≤ 140737488351232) (hb : ¬ midBad mst ((bf + mt.length : Nat) : Int) mt) :
    Calls Tryd.prog 27 #[.agg (midc mst ((bf + mt.length : Nat) : Int) mao mt.length mca).toArray] w0 fun e w' => ∃ b g, e = .returned (.tuple #[.pointer (some ⟨b, 0, none⟩), .int .i64 0]) ∧ Left w0 w' [] (rsk b bf mst mt g) ∧ (mt.map B8 ++ g.sp).length = g.cap * 1 :=
  (resumer_walk mst hst _ mt mao mca w0 hm hmz).mono fun e w' h => h.elim (fun h => absurd h.1 hb) (fun ⟨_, b, g, h1, h2, h3⟩ => ⟨b, g, h1, by rwa [Int.toNat_natCast, Nat.add_sub_cancel] at h2, h3⟩)

set_option maxRecDepth 100000 in
theorem len_walk (bs bf : Nat) (st : List UInt32) (text tl : List UInt8) (w0 : World) (hst : st.length = 8) (hB : Blk w0 ⟨some bs, strm st (bf + text.length) tl, 91⟩) :
    Calls Tryd.prog 28 #[.pointer (some ⟨bs, 0, none⟩)] w0 fun e w' => e = .returned (.int .i64 ((bf + text.length : Nat) : Int)) ∧ Chg [] w0 w' := by
  refine calls_in Tryd.func28 Tryd.ntmps28 rfl rfl ?_
  have hp := Hp.start w0
  refine sc_seq ?_
  refine sc_region ?_
  refine st_v (ov_assign rfl) rfl ?_
  refine st_nil ?_
  refine pn_then ?_
  refine sc_seq ?_
  refine sc_seq ?_
  refine sc_region ?_
  refine st_v (ov_move rfl) rfl ?_
  refine st_v (ov_eqlP Tryd.underlying52 rfl rfl) rfl ?_
  refine st_nil ?_
  refine pn_then ?_
  refine sc_cond rfl (fun hc => ?_) (fun hc => ?_)
  · exact absurd hc (by simp)
  skip
  refine sc_skip ?_
  refine pn_then ?_
  refine sc_seq ?_
  refine sc_region ?_
  refine st_v (ov_move rfl) rfl ?_
  refine st_v (ov_nilCheck rfl) rfl ?_
  refine st_v (ov_field (q := _) rfl Tryd.underlying91 rfl sz3 rfl) rfl ?_
  refine st_v (ov_load1 rfl Tryd.underlying3 rfl (strm_done (hp.old hB.cells (by simp)) hst)) rfl ?_
  refine st_v (ov_assign rfl) rfl ?_
  refine st_nil ?_
  refine pn_then ?_
  refine sc_ret ?_
  refine pr_one rfl rfl ?_
  exact ⟨rfl, hp.chg⟩

set_option maxRecDepth 100000 in
theorem lenr_walk (br bf : Nat) (st0 : List UInt32) (text : List UInt8) (g : Gs) (w0 : World) (hst0 : st0.length = 8) (hB : Blk w0 ⟨some br, midc st0 (bf : Int) (adr g.ob) text.length g.cap, 97⟩) (hz : bf + text.length ≤ 2305843009213693951) :
    Calls Tryd.prog 29 #[.pointer (some ⟨br, 0, none⟩)] w0 fun e w' => e = .returned (.int .i64 ((bf + text.length : Nat) : Int)) ∧ Chg [] w0 w' := by
  refine calls_in Tryd.func29 Tryd.ntmps29 rfl rfl ?_
  have hp := Hp.start w0
  refine sc_seq ?_
  refine sc_region ?_
  refine st_v (ov_assign rfl) rfl ?_
  refine st_nil ?_
  refine pn_then ?_
  refine sc_seq ?_
  refine sc_seq ?_
  refine sc_region ?_
  refine st_v (ov_move rfl) rfl ?_
  refine st_v (ov_eqlP Tryd.underlying55 rfl rfl) rfl ?_
  refine st_nil ?_
  refine pn_then ?_
  refine sc_cond rfl (fun hc => ?_) (fun hc => ?_)
  · exact absurd hc (by simp)
  skip
  refine sc_skip ?_
  refine pn_then ?_
  refine sc_seq ?_
  refine sc_draws (by kernel_rfl) (by kernel_rfl) ?_
  replace hp := hp.drew
  refine ss_v (ov_move rfl) rfl ?_
  refine ss_v (ov_nilCheck rfl) rfl ?_
  refine ss_v (ov_field (q := _) rfl Tryd.underlying97 rfl sz3 rfl) rfl ?_
  refine ss_v (ov_load1 rfl Tryd.underlying3 rfl (midc_done (hp.old hB.cells (by simp)) hst0)) rfl ?_
  refine ss_v (ov_move rfl) rfl ?_
  refine ss_v (ov_nilCheck rfl) rfl ?_
  refine ss_v (ov_field (q := _) rfl Tryd.underlying97 rfl sz33 rfl) rfl ?_
  refine ss_v (ov_load1 rfl Tryd.underlying33 rfl (midc_tail (hp.old hB.cells (by simp)) hst0)) rfl ?_
  refine ss_v (ov_len rfl Tryd.underlying33 rfl) rfl ?_
  refine ss_v (ov_add_n (a := bf) (b := text.length) rfl rfl (by omega)) rfl ?_
  refine ss_v (ov_assign rfl) rfl ?_
  refine ss_end ?_
  refine pn_then ?_
  refine sc_ret ?_
  refine pr_one rfl rfl ?_
  exact ⟨rfl, hp.chg⟩

end Go.Proofs.YtcpbfnbfbladoaaDoor
