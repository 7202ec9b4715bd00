/-
  The walks of both Mids, Writes, of the plain Sum, of sameMid.
-/
import Derived.Test.YtcpbfnbfbladoaaDoorResA
namespace Go.Proofs.YtcpbfnbfbladoaaDoor
open Go Go.RowKit

set_option maxRecDepth 100000 in
theorem mid_walk (bs bf : Nat) (st0 st : List UInt32) (text tl : List UInt8) (w0 : World) (hst0 : st0.length = 8) (hS : Stands st0 text st tl) (hbf : bf % 64 = 0) (hB : Blk w0 ⟨some bs, strm st (bf + text.length) tl, 91⟩) (hz : bf + text.length ≤ 2305843009213693951) :
    Calls Tryd.prog 31 #[.pointer (some ⟨bs, 0, none⟩)] w0 fun e w' => ∃ g : Gs, e = .returned (.agg (midc (foldT st0 text) ((bf + text.length : Nat) : Int) (adr g.ob) (text.length % 64) g.cap).toArray) ∧ Mk w0 w' 5 1 ((tailOf text).map B8) g := by
  refine calls_in Tryd.func31 Tryd.ntmps31 rfl rfl ?_
  have hp := Hp.start w0
  obtain rfl : st = foldT st0 text := hS.state
  have hst : (foldT st0 text).length = 8 := foldB_len _ _ hst0 _
  have htl := hS.len
  have hnew : (tl.map B8).take (text.length % 64) = (tailOf text).map B8 := by rw [← List.map_take, hS.tail]; rfl
  refine sc_seq ?_
  refine sc_region ?_
  refine st_alloc 2 (midc (List.replicate 8 0) 0 none 0 0) hp rfl zl51 rfl (fun b2 w hp => ?_)
  refine st_nil ?_
  refine pn_then ?_
  refine sc_seq ?_
  refine sc_seq ?_
  refine sc_region ?_
  refine st_v (ov_move rfl) rfl ?_
  refine st_v (ov_eqlP Tryd.underlying52 rfl rfl) rfl ?_
  refine st_nil ?_
  refine pn_then ?_
  refine sc_cond rfl (fun hc => ?_) (fun hc => ?_)
  · exact absurd hc (by simp)
  skip
  refine sc_skip ?_
  refine pn_then ?_
  refine sc_seq ?_
  obtain ⟨Hs, hHs⟩ := (hp.sub (L' := [(2, _)]) (LSub.cons rfl (LSub.nil _))).hs
  refine sc_plan Hs [0, 1, 2, 3, 4, 5, 6, 7, 8] [9] (.take 0 (.take 1 (.take 2 (.load 3 (.take 4 (.take 5 (.take 6 (.load 7 (.take 8 (.one 9 (.one 10 .nil))))))))))) (by kernel_rfl) (by kernel_rfl) (by repeat (first | exact calm_body _ _ _ | refine calm_then ?_ | refine calm_block ?_ | refine calm_jump ?_ | refine calm_ng ?_)) ?_
  replace hp := hp.drew
  refine sp_take rfl (fun w => ov_move rfl) rfl ?_
  refine sp_take rfl (fun w => ov_nilCheck rfl) rfl ?_
  refine sp_take rfl (fun w => ov_field (q := _) rfl Tryd.underlying91 rfl sz24 rfl) rfl ?_
  refine sp_load rfl ((hHs _).2 (hp.sub (LSub.cons rfl (LSub.nil _)))) (fun w hs => have hp := (hHs w).1 hs; ov_loadN rfl Tryd.underlying24 rfl (sz24.trans (by simp [hst])) ((hp.old hB.cells (by simp))).left) rfl ?_
  refine sp_take rfl (fun w => ov_move rfl) rfl ?_
  refine sp_take rfl (fun w => ov_nilCheck rfl) rfl ?_
  refine sp_take rfl (fun w => ov_field (q := _) rfl Tryd.underlying91 rfl sz3 rfl) rfl ?_
  refine sp_load rfl ((hHs _).2 (hp.sub (LSub.cons rfl (LSub.nil _)))) (fun w hs => have hp := (hHs w).1 hs; ov_load1 rfl Tryd.underlying3 rfl (strm_done (hp.old hB.cells (by simp)) hst)) rfl ?_
  refine sp_take rfl (fun w => ov_buildS (pl := #[(0, 8), (8, 1), (9, 1)]) (cells := midc (foldT st0 text) ((bf + text.length : Nat) : Int) none 0 0) rfl Tryd.underlying51 zl51 (by intro w; kernel_rfl) (by exact fill_mid _ hst _)) rfl ?_
  refine sp_one rfl ?_
  refine st_alloc 3 (midc (List.replicate 8 0) 0 none 0 0) hp rfl zl51 rfl (fun b3 w hp => ?_)
  refine st_nil ?_
  refine sp_next (i := 9) (fun _ => ((hHs _).2 (hp.sub (LSub.cons rfl (LSub.nil _))))) ?_
  refine sp_one rfl ?_
  refine st_storeA 3 hp rfl rfl rfl (by simp [hst]) (sz51.trans (by rw [midc_len hst])) midc_one (fun w hp => ?_)
  refine st_nil ?_
  refine sp_next (i := 10) (fun h => absurd h (by decide)) ?_
  refine sp_nil ?_
  refine pn_then ?_
  refine sc_seq ?_
  refine sc_seq ?_
  refine sc_region ?_
  refine st_v (ov_move rfl) rfl ?_
  refine st_v (ov_nilCheck rfl) rfl ?_
  refine st_v (ov_field (q := _) rfl Tryd.underlying91 rfl sz3 rfl) rfl ?_
  refine st_v (ov_load1 rfl Tryd.underlying3 rfl (strm_done (hp.old hB.cells (by simp)) hst)) rfl ?_
  refine st_v (v := .int .i64 ((text.length % 64 : Nat) : Int)) ((ov_rem_n (a := bf + text.length) (b := 64) rfl rfl (by omega)).is (congrArg (Value.int .i64) (by omega))) rfl ?_
  refine st_v (ov_assign rfl) rfl ?_
  refine st_nil ?_
  refine pn_then ?_
  refine sc_seq ?_
  refine sc_region ?_
  refine st_v (ov_move rfl) rfl ?_
  refine st_v (ov_gtr rfl rfl) rfl ?_
  refine st_nil ?_
  refine pn_then ?_
  refine sc_cond rfl (fun hc => ?_) (fun hc => ?_)
  ·
    have hc := of_decide_eq_true hc
    refine sc_seq ?_
    refine sc_region ?_
    refine st_v (ov_move rfl) rfl ?_
    refine st_make1 25 (l := text.length % 64) (c := text.length % 64) hp rfl rfl rfl Tryd.underlying33 in5 ⟨by omega, by omega, by omega, by omega, by omega⟩ rfl (fun b25 w hp => ?_)
    refine st_v (ov_field (q := 9) rfl Tryd.underlying51 rfl sz33 rfl) rfl ?_
    refine st_store1 3 hp rfl rfl rfl rfl sz33 (by simp [hst]) (fun w hp => ?_)
    rw [midc_set9 hst] at hp
    refine st_nil ?_
    refine pn_then ?_
    refine sc_draws_tail 7 (by kernel_rfl) (by kernel_rfl) ?_
    replace hp := hp.drew
    simp only [List.take_succ_cons, List.take_zero, List.drop_succ_cons, List.drop_zero]
    refine ss_v (ov_field (q := 9) rfl Tryd.underlying51 rfl sz33 rfl) rfl ?_
    refine ss_v (ov_load1 rfl Tryd.underlying33 rfl (midc_tail (hp.cells' (t := 3) rfl) hst)) rfl ?_
    refine ss_v (ov_move rfl) rfl ?_
    refine ss_v (ov_nilCheck rfl) rfl ?_
    refine ss_v (ov_field (q := _) rfl Tryd.underlying91 rfl sz30 rfl) rfl ?_
    refine ss_v (ov_move rfl) rfl ?_
    refine ss_v (ov_sliceA_hi Tryd.underlying30 sz5 rfl rfl (by omega)) rfl ?_
    refine ss_tail ?_
    refine st_copy 25 (cs' := (tailOf text).map B8) (news := (tailOf text).map B8) (m := (text.length % 64)) (off := 0) (n' := (((text.length % 64) : Nat) : Int)) hp rfl rfl rfl rfl rfl Tryd.underlying33 sz5 (by simp only [Int.toNat_natCast]; omega) (fun _ => rfl) (by rw [← hnew]; exact Rd.of ((strm_tail (hp.old hB.cells (by simp)) hst).take _)) (by simp [tailOf_len]) (one_all _) (by simp) (by simp [tailOf_len]) rfl (fun w hp => ?_)
    replace hp := hp.eqc (cs' := (tailOf text).map B8 ++ []) (by simp)
    refine st_nil ?_
    refine pn_then ?_
    refine sc_seq ?_
    refine sc_region ?_
    refine st_v (ov_loadN rfl Tryd.underlying51 rfl (sz51.trans (by rw [midc_len hst])) (hp.cells' (t := 3) rfl)) rfl ?_
    refine st_storeA 2 hp rfl rfl rfl (by simp [hst]) (sz51.trans (by rw [midc_len hst])) midc_one (fun w hp => ?_)
    refine st_nil ?_
    refine pn_then ?_
    refine sc_ret ?_
    refine pr_rv1 rfl (rv_cells rfl Tryd.underlying51 rfl (sz51.trans (by rw [midc_len hst])) (hp.cells' (t := 2) rfl)) ?_
    exact ⟨⟨some b25, text.length % 64, []⟩, rfl, hp.gives 25 rfl (by simp [tailOf_len])⟩
  ·
    have hc := of_decide_eq_false hc
    refine sc_skip ?_
    refine pn_then ?_
    refine sc_seq ?_
    refine sc_region ?_
    refine st_v (ov_loadN rfl Tryd.underlying51 rfl (sz51.trans (by rw [midc_len hst])) (hp.cells' (t := 3) rfl)) rfl ?_
    refine st_storeA 2 hp rfl rfl rfl (by simp [hst]) (sz51.trans (by rw [midc_len hst])) midc_one (fun w hp => ?_)
    refine st_nil ?_
    refine pn_then ?_
    refine sc_ret ?_
    refine pr_rv1 rfl (rv_cells rfl Tryd.underlying51 rfl (sz51.trans (by rw [midc_len hst])) (hp.cells' (t := 2) rfl)) ?_
    have h0 : text.length % 64 = 0 := by omega
    have h1 : tailOf text = [] := List.eq_nil_of_length_eq_zero (by rw [tailOf_len]; exact h0)
    exact ⟨gnil, by rw [h0]; rfl, by rw [h1]; exact hp.gives0 _ _⟩

set_option maxRecDepth 100000 in
theorem midr_walk (br bf : Nat) (st0 : List UInt32) (text : List UInt8) (g : Gs) (w0 : World) (hst0 : st0.length = 8) (hB : Blk w0 ⟨some br, midc st0 (bf : Int) (adr g.ob) text.length g.cap, 97⟩) (hT : Blk w0 ⟨g.ob, text.map B8 ++ g.sp, 5⟩) (hz : bf + text.length ≤ 2305843009213693951) (hzt : text.length ≤ 140737488351232) :
    Calls Tryd.prog 32 #[.pointer (some ⟨br, 0, none⟩)] w0 fun e w' => ∃ g : Gs, e = .returned (.agg (midc (foldT st0 text) ((bf + text.length : Nat) : Int) (adr g.ob) (text.length % 64) g.cap).toArray) ∧ Mk w0 w' 5 1 ((tailOf text).map B8) g := by
  refine calls_in Tryd.func32 Tryd.ntmps32 rfl rfl ?_
  have hp := Hp.start w0
  have hst : (foldT st0 text).length = 8 := foldB_len _ _ hst0 _
  obtain ⟨q, hq⟩ : ∃ q, q = text.length - text.length % 64 := ⟨_, rfl⟩
  have h8 : (List.replicate 8 (0 : UInt32)).length = 8 := List.length_replicate
  refine sc_seq ?_
  refine sc_region ?_
  refine st_alloc 2 (midc (List.replicate 8 0) 0 none 0 0) hp rfl zl51 rfl (fun b2 w hp => ?_)
  refine st_nil ?_
  refine pn_then ?_
  refine sc_seq ?_
  refine sc_region ?_
  refine st_alloc 3 (midc (List.replicate 8 0) 0 none 0 0) hp rfl zl51 rfl (fun b3 w hp => ?_)
  refine st_nil ?_
  refine pn_then ?_
  refine sc_seq ?_
  refine sc_seq ?_
  refine sc_region ?_
  refine st_v (ov_move rfl) rfl ?_
  refine st_v (ov_eqlP Tryd.underlying55 rfl rfl) rfl ?_
  refine st_nil ?_
  refine pn_then ?_
  refine sc_cond rfl (fun hc => ?_) (fun hc => ?_)
  · exact absurd hc (by simp)
  skip
  refine sc_skip ?_
  refine pn_then ?_
  refine sc_seq ?_
  refine sc_draws_tail 11 (by kernel_rfl) (by kernel_rfl) ?_
  replace hp := hp.drew
  simp only [List.take_succ_cons, List.take_zero, List.drop_succ_cons, List.drop_zero]
  refine ss_v (ov_move rfl) rfl ?_
  refine ss_v (ov_nilCheck rfl) rfl ?_
  refine ss_v (ov_field (q := _) rfl Tryd.underlying97 rfl sz3 rfl) rfl ?_
  refine ss_v (ov_load1 rfl Tryd.underlying3 rfl (midc_done (hp.old hB.cells (by simp)) hst0)) rfl ?_
  refine ss_v (ov_move rfl) rfl ?_
  refine ss_v (ov_nilCheck rfl) rfl ?_
  refine ss_v (ov_field (q := _) rfl Tryd.underlying97 rfl sz33 rfl) rfl ?_
  refine ss_v (ov_load1 rfl Tryd.underlying33 rfl (midc_tail (hp.old hB.cells (by simp)) hst0)) rfl ?_
  refine ss_v (ov_len rfl Tryd.underlying33 rfl) rfl ?_
  refine ss_v (ov_add_n (a := bf) (b := text.length) rfl rfl (by omega)) rfl ?_
  refine ss_v (ov_field (q := 8) rfl Tryd.underlying51 rfl sz3 rfl) rfl ?_
  refine ss_tail ?_
  refine st_store1 3 hp rfl rfl rfl rfl sz3 (by simp) (fun w hp => ?_)
  rw [midc_set8 h8] at hp
  refine st_nil ?_
  refine pn_then ?_
  refine sc_seq ?_
  refine sc_draws_tail 8 (by kernel_rfl) (by kernel_rfl) ?_
  replace hp := hp.drew
  simp only [List.take_succ_cons, List.take_zero, List.drop_succ_cons, List.drop_zero]
  refine ss_v (ov_move rfl) rfl ?_
  refine ss_v (ov_nilCheck rfl) rfl ?_
  refine ss_v (ov_field (q := _) rfl Tryd.underlying97 rfl sz24 rfl) rfl ?_
  refine ss_v (ov_loadN rfl Tryd.underlying24 rfl (sz24.trans (by simp [hst0])) ((hp.old hB.cells (by simp))).left) rfl ?_
  refine ss_v (ov_move rfl) rfl ?_
  refine ss_v (ov_nilCheck rfl) rfl ?_
  refine ss_v (ov_field (q := _) rfl Tryd.underlying97 rfl sz33 rfl) rfl ?_
  refine ss_v (ov_load1 rfl Tryd.underlying33 rfl (midc_tail (hp.old hB.cells (by simp)) hst0)) rfl ?_
  refine ss_tail ?_
  refine st_call pl62 rfl rfl rfl (fold_walk st0 hst0 text _ _ _ ((Rd.own hT).chg hp.chg) (by omega)) ?_
  rintro _ w ⟨rfl, hch⟩
  refine ⟨_, rfl, ?_⟩
  replace hp := hp.call hch
  clear hch
  refine st_v (ov_field (q := 0) rfl Tryd.underlying51 rfl sz24 rfl) rfl ?_
  refine st_storeM 3 [] ((List.replicate 8 (0 : UInt32)).map B32) [Value.int .i64 ((bf + text.length : Nat) : Int), Value.slice none 0 0] (new := (foldT st0 text).map B32) hp rfl rfl rfl rfl rfl (by simp [hst]) (sz24.trans (by simp [hst])) (one_all _) (fun w hp => ?_)
  replace hp := hp.eqc (cs' := midc (foldT st0 text) ((bf + text.length : Nat) : Int) none 0 0) rfl
  refine st_nil ?_
  refine pn_then ?_
  refine sc_seq ?_
  refine sc_seq ?_
  refine sc_draws (by kernel_rfl) (by kernel_rfl) ?_
  replace hp := hp.drew
  refine ss_v (ov_move rfl) rfl ?_
  refine ss_v (ov_nilCheck rfl) rfl ?_
  refine ss_v (ov_field (q := _) rfl Tryd.underlying97 rfl sz33 rfl) rfl ?_
  refine ss_v (ov_load1 rfl Tryd.underlying33 rfl (midc_tail (hp.old hB.cells (by simp)) hst0)) rfl ?_
  refine ss_v (ov_len rfl Tryd.underlying33 rfl) rfl ?_
  refine ss_v (ov_move rfl) rfl ?_
  refine ss_v (ov_nilCheck rfl) rfl ?_
  refine ss_v (ov_field (q := _) rfl Tryd.underlying97 rfl sz33 rfl) rfl ?_
  refine ss_v (ov_load1 rfl Tryd.underlying33 rfl (midc_tail (hp.old hB.cells (by simp)) hst0)) rfl ?_
  refine ss_v (ov_len rfl Tryd.underlying33 rfl) rfl ?_
  refine ss_v (ov_rem_n (a := text.length) (b := 64) rfl rfl (by omega)) rfl ?_
  refine ss_v (ov_sub_n (a := text.length) (b := text.length % 64) rfl rfl (by omega)) rfl ?_
  rw [← hq]
  refine ss_v (ov_assign rfl) rfl ?_
  replace hp := hp.nil 50 5
  refine ss_end ?_
  refine pn_then ?_
  refine sc_block ?_
  refine sc_loopH2 (α := Nat) (β := Gs) (kv := [(0, _), (2, _), (3, _)]) (kl := [(2, _)]) (fun j h kv => (4, .int .i64 ((q + j : Nat) : Int)) :: kv) (fun j h kl => (3, ⟨some b3, midc (foldT st0 text) ((bf + text.length : Nat) : Int) (adr h.ob) j h.cap, 51⟩) :: (50, ⟨h.ob, ((tailOf text).take j).map B8 ++ h.sp, 5⟩) :: kl) (fun j h => (j ≤ text.length % 64) ∧ ((((tailOf text).take j).map B8 ++ h.sp).length = h.cap * 1)) (fun j h => text.length - (q + j)) 0 gnil hp (Sub.cons rfl (Sub.cons rfl (Sub.cons rfl (Sub.cons rfl (Sub.nil _))))) (LSub.cons rfl (LSub.cons rfl (LSub.cons rfl (LSub.nil _)))) ?_ ?_
  · exact ⟨(by first | omega | (simp; done) | (simp; omega) | (simp [*]; omega)), rfl⟩
  intro j h w hp hx
  obtain ⟨hj, hcap⟩ := hx
  refine sc_seq ?_
  refine sc_seq ?_
  refine sc_region ?_
  refine st_v (ov_move rfl) rfl ?_
  refine st_v (ov_move rfl) rfl ?_
  refine st_v (ov_nilCheck rfl) rfl ?_
  refine st_v (ov_field (q := _) rfl Tryd.underlying97 rfl sz33 rfl) rfl ?_
  refine st_v (ov_load1 rfl Tryd.underlying33 rfl (midc_tail (hp.old hB.cells (by simp)) hst0)) rfl ?_
  refine st_v (ov_len rfl Tryd.underlying33 rfl) rfl ?_
  refine st_v (ov_lss rfl rfl) rfl ?_
  refine st_nil ?_
  refine pn_then ?_
  refine sc_cond rfl (fun hc => ?_) (fun hc => ?_)
  ·
    have hc := of_decide_eq_true hc
    refine sc_skip ?_
    refine pn_then ?_
    refine sc_seq ?_
    refine sc_block ?_
    obtain ⟨Hs, hHs⟩ := (hp.sub (L' := [(3, _)]) (LSub.cons rfl (LSub.nil _))).hs
    refine sc_plan Hs [0, 1, 2, 3, 4, 5, 6, 7, 8, 11] [9] (.take 0 (.load 1 (.take 2 (.take 3 (.take 4 (.load 5 (.take 6 (.take 7 (.load 8 (.one 9 (.one 10 (.take 11 (.one 12 .nil))))))))))))) (by kernel_rfl) (by kernel_rfl) (by repeat (first | exact calm_body _ _ _ | refine calm_then ?_ | refine calm_block ?_ | refine calm_jump ?_ | refine calm_ng ?_)) ?_
    replace hp := hp.drew
    refine sp_take rfl (fun w => ov_field (q := 9) rfl Tryd.underlying51 rfl sz33 rfl) rfl ?_
    refine sp_load rfl ((hHs _).2 (hp.sub (LSub.cons rfl (LSub.nil _)))) (fun w hs => have hp := (hHs w).1 hs; ov_load1 rfl Tryd.underlying33 rfl (midc_tail (hp.cells' (t := 3) rfl) hst)) rfl ?_
    refine sp_take rfl (fun w => ov_move rfl) rfl ?_
    refine sp_take rfl (fun w => ov_nilCheck rfl) rfl ?_
    refine sp_take rfl (fun w => ov_field (q := _) rfl Tryd.underlying97 rfl sz33 rfl) rfl ?_
    refine sp_load rfl ((hHs _).2 (hp.sub (LSub.cons rfl (LSub.nil _)))) (fun w hs => have hp := (hHs w).1 hs; ov_load1 rfl Tryd.underlying33 rfl (midc_tail (hp.old hB.cells (by simp)) hst0)) rfl ?_
    refine sp_take rfl (fun w => ov_move rfl) rfl ?_
    obtain ⟨bb1, oo1, hadr1, hcl1⟩ := (((Rd.own hT).chg hp.chg)).pos (by simp; omega)
    refine sp_take rfl (fun w => ov_indexR hadr1 rfl rfl Tryd.underlying33 sz5 (by omega)) rfl ?_
    refine sp_load rfl ((hHs _).2 (hp.sub (LSub.cons rfl (LSub.nil _)))) (fun w hs => have hp := (hHs w).1 hs; ov_load1 rfl Tryd.underlying5 rfl (Cells.elem' ((((Rd.own hT).chg hp.chg)).at_adr hadr1 (by simp; omega)) (q + j) (by first | omega | (simp; omega) | (simp [*]; omega)) 0)) rfl ?_
    refine sp_one rfl ?_
    refine st_build 59 (cells := [B8 ((text).getD (q + j) 0)]) hp rfl rfl Tryd.underlying33 (in2_of in5) (by decide) (by kernel_rfl) (fun b59 w hb59 hp => ?_)
    refine st_nil ?_
    refine sp_next (i := 9) (fun _ => ((hHs _).2 (hp.sub (LSub.cons rfl (LSub.nil _))))) ?_
    refine sp_one rfl ?_
    refine st_append 50 h (news := [B8 (text.getD (q + j) 0)]) (m := 1) hp rfl rfl rfl rfl rfl Tryd.underlying33 in5 (by decide) rfl (by simp [tailOf_len]; omega) hcap ((Rd.of (hp.cells' (t := 59) rfl))) rfl (by simp [Value.oneCell']) (by omega) (fun h2 w hp hcap2 hf50 => ?_)
    refine st_nil ?_
    refine sp_next (i := 10) (fun h => absurd h (by decide)) ?_
    have e2 : ((tailOf text).take j).map B8 ++ [B8 (text.getD (q + j) 0)] = ((tailOf text).take (j + 1)).map B8 := by
      rw [take_snoc8 (by rw [tailOf_len]; omega) 0, List.map_append]; unfold tailOf; rw [getD_drop, show 64 * (text.length / 64) = q by omega]; rfl
    rw [e2] at hp hcap2
    refine sp_take rfl (fun w => ov_field (q := 9) rfl Tryd.underlying51 rfl sz33 rfl) rfl ?_
    refine sp_one rfl ?_
    refine st_store1 3 hp rfl rfl rfl rfl sz33 (by simp [hst]) (fun w hp => ?_)
    rw [midc_set9 hst] at hp
    refine st_nil ?_
    refine sp_next (i := 12) (fun h => absurd h (by decide)) ?_
    refine sp_nil ?_
    refine pn_block ?_
    refine pn_then ?_
    refine sc_region ?_
    refine st_v (ov_move rfl) rfl ?_
    refine st_v (ov_add_n (a := q + j) (b := 1) rfl rfl (by omega)) rfl ?_
    refine st_v (ov_assign rfl) rfl ?_
    refine st_nil ?_
    refine pn_roundH2 (j + 1) h2 hp (Sub.cons rfl (Sub.cons rfl (Sub.cons rfl (Sub.cons rfl (Sub.nil _))))) ?_ (LSub.cons rfl (LSub.cons rfl (LSub.cons rfl (LSub.nil _)))) ?_
    · omega
    exact ⟨(by first | omega | (simp; done) | (simp; omega) | (simp [*]; omega)), hcap2⟩
  ·
    have hc := of_decide_eq_false hc
    obtain rfl : j = text.length % 64 := by omega
    rw [List.take_of_length_le (by rw [tailOf_len]; omega)] at hp hcap
    refine sc_exit ?_
    refine pe_then ?_
    refine pe_then ?_
    refine pe_hit ?_
    refine pn_then ?_
    refine sc_seq ?_
    refine sc_region ?_
    refine st_v (ov_loadN rfl Tryd.underlying51 rfl (sz51.trans (by rw [midc_len hst])) (hp.cells' (t := 3) rfl)) rfl ?_
    refine st_storeA 2 hp rfl rfl rfl (by simp [hst]) (sz51.trans (by rw [midc_len hst])) midc_one (fun w hp => ?_)
    refine st_nil ?_
    refine pn_then ?_
    refine sc_ret ?_
    refine pr_rv1 rfl (rv_cells rfl Tryd.underlying51 rfl (sz51.trans (by rw [midc_len hst])) (hp.cells' (t := 2) rfl)) ?_
    exact ⟨h, rfl, hp.gives 50 rfl hcap⟩

set_option maxRecDepth 100000 in
theorem samemid_walk (st : List UInt32) (d : Int) (a : List UInt8) {n : Nat} (ao bo : Option Addr) (ca cb : Nat) (w0 : World) (hst : st.length = 8) (h1 : Rd w0 ao (a.map B8)) (h2 : Rd w0 bo (a.map B8)) (ha : a.length = n) (hz : a.length ≤ 140737488351232) :
    Calls Tryd.prog 30 #[.agg (midc st d ao n ca).toArray, .agg (midc st d bo n cb).toArray] w0 fun e w' => e = .returned (.bool true) ∧ Chg [] w0 w' := by
  refine calls_in Tryd.func30 Tryd.ntmps30 rfl rfl ?_
  have hp := Hp.start w0
  subst ha
  refine sc_seq ?_
  refine sc_region ?_
  refine st_box 2 hp rfl rfl rfl (fun b2 w hp => ?_)
  refine st_box 3 hp rfl rfl rfl (fun b3 w hp => ?_)
  refine st_v (ov_assign rfl) rfl ?_
  refine st_nil ?_
  refine pn_then ?_
  refine sc_seq ?_
  refine sc_region ?_
  refine st_v (ov_field (q := 0) rfl Tryd.underlying51 rfl sz24 rfl) rfl ?_
  refine st_v (ov_loadN rfl Tryd.underlying24 rfl (sz24.trans (by simp [hst])) ((hp.cells' (t := 2) rfl)).left) rfl ?_
  refine st_v (ov_field (q := 0) rfl Tryd.underlying51 rfl sz24 rfl) rfl ?_
  refine st_v (ov_loadN rfl Tryd.underlying24 rfl (sz24.trans (by simp [hst])) ((hp.cells' (t := 3) rfl)).left) rfl ?_
  refine st_v (v := .bool true) ((ov_eqlA (k := .u32) (g := fun x : UInt32 => (x.toNat : Int))  inj32 Tryd.underlying24 Tryd.underlying22 sz22 gd24 rfl rfl ⟨hst, hst⟩).is ((by simp))) rfl ?_
  refine st_v (ov_move rfl) rfl ?_
  refine st_on (j := 5) rfl rfl ?_
  refine st_v (ov_field (q := 8) rfl Tryd.underlying51 rfl sz3 rfl) rfl ?_
  refine st_on (j := 5) rfl rfl ?_
  refine st_v (ov_load1 rfl Tryd.underlying3 rfl (midc_done (hp.cells' (t := 2) rfl) hst)) rfl ?_
  refine st_on (j := 5) rfl rfl ?_
  refine st_v (ov_field (q := 8) rfl Tryd.underlying51 rfl sz3 rfl) rfl ?_
  refine st_on (j := 5) rfl rfl ?_
  refine st_v (ov_load1 rfl Tryd.underlying3 rfl (midc_done (hp.cells' (t := 3) rfl) hst)) rfl ?_
  refine st_on (j := 5) rfl rfl ?_
  refine st_v (v := .bool true) ((ov_eql rfl rfl).is ((by simp))) rfl ?_
  refine st_v (ov_pick_t rfl rfl) rfl ?_
  refine st_v (ov_move rfl) rfl ?_
  refine st_on (j := 12) rfl rfl ?_
  refine st_v (ov_field (q := 9) rfl Tryd.underlying51 rfl sz33 rfl) rfl ?_
  refine st_on (j := 12) rfl rfl ?_
  refine st_v (ov_load1 rfl Tryd.underlying33 rfl (midc_tail (hp.cells' (t := 2) rfl) hst)) rfl ?_
  refine st_on (j := 12) rfl rfl ?_
  refine st_v (ov_field (q := 9) rfl Tryd.underlying51 rfl sz33 rfl) rfl ?_
  refine st_on (j := 12) rfl rfl ?_
  refine st_v (ov_load1 rfl Tryd.underlying33 rfl (midc_tail (hp.cells' (t := 3) rfl) hst)) rfl ?_
  refine st_on (j := 12) rfl rfl ?_
  refine st_call pl25 rfl rfl rfl (same2_walk_eq a _ _ _ _ _ ((h1.chg hp.chg)) ((h2.chg hp.chg)) (by first | rfl | omega | (simp; done) | (simp; omega) | (simp [*]; omega)) (by first | rfl | omega | (simp; done) | (simp; omega) | (simp [*]; omega)) (by first | omega | (simp; omega))) ?_
  rintro _ w ⟨rfl, hch⟩
  refine ⟨_, rfl, ?_⟩
  replace hp := hp.call hch
  clear hch
  refine st_v (ov_pick_t rfl rfl) rfl ?_
  refine st_v (ov_assign rfl) rfl ?_
  refine st_nil ?_
  refine pn_then ?_
  refine sc_ret ?_
  refine pr_one rfl rfl ?_
  exact ⟨rfl, hp.chg⟩

set_option maxRecDepth 100000 in
theorem write_walk (bs bf : Nat) (st0 st : List UInt32) (text tl b : List UInt8) {nb : Nat} (ao : Option Addr) (ca : Nat) (w0 : World) (hst0 : st0.length = 8) (hS : Stands st0 text st tl) (hbf : bf % 64 = 0) (hB : Blk w0 ⟨some bs, strm st (bf + text.length) tl, 91⟩)
    (h1 : Rd w0 ao (b.map B8)) (hb : b.length = nb) (hca : b.length ≤ ca) (hne : Off bs ao (b.map B8)) (hz : bf + text.length ≤ 2305843009213693951) (hzb : b.length ≤ 140737488351232) (hk : Cells w0 0 0 (kL.map B32)) (hk0 : bs ≠ 0) :
    Calls Tryd.prog 35 #[.pointer (some ⟨bs, 0, none⟩), .slice ao nb ca] w0 fun e w' => e = .returned (.int .i64 (wroteE bf text b)) ∧ Chg [bs] w0 w' ∧ ∃ st' tl', Blk w' ⟨some bs, strm st' (bf + (wrote bf text b).length) tl', 91⟩ ∧ Stands st0 (wrote bf text b) st' tl' := by
  refine calls_in Tryd.func35 Tryd.ntmps35 rfl rfl ?_
  have hp : Hp w0 [bs] [(0, ⟨some bs, strm st (bf + text.length) tl, 91⟩)] [] w0 := Hp.start1 hB
  have hstl : st.length = 8 := by rw [hS.state]; exact foldB_len _ _ hst0 _
  subst hb
  refine sc_seq ?_
  refine sc_region ?_
  refine st_v (ov_assign rfl) rfl ?_
  refine st_nil ?_
  refine pn_then ?_
  refine sc_seq ?_
  refine sc_seq ?_
  refine sc_region ?_
  refine st_v (ov_move rfl) rfl ?_
  refine st_v (ov_eqlP Tryd.underlying52 rfl rfl) rfl ?_
  refine st_nil ?_
  refine pn_then ?_
  refine sc_cond rfl (fun hc => ?_) (fun hc => ?_)
  · exact absurd hc (by simp)
  skip
  refine sc_skip ?_
  refine pn_then ?_
  refine sc_seq ?_
  refine sc_seq ?_
  refine sc_region ?_
  refine st_v (ov_move rfl) rfl ?_
  refine st_v (ov_len rfl Tryd.underlying33 rfl) rfl ?_
  refine st_v (ov_move rfl) rfl ?_
  refine st_v (ov_nilCheck rfl) rfl ?_
  refine st_v (ov_field (q := 8) rfl Tryd.underlying91 rfl sz3 rfl) rfl ?_
  refine st_v (ov_load1 rfl Tryd.underlying3 rfl (strm_done (hp.cells' (t := 0) rfl) hstl)) rfl ?_
  refine st_v (ov_sub_n (a := 2305843009213693951) (b := bf + text.length) rfl rfl (by omega)) rfl ?_
  refine st_v (ov_gtr rfl rfl) rfl ?_
  refine st_nil ?_
  refine pn_then ?_
  refine sc_cond rfl (fun hc => ?_) (fun hc => ?_)
  ·
    have hc := of_decide_eq_true hc
    refine sc_seq ?_
    refine sc_region ?_
    refine st_v (ov_assign rfl) rfl ?_
    refine st_nil ?_
    refine pn_then ?_
    refine sc_ret ?_
    refine pr_then ?_
    refine pr_one rfl rfl ?_
    have hE : wrote bf text b = text := by unfold wrote; rw [if_neg (by omega)]
    exact ⟨by unfold wroteE; rw [if_neg (by omega)], hp.chg, st, tl, by rw [hE]; exact hp.own 0 _ rfl, by rw [hE]; exact hS⟩
  ·
    have hc := of_decide_eq_false hc
    refine sc_skip ?_
    refine pn_then ?_
    refine sc_seq ?_
    refine sc_region ?_
    refine st_v (ov_move rfl) rfl ?_
    refine st_v (ov_move rfl) rfl ?_
    refine st_call pl57 rfl rfl rfl (take_walk bs (bf + text.length) st0 st tl text b ao ca _ hst0 hS (by omega) (hp.own 0 _ rfl) (h1.chgS hp.chg hne) hca hne (by omega) (hp.old hk (by simpa using Ne.symm hk0)) hk0) ?_
    rintro _ w ⟨rfl, hch, st', tl', hB', hS'⟩
    refine ⟨_, rfl, ?_⟩
    replace hp := hp.upd (t := 0) rfl hch hB'
    clear hch hB'
    refine st_nil ?_
    refine pn_then ?_
    refine sc_seq ?_
    refine sc_region ?_
    refine st_v (ov_assign rfl) rfl ?_
    refine st_nil ?_
    refine pn_then ?_
    refine sc_ret ?_
    refine pr_one rfl rfl ?_
    have hE : wrote bf text b = text ++ b := by unfold wrote; rw [if_pos (by omega)]
    exact ⟨by unfold wroteE; rw [if_pos (by omega)], hp.chg, st', tl', by rw [hE, List.length_append, ← Nat.add_assoc]; exact hp.own 0 _ rfl, by rw [hE]; exact hS'⟩

set_option maxRecDepth 100000 in
theorem writer_walk (br bf : Nat) (st0 : List UInt32) (text : List UInt8) (g : Gs) (b : List UInt8) {nb : Nat} (ao : Option Addr) (ca : Nat) (w0 : World) (hst0 : st0.length = 8) (hO : Owns w0 (rsk br bf st0 text g)) (hcg : (text.map B8 ++ g.sp).length = g.cap * 1)
    (h1 : Rd w0 ao (b.map B8)) (hoff : Offs (rsk br bf st0 text g) ao (b.map B8)) (hb : b.length = nb) (hz : bf + text.length ≤ 2305843009213693951) (hzb : text.length + b.length ≤ 70368744177664) :
    Calls Tryd.prog 36 #[.pointer (some ⟨br, 0, none⟩), .slice ao nb ca] w0 fun e w' => e = .returned (.int .i64 (wroteE bf text b)) ∧ ∃ g' : Gs, Left w0 w' (rsk br bf st0 text g) (rsk br bf st0 (wrote bf text b) g') ∧ ((wrote bf text b).map B8 ++ g'.sp).length = g'.cap * 1 := by
  refine calls_in Tryd.func36 Tryd.ntmps36 rfl rfl ?_
  have hp : Hp w0 (blks (rsk br bf st0 text g)) [(0, ⟨some br, midc st0 (bf : Int) (adr g.ob) text.length g.cap, 97⟩), (100, ⟨g.ob, text.map B8 ++ g.sp, 5⟩)] [] w0 := Hp.begin [0, 100] hO
  subst hb
  refine sc_seq ?_
  refine sc_region ?_
  refine st_v (ov_assign rfl) rfl ?_
  refine st_nil ?_
  refine pn_then ?_
  refine sc_seq ?_
  refine sc_seq ?_
  refine sc_region ?_
  refine st_v (ov_move rfl) rfl ?_
  refine st_v (ov_eqlP Tryd.underlying55 rfl rfl) rfl ?_
  refine st_nil ?_
  refine pn_then ?_
  refine sc_cond rfl (fun hc => ?_) (fun hc => ?_)
  · exact absurd hc (by simp)
  skip
  refine sc_skip ?_
  refine pn_then ?_
  refine sc_seq ?_
  refine sc_seq ?_
  refine sc_draws (by kernel_rfl) (by kernel_rfl) ?_
  replace hp := hp.drew
  refine ss_v (ov_move rfl) rfl ?_
  refine ss_v (ov_len rfl Tryd.underlying33 rfl) rfl ?_
  refine ss_v (ov_move rfl) rfl ?_
  refine ss_v (ov_nilCheck rfl) rfl ?_
  refine ss_v (ov_field (q := 8) rfl Tryd.underlying97 rfl sz3 rfl) rfl ?_
  refine ss_v (ov_load1 rfl Tryd.underlying3 rfl (midc_done (hp.cells' (t := 0) rfl) hst0)) rfl ?_
  refine ss_v (ov_sub_n (a := 2305843009213693951) (b := bf) rfl rfl (by omega)) rfl ?_
  refine ss_v (ov_move rfl) rfl ?_
  refine ss_v (ov_nilCheck rfl) rfl ?_
  refine ss_v (ov_field (q := 9) rfl Tryd.underlying97 rfl sz33 rfl) rfl ?_
  refine ss_v (ov_load1 rfl Tryd.underlying33 rfl (midc_tail (hp.cells' (t := 0) rfl) hst0)) rfl ?_
  refine ss_v (ov_len rfl Tryd.underlying33 rfl) rfl ?_
  refine ss_v (ov_sub_n (a := 2305843009213693951 - bf) (b := text.length) rfl rfl (by omega)) rfl ?_
  refine ss_v (ov_gtr rfl rfl) rfl ?_
  refine ss_end ?_
  refine pn_then ?_
  refine sc_cond rfl (fun hc => ?_) (fun hc => ?_)
  ·
    have hc := of_decide_eq_true hc
    refine sc_seq ?_
    refine sc_region ?_
    refine st_v (ov_assign rfl) rfl ?_
    refine st_nil ?_
    refine pn_then ?_
    refine sc_ret ?_
    refine pr_then ?_
    refine pr_one rfl rfl ?_
    have hE : wrote bf text b = text := by unfold wrote; rw [if_neg (by omega)]
    exact ⟨by unfold wroteE; rw [if_neg (by omega)], g, by rw [hE]; exact hp.left' (i := rsk br bf st0 text g) [0, 100] (by simp) rfl, by rw [hE]; exact hcg⟩
  ·
    have hc := of_decide_eq_false hc
    refine sc_skip ?_
    refine pn_then ?_
    refine sc_seq ?_
    refine sc_region ?_
    refine st_v (ov_move rfl) rfl ?_
    refine st_v (ov_move rfl) rfl ?_
    refine st_v (ov_nilCheck rfl) rfl ?_
    refine st_v (ov_field (q := 9) rfl Tryd.underlying97 rfl sz33 rfl) rfl ?_
    refine st_v (ov_load1 rfl Tryd.underlying33 rfl (midc_tail (hp.cells' (t := 0) rfl) hst0)) rfl ?_
    refine st_v (ov_move rfl) rfl ?_
    refine st_append 100 g (xs := text.map B8) (news := b.map B8) (m := b.length) hp rfl rfl rfl rfl rfl Tryd.underlying33 in5 (by decide) rfl (by first | omega | (simp; done) | (simp; omega) | (simp [*]; omega)) hcg ((h1.chgL hp.chg hoff)) (by simp) (one_all _) (by omega) (fun g2 w hp hcg2 hf100 => ?_)
    rw [← List.map_append, ← List.length_append] at *
    refine st_v (ov_nilCheck rfl) rfl ?_
    refine st_v (ov_field (q := 9) rfl Tryd.underlying97 rfl sz33 rfl) rfl ?_
    refine st_store1 0 hp rfl rfl rfl rfl sz33 (by simp [hst0]) (fun w hp => ?_)
    rw [midc_set9 hst0] at hp
    refine st_nil ?_
    refine pn_then ?_
    refine sc_seq ?_
    refine sc_region ?_
    refine st_v (ov_assign rfl) rfl ?_
    refine st_nil ?_
    refine pn_then ?_
    refine sc_ret ?_
    refine pr_one rfl rfl ?_
    have hE : wrote bf text b = text ++ b := by unfold wrote; rw [if_pos (by omega)]
    exact ⟨by unfold wroteE; rw [if_pos (by omega)], g2, by rw [hE]; exact hp.left' (i := rsk br bf st0 text g) [0, 100] (by simp) rfl, by rw [hE]; exact hcg2⟩

set_option maxRecDepth 100000 in
theorem sumq_walk (br bf : Nat) (st0 : List UInt32) (text : List UInt8) (g : Gs) (w0 : World) (hst0 : st0.length = 8) (hB : Blk w0 ⟨some br, midc st0 (bf : Int) (adr g.ob) text.length g.cap, 97⟩) (hT : Blk w0 ⟨g.ob, text.map B8 ++ g.sp, 5⟩) (hz : bf + text.length ≤ 2305843009213693951) (hzt : text.length ≤ 140737488351232) :
    Calls Tryd.prog 34 #[.pointer (some ⟨br, 0, none⟩)] w0 fun e w' => e = .returned (.agg ((endOf st0 bf text).map B8).toArray) ∧ Chg [] w0 w' := by
  refine calls_in Tryd.func34 Tryd.ntmps34 rfl rfl ?_
  have hp := Hp.start w0
  refine sc_seq ?_
  refine sc_region ?_
  refine st_alloc 2 ((List.replicate 32 (0 : UInt8)).map B8) hp rfl zl39 rfl (fun b2 w hp => ?_)
  refine st_nil ?_
  refine pn_then ?_
  refine sc_seq ?_
  refine sc_seq ?_
  refine sc_region ?_
  refine st_v (ov_move rfl) rfl ?_
  refine st_v (ov_eqlP Tryd.underlying55 rfl rfl) rfl ?_
  refine st_nil ?_
  refine pn_then ?_
  refine sc_cond rfl (fun hc => ?_) (fun hc => ?_)
  · exact absurd hc (by simp)
  skip
  refine sc_skip ?_
  refine pn_then ?_
  refine sc_seq ?_
  refine sc_draws_tail 12 (by kernel_rfl) (by kernel_rfl) ?_
  replace hp := hp.drew
  simp only [List.take_succ_cons, List.take_zero, List.drop_succ_cons, List.drop_zero]
  refine ss_v (ov_move rfl) rfl ?_
  refine ss_v (ov_nilCheck rfl) rfl ?_
  refine ss_v (ov_field (q := _) rfl Tryd.underlying97 rfl sz24 rfl) rfl ?_
  refine ss_v (ov_loadN rfl Tryd.underlying24 rfl (sz24.trans (by simp [hst0])) ((hp.old hB.cells (by simp))).left) rfl ?_
  refine ss_v (ov_move rfl) rfl ?_
  refine ss_v (ov_nilCheck rfl) rfl ?_
  refine ss_v (ov_field (q := _) rfl Tryd.underlying97 rfl sz3 rfl) rfl ?_
  refine ss_v (ov_load1 rfl Tryd.underlying3 rfl (midc_done (hp.old hB.cells (by simp)) hst0)) rfl ?_
  refine ss_v (ov_move rfl) rfl ?_
  refine ss_v (ov_nilCheck rfl) rfl ?_
  refine ss_v (ov_field (q := _) rfl Tryd.underlying97 rfl sz33 rfl) rfl ?_
  refine ss_v (ov_load1 rfl Tryd.underlying33 rfl (midc_tail (hp.old hB.cells (by simp)) hst0)) rfl ?_
  refine ss_tail ?_
  refine st_call pl63 rfl rfl rfl (end_walk st0 hst0 bf text _ _ _ ((Rd.own hT).chg hp.chg) hzt hz) ?_
  rintro _ w ⟨rfl, hch⟩
  refine ⟨_, rfl, ?_⟩
  replace hp := hp.call hch
  clear hch
  refine st_storeA 2 hp rfl rfl rfl (by simp [endOf_len]) (sz39.trans (by simp [endOf_len])) (one_all _) (fun w hp => ?_)
  refine st_nil ?_
  refine pn_then ?_
  refine sc_ret ?_
  refine pr_rv1 rfl (rv_cells rfl Tryd.underlying39 rfl (sz39.trans (by simp [endOf_len])) (hp.cells' (t := 2) rfl)) ?_
  exact ⟨rfl, hp.chg⟩

end Go.Proofs.YtcpbfnbfbladoaaDoor
