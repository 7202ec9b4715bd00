/-
  The walk of climb.
-/
import Derived.Test.YtjdolgfhcjnniaaDoorLayA
namespace Go.Proofs.YtjdolgfhcjnniaaDoor
open Go Go.RowKit

set_option maxRecDepth 100000 in
theorem climb_walk (B W : Int) (row : List Hs) {nr : Nat} (ao : Option Addr) (ca f k : Nat) (w0 : World) (h1 : Rd w0 ao (row.flatMap hcs)) (hr : row.length = nr) (hz : row.length ≤ 1048576) (hk : k ≤ 40) (hf : f + k ≤ 1048576) (hk : Cells w0 1 0 (kL.map B32)) (hf : Cells w0 0 0 (fL.map B32)) :
    Calls Tryd.prog 71 #[sca B W, .slice ao nr ca, .int .i64 ((f : Nat) : Int), .int .i64 ((k : Nat) : Int)] w0 fun e w' => ∃ g : Gs, e = .returned (.slice (adr g.ob) (layL B W f row k).length g.cap) ∧ Mk w0 w' 34 32 ((layL B W f row k).flatMap hcs) g := by
  refine calls_in Tryd.func71 Tryd.ntmps71 rfl rfl ?_
  have hp := Hp.start w0
  subst hr
  refine sc_seq ?_
  refine sc_region ?_
  refine st_box 4 hp rfl rfl rfl (fun b4 w hp => ?_)
  refine st_v (ov_assign rfl) rfl ?_
  refine st_nil ?_
  refine pn_then ?_
  refine sc_seq ?_
  refine sc_region ?_
  refine st_v (ov_loadN rfl Tryd.underlying23 rfl (sz23.trans rfl) (hp.cells' (t := 4) rfl)) rfl ?_
  refine st_v (ov_move rfl) rfl ?_
  refine st_call pl63 rfl rfl rfl (nothing_walk B W f (by omega) _ (hp.old hk (by simp)) (hp.old hf (by simp))) ?_
  rintro _ w ⟨rfl, hch⟩
  refine ⟨_, rfl, ?_⟩
  replace hp := hp.call hch
  clear hch
  refine st_alloc 9 (hcs hz0) hp rfl zl34 rfl (fun b9 w hp => ?_)
  refine st_storeA 9 hp rfl rfl rfl (by simp [hcs_len]) (sz34.trans (by simp [hcs_len])) (hcs_one _) (fun w hp => ?_)
  refine st_nil ?_
  refine pn_then ?_
  refine sc_seq ?_
  refine sc_region ?_
  refine st_v (ov_move rfl) rfl ?_
  replace hp := hp.nil 10 34
  refine st_append 10 gnil (xs := []) (news := row.flatMap hcs) (m := row.length) hp rfl rfl rfl rfl rfl Tryd.underlying26 in34 (by decide) rfl rfl rfl (h1.chg hp.chg) (flat_len hcs_len _) (many_one _) (by omega) (fun g10 w hp hc10 hf10 => ?_)
  rw [List.nil_append] at hp hc10
  rw [Nat.zero_add]
  refine st_v (ov_assign rfl) rfl ?_
  refine st_nil ?_
  refine pn_then ?_
  refine sc_seq ?_
  refine sc_seq ?_
  refine sc_region ?_
  refine st_v (ov_move rfl) rfl ?_
  refine st_v (ov_move rfl) rfl ?_
  refine st_nil ?_
  refine pn_then ?_
  refine sc_block ?_
  refine sc_loopH2 (α := Nat) (β := Gs) (kv := [(4, _), (9, _), (18, _)]) (kl := [(4, _)]) (fun j h kv => (19, .int .i64 ((j : Nat) : Int)) :: (10, .slice (adr h.ob) ((layL B W f row j).length) h.cap) :: kv) (fun j h kl => (9, ⟨some b9, hcs (zeroL B W (f + j)), 34⟩) :: (10, ⟨h.ob, (layL B W f row j).flatMap hcs ++ h.sp, 34⟩) :: kl) (fun j h => (j ≤ k) ∧ (((layL B W f row j).flatMap hcs ++ h.sp).length = h.cap * 32)) (fun j h => k - j) 0 g10 hp (Sub.cons rfl (Sub.cons rfl (Sub.cons rfl (Sub.cons rfl (Sub.cons rfl (Sub.nil _)))))) (LSub.cons rfl (LSub.cons rfl (LSub.cons rfl (LSub.nil _)))) ?_ ?_
  · exact ⟨(by first | omega | (simp; done) | (simp; omega) | (simp [*]; omega)), hc10⟩
  intro j h w hp hx
  obtain ⟨hj, hch⟩ := hx
  have hll := lay_le B W f row j
  refine sc_seq ?_
  refine sc_region ?_
  refine st_v (ov_lss rfl rfl) rfl ?_
  refine st_nil ?_
  refine pn_then ?_
  refine sc_seq ?_
  refine sc_cond rfl (fun hc => ?_) (fun hc => ?_)
  ·
    have hc := of_decide_eq_true hc
    refine sc_skip ?_
    refine pn_then ?_
    refine sc_seq ?_
    refine sc_block ?_
    refine sc_seq ?_
    refine sc_seq ?_
    refine sc_region ?_
    refine st_v (ov_move rfl) rfl ?_
    refine st_v (ov_len rfl Tryd.underlying26 rfl) rfl ?_
    refine st_v (ov_rem_n (a := (layL B W f row j).length) (b := 2) rfl rfl (by omega)) rfl ?_
    refine st_v (ov_eql rfl rfl) rfl ?_
    refine st_nil ?_
    refine pn_then ?_
    refine sc_cutH2 (α := List Hs) (β := Gs) (kv := [(4, _), (9, _), (18, _), (19, _)]) (kl := [(9, _), (4, _)]) (fun lst h1 kv => (10, .slice (adr h1.ob) (lst.length) h1.cap) :: kv) (fun lst h1 kl => (10, ⟨h1.ob, lst.flatMap hcs ++ h1.sp, 34⟩) :: kl) (fun lst h1 => (lst = evL (zeroL B W (f + j)) (layL B W f row j)) ∧ ((lst.flatMap hcs ++ h1.sp).length = h1.cap * 32)) hp (Sub.cons rfl (Sub.cons rfl (Sub.cons rfl (Sub.cons rfl (Sub.nil _))))) (LSub.cons rfl (LSub.cons rfl (LSub.nil _))) ?_ ?_
    ·
      refine sc_cond rfl (fun hc => ?_) (fun hc => ?_)
      ·
        have hc := of_decide_eq_true hc
        refine sc_region ?_
        refine st_v (ov_move rfl) rfl ?_
        refine st_v (ov_loadN rfl Tryd.underlying34 rfl (sz34.trans (by simp [hcs_len])) (hp.cells' (t := 9) rfl)) rfl ?_
        refine st_app1 10 27 h (xs := (layL B W f row j).flatMap hcs) (new := hcs (zeroL B W (f + j))) hp rfl rfl rfl rfl rfl (by simp) rfl rfl Tryd.underlying26 in34 (by decide) rfl (flat_len hcs_len _) hch rfl (hcs_len _) (hcs_one _) (by omega) (fun h2 b27 w hp hch2 hf10 => ?_)
        rw [flat_snoc] at hp hch2
        rw [show (layL B W f row j).length + 1 = ((layL B W f row j) ++ [zeroL B W (f + j)]).length by simp]
        refine st_v (ov_assign rfl) rfl ?_
        refine st_nil ?_
        refine pn_cutH2 ((layL B W f row j) ++ [zeroL B W (f + j)]) h2 hp (Sub.cons rfl (Sub.cons rfl (Sub.cons rfl (Sub.cons rfl (Sub.cons rfl (Sub.nil _)))))) (LSub.cons rfl (LSub.cons rfl (LSub.cons rfl (LSub.nil _)))) ?_
        exact ⟨(by unfold evL; rw [if_pos (by omega)]), hch2⟩
      ·
        have hc := of_decide_eq_false hc
        refine sc_skip ?_
        refine pn_cutH2 (layL B W f row j) h hp (Sub.cons rfl (Sub.cons rfl (Sub.cons rfl (Sub.cons rfl (Sub.cons rfl (Sub.nil _)))))) (LSub.cons rfl (LSub.cons rfl (LSub.cons rfl (LSub.nil _)))) ?_
        exact ⟨(by unfold evL; rw [if_neg (by omega)]), hch⟩
    ·
      intro lst h1 w hp hx
      obtain ⟨hlst, hch1⟩ := hx
      have hel := evL_len (zeroL B W (f + j)) (layL B W f row j)
      rw [← hlst] at hel
      obtain ⟨u, hu⟩ : ∃ u, u = (layL B W f row (j + 1)) := ⟨_, rfl⟩
      have hul : u.length = ((layL B W f row j).length + 1) / 2 := by rw [hu]; simp only [layL]; exact upL_len _ _ _ _
      refine pn_then ?_
      refine sc_seq ?_
      refine sc_region ?_
      refine st_v (ov_move rfl) rfl ?_
      refine st_v (ov_slice_hi Tryd.underlying26 sz34 rfl rfl (by omega)) rfl ?_
      refine st_v (ov_assign rfl) rfl ?_
      refine st_nil ?_
      refine pn_then ?_
      refine sc_seq ?_
      refine sc_seq ?_
      refine sc_region ?_
      refine st_v (ov_assign rfl) rfl ?_
      refine st_nil ?_
      refine pn_then ?_
      refine sc_block ?_
      replace hp := hp.as (t := 10) rfl ((mixL u lst 0).flatMap hcs ++ h1.sp) (by rw [mix_zero])
      refine sc_loopH1 (α := Nat) (kv := [(4, _), (9, _), (10, _), (18, _), (19, _)]) (kl := [(9, _), (4, _)]) (fun p kv => (12, .int .i64 ((2 * p : Nat) : Int)) :: (11, .slice (adr h1.ob) p h1.cap) :: kv) (fun p kl => (10, ⟨h1.ob, (mixL u lst p).flatMap hcs ++ h1.sp, 34⟩) :: kl) (fun p => (p ≤ u.length)) (fun p => u.length - p) 0 hp (Sub.cons rfl (Sub.cons rfl (Sub.cons rfl (Sub.cons rfl (Sub.cons rfl (Sub.cons rfl (Sub.cons rfl (Sub.nil _)))))))) (LSub.cons rfl (LSub.cons rfl (LSub.cons rfl (LSub.nil _)))) ?_ ?_
      · exact (by first | omega | (simp; done) | (simp; omega) | (simp [*]; omega))
      intro p w hp hx
      have hp2 : p ≤ u.length := hx
      have hml := mix_len (u := u) (l := lst) hp2 (by omega)
      refine sc_seq ?_
      refine sc_seq ?_
      refine sc_region ?_
      refine st_v (ov_move rfl) rfl ?_
      refine st_v (ov_move rfl) rfl ?_
      refine st_v (ov_len rfl Tryd.underlying26 rfl) rfl ?_
      refine st_v (ov_lss rfl rfl) rfl ?_
      refine st_nil ?_
      refine pn_then ?_
      refine sc_cond rfl (fun hc => ?_) (fun hc => ?_)
      ·
        have hc := of_decide_eq_true hc
        have hab : aboveL B W ((mixL u lst p).getD (2 * p) hz0) ((mixL u lst p).getD (2 * p + 1) hz0) = u.getD p hz0 := by
          rw [mix_get hp2 (by omega), mix_get hp2 (by omega), hlst, upL_ev _ _ _ _ _ (by rw [← hlst]; omega), hu]; rfl
        refine sc_skip ?_
        refine pn_then ?_
        refine sc_seq ?_
        refine sc_block ?_
        obtain ⟨Hs, hHs⟩ := (hp.sub (L' := [(10, _), (9, _), (4, _)]) (LSub.cons rfl (LSub.cons rfl (LSub.cons rfl (LSub.nil _))))).hs
        refine sc_plan Hs [0, 1, 2, 3, 4, 5, 6, 7, 8, 9, 10, 14] [] (.take 0 (.load 1 (.take 2 (.take 3 (.take 4 (.load 5 (.take 6 (.take 7 (.take 8 (.take 9 (.load 10 (.one 11 (.one 12 (.one 13 (.take 14 .nil))))))))))))))) (by kernel_rfl) (by kernel_rfl) (by repeat (first | exact calm_body _ _ _ | refine calm_then ?_ | refine calm_block ?_ | refine calm_jump ?_ | refine calm_ng ?_)) ?_
        replace hp := hp.drew
        refine sp_take rfl (fun w => ov_move rfl) rfl ?_
        refine sp_load rfl ((hHs _).2 (hp.sub (LSub.cons rfl (LSub.cons rfl (LSub.cons rfl (LSub.nil _)))))) (fun w hs => have hp := (hHs w).1 hs; ov_loadN rfl Tryd.underlying23 rfl (sz23.trans rfl) (hp.cells' (t := 4) rfl)) rfl ?_
        refine sp_take rfl (fun w => ov_move rfl) rfl ?_
        refine sp_take rfl (fun w => ov_move rfl) rfl ?_
        obtain ⟨bb1, oo1, hadr1, hcl1⟩ := ((Rd.own (hp.own 10 _ rfl))).pos (by rw [flat_len hcs_len]; omega)
        refine sp_take rfl (fun w => ov_indexR hadr1 rfl rfl Tryd.underlying26 sz34 (by omega)) rfl ?_
        refine sp_load rfl ((hHs _).2 (hp.sub (LSub.cons rfl (LSub.cons rfl (LSub.cons rfl (LSub.nil _)))))) (fun w hs => have hp := (hHs w).1 hs; ov_loadN rfl Tryd.underlying34 rfl (sz34.trans (by simp [hcs_len])) ((((Rd.own (hp.own 10 _ rfl))).at_adr hadr1 (by rw [flat_len hcs_len]; omega)).elemN hcs_len (2 * p) ⟨by rfl, by omega⟩ hz0)) rfl ?_
        refine sp_take rfl (fun w => ov_move rfl) rfl ?_
        refine sp_take rfl (fun w => ov_move rfl) rfl ?_
        refine sp_take rfl (fun w => ov_add_n (a := 2 * p) (b := 1) rfl rfl (by omega)) rfl ?_
        obtain ⟨bb2, oo2, hadr2, hcl2⟩ := ((Rd.own (hp.own 10 _ rfl))).pos (by rw [flat_len hcs_len]; omega)
        refine sp_take rfl (fun w => ov_indexR hadr2 rfl rfl Tryd.underlying26 sz34 (by omega)) rfl ?_
        refine sp_load rfl ((hHs _).2 (hp.sub (LSub.cons rfl (LSub.cons rfl (LSub.cons rfl (LSub.nil _)))))) (fun w hs => have hp := (hHs w).1 hs; ov_loadN rfl Tryd.underlying34 rfl (sz34.trans (by simp [hcs_len])) ((((Rd.own (hp.own 10 _ rfl))).at_adr hadr2 (by rw [flat_len hcs_len]; omega)).elemN hcs_len ((2 * p) + 1) ⟨by rfl, by omega⟩ hz0)) rfl ?_
        refine sp_one rfl ?_
        refine st_call pl64 rfl rfl rfl (above_walk B W _ _ _ (hp.old hk (by simp)) (hp.old hf (by simp))) ?_
        rintro _ w ⟨rfl, hch9⟩
        refine ⟨_, rfl, ?_⟩
        replace hp := hp.call hch9
        clear hch9
        rw [hab]
        refine st_nil ?_
        refine sp_next (i := 11) (fun h => absurd h (by decide)) ?_
        refine sp_one rfl ?_
        refine st_build 49 (cells := hcs (u.getD p hz0)) hp rfl rfl Tryd.underlying26 (in2_of in34) (by decide) (fill1 rfl (hcs_len _)) (fun b49 w hb49 hp => ?_)
        refine st_nil ?_
        refine sp_next (i := 12) (fun h => absurd h (by decide)) ?_
        replace hp := hp.as (t := 10) rfl ((u.take p).flatMap hcs ++ ((lst.drop p).flatMap hcs ++ h1.sp)) (by unfold mixL; rw [List.flatMap_append, List.append_assoc])
        have hmc : ((u.take p).flatMap hcs ++ ((lst.drop p).flatMap hcs ++ h1.sp)).length = h1.cap * 32 := by rw [← hch1, List.length_append, List.length_append, List.length_append, flat_len hcs_len, flat_len hcs_len, flat_len hcs_len, List.length_take, List.length_drop, Nat.min_eq_left (by omega)]; omega
        have hlc : lst.length ≤ h1.cap := by rw [List.length_append, flat_len hcs_len] at hch1; omega
        refine sp_one rfl ?_
        refine st_append 10 (⟨h1.ob, h1.cap, (lst.drop p).flatMap hcs ++ h1.sp⟩ : Gs) (xs := (u.take p).flatMap hcs) (news := hcs (u.getD p hz0)) (m := 1) hp rfl rfl rfl rfl rfl Tryd.underlying26 in34 (by decide) rfl ((flat_len hcs_len _).trans (by rw [List.length_take, Nat.min_eq_left (by omega)])) hmc ((Rd.of (hp.cells' (t := 49) rfl))) (by simp [hcs_len]) (hcs_one _) (by omega) (fun g3 w hp hc3 hf10 => ?_)
        refine st_nil ?_
        refine sp_next (i := 13) (fun h => absurd h (by decide)) ?_
        obtain rfl := hf10.1 (by show p + 1 ≤ h1.cap; omega)
        have emx : ((u.take p).flatMap hcs ++ hcs (u.getD p hz0)) ++ ((lst.drop p).flatMap hcs ++ h1.sp).drop (hcs (u.getD p hz0)).length = (mixL u lst (p + 1)).flatMap hcs ++ h1.sp := by
          rw [hcs_len, mix_drop (by omega), flat_snoc, ← take_snoc8 (by omega)]; unfold mixL; rw [List.flatMap_append, List.append_assoc]
        replace hp := hp.as (t := 10) rfl _ emx
        refine sp_take rfl (fun w => ov_assign rfl) rfl ?_
        refine sp_nil ?_
        refine pn_block ?_
        refine pn_then ?_
        refine sc_region ?_
        refine st_v (ov_move rfl) rfl ?_
        refine st_v (ov_add_n (a := 2 * p) (b := 2) rfl rfl (by omega)) rfl ?_
        refine st_v (ov_assign rfl) rfl ?_
        refine st_nil ?_
        refine pn_roundH1 (p + 1) hp (Sub.cons rfl (Sub.cons rfl (Sub.cons rfl (Sub.cons rfl (Sub.cons rfl (Sub.cons rfl (Sub.cons rfl (Sub.nil _)))))))) ?_ (LSub.cons rfl (LSub.cons rfl (LSub.cons rfl (LSub.nil _)))) ?_
        · omega
        exact (by first | omega | (simp; done) | (simp; omega) | (simp [*]; omega))
      ·
        have hc := of_decide_eq_false hc
        obtain rfl : p = u.length := by omega
        have hmc3 : ((u.take u.length).flatMap hcs ++ ((lst.drop u.length).flatMap hcs ++ h1.sp)).length = h1.cap * 32 := by rw [← hch1, List.length_append, List.length_append, List.length_append, flat_len hcs_len, flat_len hcs_len, flat_len hcs_len, List.length_take, List.length_drop, Nat.min_eq_left (by omega)]; omega
        have hch3 := hmc3
        rw [List.take_length] at hch3
        replace hp := hp.as (t := 10) rfl (u.flatMap hcs ++ ((lst.drop u.length).flatMap hcs ++ h1.sp)) (by unfold mixL; rw [List.take_length, List.flatMap_append, List.append_assoc])
        refine sc_exit ?_
        refine pe_then ?_
        refine pe_then ?_
        refine pe_hit ?_
        refine pn_then ?_
        refine sc_seq ?_
        refine sc_region ?_
        refine st_v (ov_move rfl) rfl ?_
        refine st_v (ov_assign rfl) rfl ?_
        refine st_nil ?_
        refine pn_then ?_
        refine sc_region ?_
        refine st_v (ov_loadN rfl Tryd.underlying23 rfl (sz23.trans rfl) (hp.cells' (t := 4) rfl)) rfl ?_
        refine st_v (ov_loadN rfl Tryd.underlying34 rfl (sz34.trans (by simp [hcs_len])) (hp.cells' (t := 9) rfl)) rfl ?_
        refine st_v (ov_loadN rfl Tryd.underlying34 rfl (sz34.trans (by simp [hcs_len])) (hp.cells' (t := 9) rfl)) rfl ?_
        refine st_call pl64 rfl rfl rfl (above_walk B W _ _ _ (hp.old hk (by simp)) (hp.old hf (by simp))) ?_
        rintro _ w ⟨rfl, hch⟩
        refine ⟨_, rfl, ?_⟩
        replace hp := hp.call hch
        clear hch
        refine st_storeA 9 hp rfl rfl rfl (by simp [hcs_len]) (sz34.trans (by simp [hcs_len])) (hcs_one _) (fun w hp => ?_)
        refine st_nil ?_
        refine pn_block ?_
        refine pn_then ?_
        refine sc_region ?_
        rw [hu] at hp
        rw [hu]
        refine st_v (ov_add_n (a := j) (b := 1) rfl rfl (by omega)) rfl ?_
        refine st_v (ov_move rfl) rfl ?_
        refine st_nil ?_
        refine pn_roundH2 (j + 1) ⟨h1.ob, h1.cap, (lst.drop (layL B W f row (j + 1)).length).flatMap hcs ++ h1.sp⟩ hp (Sub.cons rfl (Sub.cons rfl (Sub.cons rfl (Sub.cons rfl (Sub.cons rfl (Sub.nil _)))))) ?_ (LSub.cons rfl (LSub.cons rfl (LSub.cons rfl (LSub.nil _)))) ?_
        · omega
        exact ⟨(by first | omega | (simp; done) | (simp; omega) | (simp [*]; omega)), (by rw [← hu]; exact hch3)⟩
  ·
    have hc := of_decide_eq_false hc
    obtain rfl : j = k := by omega
    refine sc_exit ?_
    refine pe_then ?_
    refine pe_then ?_
    refine pe_hit ?_
    refine pn_then ?_
    refine sc_seq ?_
    refine sc_region ?_
    refine st_v (ov_move rfl) rfl ?_
    refine st_v (ov_assign rfl) rfl ?_
    refine st_nil ?_
    refine pn_then ?_
    refine sc_ret ?_
    refine pr_one rfl rfl ?_
    exact ⟨h, rfl, hp.gives 10 rfl hch⟩

end Go.Proofs.YtjdolgfhcjnniaaDoor
