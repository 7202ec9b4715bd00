/-
  The walks of above, pair, nothing, Zero, Pair.
-/
import Derived.Test.YtjdolgfhcjnniaaDoorCutA
import Derived.Test.YtjdolgfhcjnniaaDoorTreP
namespace Go.Proofs.YtjdolgfhcjnniaaDoor
open Go Go.RowKit

theorem hash2_walk (B W : Int) (a : List UInt8) {na : Nat} (ao : Option Addr) (ca : Nat) (w0 : World) (h1 : Rd w0 ao (a.map B8)) (ha : a.length = na) (hca : a.length ≤ ca) (hz : a.length ≤ 140737488351232) (hk : Cells w0 1 0 (kL.map B32)) (hf : Cells w0 0 0 (fL.map B32)) :
    Calls Tryd.prog 40 #[sca B W, .slice ao na ca] w0 fun e w' => e = .returned (.tuple #[.agg (hcs (hashL B W a)).toArray, .int .i64 (goodNo B W)]) ∧ Chg [] w0 w' := by
  subst ha; exact hash_walk B W a ao ca w0 h1 hca hz hk hf
theorem hashr2_walk (B W : Int) (a : List UInt8) {na : Nat} (ao : Option Addr) (ca : Nat) (w0 : World) (h1 : Rd w0 ao (a.map B8)) (ha : a.length = na) (hca : a.length ≤ ca) (hz : a.length ≤ 140737488351232) :
    Calls Tryd.prog 89 #[sca B W, .slice ao na ca] w0 fun e w' => e = .returned (.tuple #[.agg (hcs (hashL B W a)).toArray, .int .i64 (goodNo B W)]) ∧ Chg [] w0 w' := by
  subst ha; exact hashr_walk B W a ao ca w0 h1 hca hz

set_option maxRecDepth 100000 in
theorem above_walk (B W : Int) (l r : Hs) (w0 : World) (hk : Cells w0 1 0 (kL.map B32)) (hf : Cells w0 0 0 (fL.map B32)) :
    Calls Tryd.prog 64 #[sca B W, .agg (hcs l).toArray, .agg (hcs r).toArray] w0 fun e w' => e = .returned (.agg (hcs (aboveL B W l r)).toArray) ∧ Chg [] w0 w' := by
  refine calls_in Tryd.func64 Tryd.ntmps64 rfl rfl ?_
  have hp := Hp.start w0
  have hl := l.2
  have hr := r.2
  refine sc_seq ?_
  refine sc_region ?_
  refine st_box 3 hp rfl rfl rfl (fun b3 w hp => ?_)
  refine st_box 4 hp rfl rfl rfl (fun b4 w hp => ?_)
  refine st_box 5 hp rfl rfl rfl (fun b5 w hp => ?_)
  refine st_alloc 6 (hcs hz0) hp rfl zl34 rfl (fun b6 w hp => ?_)
  refine st_nil ?_
  refine pn_then ?_
  refine sc_seq ?_
  refine sc_region ?_
  refine st_alloc 7 ((List.replicate 64 (0 : UInt8)).map B8) hp rfl zl118 rfl (fun b7 w hp => ?_)
  refine st_nil ?_
  refine pn_then ?_
  refine sc_seq ?_
  refine sc_draws_tail 2 (by kernel_rfl) (by kernel_rfl) ?_
  replace hp := hp.drew
  simp only [List.take_succ_cons, List.take_zero, List.drop_succ_cons, List.drop_zero]
  refine ss_v (ov_sliceA_hi Tryd.underlying118 sz5 rfl rfl (by omega)) rfl ?_
  refine ss_v (ov_sliceA Tryd.underlying34 sz5 rfl) rfl ?_
  refine ss_tail ?_
  refine st_copy 7 (cs' := (l.1 ++ List.replicate 32 0).map B8) (news := l.1.map B8) (m := 32) (off := 0) (n' := ((32 : Nat) : Int)) hp rfl rfl rfl rfl rfl Tryd.underlying24 sz5 rfl (fun _ => rfl) (Rd.of (hp.cells' (t := 4) rfl)) (by simp [hl]) (one_all _) (by simp) (by simp) rfl (fun w hp => ?_)
  refine st_nil ?_
  refine pn_then ?_
  refine sc_seq ?_
  refine sc_draws_tail 2 (by kernel_rfl) (by kernel_rfl) ?_
  replace hp := hp.drew
  simp only [List.take_succ_cons, List.take_zero, List.drop_succ_cons, List.drop_zero]
  refine ss_v (ov_sliceA_lo Tryd.underlying118 sz5 rfl rfl (by omega)) rfl ?_
  refine ss_v (ov_sliceA Tryd.underlying34 sz5 rfl) rfl ?_
  refine ss_tail ?_
  refine st_copy 7 (cs' := (l.1 ++ r.1).map B8) (news := r.1.map B8) (m := 32) (off := 32) (n' := ((32 : Nat) : Int)) hp rfl rfl rfl rfl rfl Tryd.underlying24 sz5 rfl (fun _ => (by unfold sla; rw [if_neg (by decide)]; simp [add_at])) (Rd.of (hp.cells' (t := 5) rfl)) (by simp [hr]) (one_all _) (by simp [hl]) (by simp [hl]) rfl (fun w hp => ?_)
  refine st_nil ?_
  refine pn_then ?_
  refine sc_seq ?_
  obtain ⟨Hs, hHs⟩ := (hp.sub (L' := [(7, _), (6, _), (5, _), (4, _), (3, _)]) (LSub.cons rfl (LSub.cons rfl (LSub.cons rfl (LSub.cons rfl (LSub.cons rfl (LSub.nil _))))))).hs
  refine sc_plan Hs [0, 1, 3, 4, 5, 8] [6] (.load 0 (.take 1 (.two 2 (.take 3 (.take 4 (.take 5 (.one 6 (.one 7 (.take 8 .nil)))))) 6 (.one 2 (.take 3 (.take 4 (.take 5 (.one 7 (.take 8 .nil))))))))) (by kernel_rfl) (by kernel_rfl) (by repeat (first | exact calm_body _ _ _ | refine calm_then ?_ | refine calm_block ?_ | refine calm_jump ?_ | refine calm_ng ?_)) ?_
  replace hp := hp.drew
  refine sp_load rfl ((hHs _).2 (hp.sub (LSub.cons rfl (LSub.cons rfl (LSub.cons rfl (LSub.cons rfl (LSub.cons rfl (LSub.nil _)))))))) (fun w hs => have hp := (hHs w).1 hs; ov_loadN rfl Tryd.underlying23 rfl (sz23.trans rfl) (hp.cells' (t := 3) rfl)) rfl ?_
  refine sp_take rfl (fun w => ov_sliceA Tryd.underlying118 sz5 rfl) rfl ?_
  refine sp_two ?_ ?_
  ·
    refine sp_one rfl ?_
    refine st_call pl40 rfl rfl rfl (hash2_walk B W (l.1 ++ r.1) _ _ _ (Rd.of (hp.cells' (t := 7) rfl)) (by simp [hl, hr]) (by simp [hl, hr]) (by simp [hl, hr]) (hp.old hk (by simp)) (hp.old hf (by simp))) ?_
    rintro _ w ⟨rfl, hch⟩
    refine ⟨_, rfl, ?_⟩
    replace hp := hp.call hch
    clear hch
    refine st_nil ?_
    refine sp_next (i := 2) (fun h => absurd h (by decide)) ?_
    refine sp_take rfl (fun w => ov_move rfl) rfl ?_
    refine sp_take rfl (fun w => ov_extract rfl rfl) rfl ?_
    refine sp_take rfl (fun w => ov_extract rfl rfl) rfl ?_
    refine sp_one rfl ?_
    refine st_alloc 8 (hcs hz0) hp rfl zl34 rfl (fun b8 w hp => ?_)
    refine st_nil ?_
    refine sp_next (i := 6) (fun _ => ((hHs _).2 (hp.sub (LSub.cons rfl (LSub.cons rfl (LSub.cons rfl (LSub.cons rfl (LSub.cons rfl (LSub.nil _))))))))) ?_
    refine sp_one rfl ?_
    refine st_storeA 8 hp rfl rfl rfl (by simp [hcs_len]) (sz34.trans (by simp [hcs_len])) (hcs_one _) (fun w hp => ?_)
    refine st_nil ?_
    refine sp_next (i := 7) (fun h => absurd h (by decide)) ?_
    refine sp_take rfl (fun w => ov_assign rfl) rfl ?_
    refine sp_nil ?_
    refine pn_then ?_
    refine sc_seq ?_
    refine sc_region ?_
    refine st_v (ov_loadN rfl Tryd.underlying34 rfl (sz34.trans (by simp [hcs_len])) (hp.cells' (t := 8) rfl)) rfl ?_
    refine st_storeA 6 hp rfl rfl rfl (by simp [hcs_len]) (sz34.trans (by simp [hcs_len])) (hcs_one _) (fun w hp => ?_)
    refine st_nil ?_
    refine pn_then ?_
    refine sc_ret ?_
    refine pr_rv1 rfl (rv_cells rfl Tryd.underlying34 rfl (sz34.trans (by simp [hcs_len])) (hp.cells' (t := 6) rfl)) ?_
    exact ⟨rfl, hp.chg⟩
  ·
    refine sp_one rfl ?_
    refine st_alloc 8 (hcs hz0) hp rfl zl34 rfl (fun b8 w hp => ?_)
    refine st_nil ?_
    refine sp_next (i := 6) (fun _ => ((hHs _).2 (hp.sub (LSub.cons rfl (LSub.cons rfl (LSub.cons rfl (LSub.cons rfl (LSub.cons rfl (LSub.nil _))))))))) ?_
    refine sp_one rfl ?_
    refine st_call pl40 rfl rfl rfl (hash2_walk B W (l.1 ++ r.1) _ _ _ (Rd.of (hp.cells' (t := 7) rfl)) (by simp [hl, hr]) (by simp [hl, hr]) (by simp [hl, hr]) (hp.old hk (by simp)) (hp.old hf (by simp))) ?_
    rintro _ w ⟨rfl, hch⟩
    refine ⟨_, rfl, ?_⟩
    replace hp := hp.call hch
    clear hch
    refine st_nil ?_
    refine sp_next (i := 2) (fun h => absurd h (by decide)) ?_
    refine sp_take rfl (fun w => ov_move rfl) rfl ?_
    refine sp_take rfl (fun w => ov_extract rfl rfl) rfl ?_
    refine sp_take rfl (fun w => ov_extract rfl rfl) rfl ?_
    refine sp_one rfl ?_
    refine st_storeA 8 hp rfl rfl rfl (by simp [hcs_len]) (sz34.trans (by simp [hcs_len])) (hcs_one _) (fun w hp => ?_)
    refine st_nil ?_
    refine sp_next (i := 7) (fun h => absurd h (by decide)) ?_
    refine sp_take rfl (fun w => ov_assign rfl) rfl ?_
    refine sp_nil ?_
    refine pn_then ?_
    refine sc_seq ?_
    refine sc_region ?_
    refine st_v (ov_loadN rfl Tryd.underlying34 rfl (sz34.trans (by simp [hcs_len])) (hp.cells' (t := 8) rfl)) rfl ?_
    refine st_storeA 6 hp rfl rfl rfl (by simp [hcs_len]) (sz34.trans (by simp [hcs_len])) (hcs_one _) (fun w hp => ?_)
    refine st_nil ?_
    refine pn_then ?_
    refine sc_ret ?_
    refine pr_rv1 rfl (rv_cells rfl Tryd.underlying34 rfl (sz34.trans (by simp [hcs_len])) (hp.cells' (t := 6) rfl)) ?_
    exact ⟨rfl, hp.chg⟩

set_option maxRecDepth 100000 in
theorem pair_walk (B W : Int) (l r : Hs) (w0 : World) :
    Calls Tryd.prog 65 #[sca B W, .agg (hcs l).toArray, .agg (hcs r).toArray] w0 fun e w' => e = .returned (.agg (hcs (aboveL B W l r)).toArray) ∧ Chg [] w0 w' := by
  refine calls_in Tryd.func65 Tryd.ntmps65 rfl rfl ?_
  have hp := Hp.start w0
  have hl := l.2
  have hr := r.2
  refine sc_seq ?_
  refine sc_region ?_
  refine st_box 3 hp rfl rfl rfl (fun b3 w hp => ?_)
  refine st_box 4 hp rfl rfl rfl (fun b4 w hp => ?_)
  refine st_box 5 hp rfl rfl rfl (fun b5 w hp => ?_)
  refine st_alloc 6 (hcs hz0) hp rfl zl34 rfl (fun b6 w hp => ?_)
  refine st_nil ?_
  refine pn_then ?_
  refine sc_seq ?_
  refine sc_region ?_
  refine st_v (ov_assign rfl) rfl ?_
  replace hp := hp.nil 7 5
  refine st_nil ?_
  refine pn_then ?_
  refine sc_seq ?_
  refine sc_seq ?_
  refine sc_region ?_
  refine st_v (ov_assign rfl) rfl ?_
  refine st_nil ?_
  refine pn_then ?_
  refine sc_block ?_
  refine sc_loopH2 (α := Nat) (β := Gs) (kv := [(3, _), (4, _), (5, _), (6, _)]) (kl := [(6, _), (5, _), (4, _), (3, _)]) (fun i ga kv => (8, .int .i64 ((i : Nat) : Int)) :: (7, .slice (adr ga.ob) (i) ga.cap) :: kv) (fun i ga kl => (7, ⟨ga.ob, ((l.1.take i)).map B8 ++ ga.sp, 5⟩) :: kl) (fun i ga => (i ≤ 32) ∧ ((((l.1.take i)).map B8 ++ ga.sp).length = ga.cap * 1)) (fun i ga => 32 - i) 0 gnil hp (Sub.cons rfl (Sub.cons rfl (Sub.cons rfl (Sub.cons rfl (Sub.cons rfl (Sub.cons rfl (Sub.nil _))))))) (LSub.cons rfl (LSub.cons rfl (LSub.cons rfl (LSub.cons rfl (LSub.cons rfl (LSub.nil _)))))) ?_ ?_
  · exact ⟨(by first | omega | (simp; done) | (simp; omega) | (simp [*]; omega)), (by simp)⟩
  intro i ga w hp hx
  obtain ⟨hi, hcga⟩ := hx
  refine sc_seq ?_
  refine sc_seq ?_
  refine sc_region ?_
  refine st_v (ov_move rfl) rfl ?_
  refine st_v (ov_lss rfl rfl) rfl ?_
  refine st_nil ?_
  refine pn_then ?_
  refine sc_cond rfl (fun hc => ?_) (fun hc => ?_)
  ·
    have hc := of_decide_eq_true hc
    refine sc_skip ?_
    refine pn_then ?_
    refine sc_seq ?_
    refine sc_block ?_
    refine sc_region ?_
    refine st_v (ov_move rfl) rfl ?_
    refine st_v (ov_move rfl) rfl ?_
    refine st_v (ov_indexA rfl rfl Tryd.underlying34 sz5 (by omega)) rfl ?_
    refine st_v (ov_load1 rfl Tryd.underlying5 rfl (Cells.elem' (hp.cells' (t := 4) rfl) (i) (by first | omega | (simp; omega) | (simp [*]; omega)) 0)) rfl ?_
    refine st_app1 7 20 ga (xs := ((l.1.take i)).map B8) (new := [B8 (l.1.getD i 0)]) hp rfl rfl rfl rfl rfl (by simp) rfl rfl Tryd.underlying24 in5 (by decide) rfl (by first | omega | (simp; done) | (simp; omega) | (simp [*]; omega)) hcga rfl rfl (by simp [Value.oneCell']) (by omega) (fun ga2 b20 w hp hcga2 hf7 => ?_)
    have e2 : ((l.1.take i)).map B8 ++ [B8 (l.1.getD i 0)] = ((l.1.take (i + 1))).map B8 := by rw [take_snoc8 (a := l.1) (i := i) (by omega) 0]; simp
    rw [e2] at hp hcga2
    refine st_v (ov_assign rfl) rfl ?_
    refine st_nil ?_
    refine pn_block ?_
    refine pn_then ?_
    refine sc_region ?_
    refine st_v (ov_move rfl) rfl ?_
    refine st_v (ov_add_n (a := i) (b := 1) rfl rfl (by omega)) rfl ?_
    refine st_v (ov_assign rfl) rfl ?_
    refine st_nil ?_
    refine pn_roundH2 (i + 1) ga2 hp (Sub.cons rfl (Sub.cons rfl (Sub.cons rfl (Sub.cons rfl (Sub.cons rfl (Sub.cons rfl (Sub.nil _))))))) ?_ (LSub.cons rfl (LSub.cons rfl (LSub.cons rfl (LSub.cons rfl (LSub.cons rfl (LSub.nil _)))))) ?_
    · omega
    exact ⟨(by first | omega | (simp; done) | (simp; omega) | (simp [*]; omega)), hcga2⟩
  ·
    have hc := of_decide_eq_false hc
    obtain rfl : i = 32 := by omega
    rw [List.take_of_length_le (by omega), show l.1 = l.1 ++ r.1.take 0 by simp] at hp hcga
    refine sc_exit ?_
    refine pe_then ?_
    refine pe_then ?_
    refine pe_hit ?_
    refine pn_then ?_
    refine sc_seq ?_
    refine sc_seq ?_
    refine sc_region ?_
    refine st_v (ov_assign rfl) rfl ?_
    refine st_nil ?_
    refine pn_then ?_
    refine sc_block ?_
    refine sc_loopH2 (α := Nat) (β := Gs) (kv := [(3, _), (5, _), (6, _)]) (kl := [(6, _), (5, _), (4, _), (3, _)]) (fun j gb kv => (9, .int .i64 ((j : Nat) : Int)) :: (7, .slice (adr gb.ob) (32 + j) gb.cap) :: kv) (fun j gb kl => (7, ⟨gb.ob, (l.1 ++ (r.1.take j)).map B8 ++ gb.sp, 5⟩) :: kl) (fun j gb => (j ≤ 32) ∧ (((l.1 ++ (r.1.take j)).map B8 ++ gb.sp).length = gb.cap * 1)) (fun j gb => 32 - j) 0 ga hp (Sub.cons rfl (Sub.cons rfl (Sub.cons rfl (Sub.cons rfl (Sub.cons rfl (Sub.nil _)))))) (LSub.cons rfl (LSub.cons rfl (LSub.cons rfl (LSub.cons rfl (LSub.cons rfl (LSub.nil _)))))) ?_ ?_
    · exact ⟨(by first | omega | (simp; done) | (simp; omega) | (simp [*]; omega)), hcga⟩
    intro j gb w hp hx
    obtain ⟨hi, hcgb⟩ := hx
    refine sc_seq ?_
    refine sc_seq ?_
    refine sc_region ?_
    refine st_v (ov_move rfl) rfl ?_
    refine st_v (ov_lss rfl rfl) rfl ?_
    refine st_nil ?_
    refine pn_then ?_
    refine sc_cond rfl (fun hc => ?_) (fun hc => ?_)
    ·
      have hc := of_decide_eq_true hc
      refine sc_skip ?_
      refine pn_then ?_
      refine sc_seq ?_
      refine sc_block ?_
      refine sc_region ?_
      refine st_v (ov_move rfl) rfl ?_
      refine st_v (ov_move rfl) rfl ?_
      refine st_v (ov_indexA rfl rfl Tryd.underlying34 sz5 (by omega)) rfl ?_
      refine st_v (ov_load1 rfl Tryd.underlying5 rfl (Cells.elem' (hp.cells' (t := 5) rfl) (j) (by first | omega | (simp; omega) | (simp [*]; omega)) 0)) rfl ?_
      refine st_app1 7 30 gb (xs := (l.1 ++ (r.1.take j)).map B8) (new := [B8 (r.1.getD j 0)]) hp rfl rfl rfl rfl rfl (by simp) rfl rfl Tryd.underlying24 in5 (by decide) rfl (by first | omega | (simp; done) | (simp; omega) | (simp [*]; omega)) hcgb rfl rfl (by simp [Value.oneCell']) (by omega) (fun gb2 b30 w hp hcgb2 hf7 => ?_)
      have e2 : (l.1 ++ (r.1.take j)).map B8 ++ [B8 (r.1.getD j 0)] = (l.1 ++ (r.1.take (j + 1))).map B8 := by rw [take_snoc8 (a := r.1) (i := j) (by omega) 0]; simp
      rw [e2] at hp hcgb2
      refine st_v (ov_assign rfl) rfl ?_
      refine st_nil ?_
      refine pn_block ?_
      refine pn_then ?_
      refine sc_region ?_
      refine st_v (ov_move rfl) rfl ?_
      refine st_v (ov_add_n (a := j) (b := 1) rfl rfl (by omega)) rfl ?_
      refine st_v (ov_assign rfl) rfl ?_
      refine st_nil ?_
      refine pn_roundH2 (j + 1) gb2 hp (Sub.cons rfl (Sub.cons rfl (Sub.cons rfl (Sub.cons rfl (Sub.cons rfl (Sub.nil _)))))) ?_ (LSub.cons rfl (LSub.cons rfl (LSub.cons rfl (LSub.cons rfl (LSub.cons rfl (LSub.nil _)))))) ?_
      · omega
      exact ⟨(by first | omega | (simp; done) | (simp; omega) | (simp [*]; omega)), hcgb2⟩
    ·
      have hc := of_decide_eq_false hc
      obtain rfl : j = 32 := by omega
      rw [List.take_of_length_le (by omega)] at hp hcgb
      refine sc_exit ?_
      refine pe_then ?_
      refine pe_then ?_
      refine pe_hit ?_
      refine pn_then ?_
      refine sc_seq ?_
      refine sc_region ?_
      refine st_v (ov_loadN rfl Tryd.underlying23 rfl (sz23.trans rfl) (hp.cells' (t := 3) rfl)) rfl ?_
      refine st_v (ov_move rfl) rfl ?_
      refine st_call pl89 rfl rfl rfl (hashr2_walk B W (l.1 ++ r.1) _ _ _ (Rd.own (hp.own 7 _ rfl)) (by simp [hl, hr]) (by have h9 := gcap1 hcgb; exact h9) (by simp [hl, hr])) ?_
      rintro _ w ⟨rfl, hch⟩
      refine ⟨_, rfl, ?_⟩
      replace hp := hp.call hch
      clear hch
      refine st_v (ov_move rfl) rfl ?_
      refine st_v (ov_extract rfl rfl) rfl ?_
      refine st_v (ov_extract rfl rfl) rfl ?_
      refine st_alloc 10 (hcs hz0) hp rfl zl34 rfl (fun b10 w hp => ?_)
      refine st_storeA 10 hp rfl rfl rfl (by simp [hcs_len]) (sz34.trans (by simp [hcs_len])) (hcs_one _) (fun w hp => ?_)
      refine st_v (ov_assign rfl) rfl ?_
      refine st_nil ?_
      refine pn_then ?_
      refine sc_seq ?_
      refine sc_region ?_
      refine st_v (ov_loadN rfl Tryd.underlying34 rfl (sz34.trans (by simp [hcs_len])) (hp.cells' (t := 10) rfl)) rfl ?_
      refine st_storeA 6 hp rfl rfl rfl (by simp [hcs_len]) (sz34.trans (by simp [hcs_len])) (hcs_one _) (fun w hp => ?_)
      refine st_nil ?_
      refine pn_then ?_
      refine sc_ret ?_
      refine pr_rv1 rfl (rv_cells rfl Tryd.underlying34 rfl (sz34.trans (by simp [hcs_len])) (hp.cells' (t := 6) rfl)) ?_
      exact ⟨rfl, hp.chg⟩

set_option maxRecDepth 100000 in
theorem nothing_walk (B W : Int) (n : Nat) (hn : n ≤ 1048576) (w0 : World) (hk : Cells w0 1 0 (kL.map B32)) (hf : Cells w0 0 0 (fL.map B32)) :
    Calls Tryd.prog 63 #[sca B W, .int .i64 (n : Int)] w0 fun e w' => e = .returned (.agg (hcs (zeroL B W n)).toArray) ∧ Chg [] w0 w' := by
  refine calls_in Tryd.func63 Tryd.ntmps63 rfl rfl ?_
  have hp := Hp.start w0
  refine sc_seq ?_
  refine sc_region ?_
  refine st_box 2 hp rfl rfl rfl (fun b2 w hp => ?_)
  refine st_alloc 4 (hcs hz0) hp rfl zl34 rfl (fun b4 w hp => ?_)
  refine st_nil ?_
  refine pn_then ?_
  refine sc_seq ?_
  refine sc_region ?_
  refine st_alloc 5 (hcs hz0) hp rfl zl34 rfl (fun b5 w hp => ?_)
  refine st_nil ?_
  refine pn_then ?_
  refine sc_seq ?_
  refine sc_seq ?_
  refine sc_region ?_
  refine st_v (ov_move rfl) rfl ?_
  refine st_v (ov_move rfl) rfl ?_
  refine st_nil ?_
  refine pn_then ?_
  refine sc_block ?_
  refine sc_loopH1 (α := Nat) (kv := [(2, _), (4, _), (5, _), (6, _)]) (kl := [(4, _), (2, _)]) (fun i kv => (7, .int .i64 ((i : Nat) : Int)) :: kv) (fun i kl => (5, ⟨some b5, hcs (zeroL B W i), 34⟩) :: kl) (fun i => (i ≤ n)) (fun i => n - i) 0 hp (Sub.cons rfl (Sub.cons rfl (Sub.cons rfl (Sub.cons rfl (Sub.cons rfl (Sub.nil _)))))) (LSub.cons rfl (LSub.cons rfl (LSub.cons rfl (LSub.nil _)))) ?_ ?_
  · exact (by first | omega | (simp; done) | (simp; omega) | (simp [*]; omega))
  intro i w hp hx
  have hi : i ≤ n := hx
  refine sc_seq ?_
  refine sc_region ?_
  refine st_v (ov_lss rfl rfl) rfl ?_
  refine st_nil ?_
  refine pn_then ?_
  refine sc_seq ?_
  refine sc_cond rfl (fun hc => ?_) (fun hc => ?_)
  ·
    have hc := of_decide_eq_true hc
    refine sc_skip ?_
    refine pn_then ?_
    refine sc_seq ?_
    refine sc_block ?_
    refine sc_region ?_
    refine st_v (ov_loadN rfl Tryd.underlying23 rfl (sz23.trans rfl) (hp.cells' (t := 2) rfl)) rfl ?_
    refine st_v (ov_loadN rfl Tryd.underlying34 rfl (sz34.trans (by simp [hcs_len])) (hp.cells' (t := 5) rfl)) rfl ?_
    refine st_v (ov_loadN rfl Tryd.underlying34 rfl (sz34.trans (by simp [hcs_len])) (hp.cells' (t := 5) rfl)) rfl ?_
    refine st_call pl64 rfl rfl rfl (above_walk B W (zeroL B W i) (zeroL B W i) _ (hp.old hk (by simp)) (hp.old hf (by simp))) ?_
    rintro _ w ⟨rfl, hch⟩
    refine ⟨_, rfl, ?_⟩
    replace hp := hp.call hch
    clear hch
    refine st_storeA 5 hp rfl rfl rfl (by simp [hcs_len]) (sz34.trans (by simp [hcs_len])) (hcs_one _) (fun w hp => ?_)
    refine st_nil ?_
    refine pn_block ?_
    refine pn_then ?_
    refine sc_region ?_
    refine st_v (ov_add_n (a := i) (b := 1) rfl rfl (by omega)) rfl ?_
    refine st_v (ov_move rfl) rfl ?_
    refine st_nil ?_
    refine pn_roundH1 (i + 1) hp (Sub.cons rfl (Sub.cons rfl (Sub.cons rfl (Sub.cons rfl (Sub.cons rfl (Sub.nil _)))))) ?_ (LSub.cons rfl (LSub.cons rfl (LSub.cons rfl (LSub.nil _)))) ?_
    · omega
    exact (by first | omega | (simp; done) | (simp; omega) | (simp [*]; omega))
  ·
    have hc := of_decide_eq_false hc
    obtain rfl : i = n := by omega
    refine sc_exit ?_
    refine pe_then ?_
    refine pe_then ?_
    refine pe_hit ?_
    refine pn_then ?_
    refine sc_seq ?_
    refine sc_region ?_
    refine st_v (ov_loadN rfl Tryd.underlying34 rfl (sz34.trans (by simp [hcs_len])) (hp.cells' (t := 5) rfl)) rfl ?_
    refine st_storeA 4 hp rfl rfl rfl (by simp [hcs_len]) (sz34.trans (by simp [hcs_len])) (hcs_one _) (fun w hp => ?_)
    refine st_nil ?_
    refine pn_then ?_
    refine sc_ret ?_
    refine pr_rv1 rfl (rv_cells rfl Tryd.underlying34 rfl (sz34.trans (by simp [hcs_len])) (hp.cells' (t := 4) rfl)) ?_
    exact ⟨rfl, hp.chg⟩

set_option maxRecDepth 100000 in
theorem zero_walk (B W : Int) (n : Nat) (hn : n ≤ 1048576) (w0 : World) :
    Calls Tryd.prog 62 #[sca B W, .int .i64 (n : Int)] w0 fun e w' => e = .returned (.agg (hcs (zeroL B W n)).toArray) ∧ Chg [] w0 w' := by
  refine calls_in Tryd.func62 Tryd.ntmps62 rfl rfl ?_
  have hp := Hp.start w0
  refine sc_seq ?_
  refine sc_region ?_
  refine st_box 2 hp rfl rfl rfl (fun b2 w hp => ?_)
  refine st_alloc 4 (hcs hz0) hp rfl zl34 rfl (fun b4 w hp => ?_)
  refine st_nil ?_
  refine pn_then ?_
  refine sc_seq ?_
  refine sc_region ?_
  refine st_alloc 5 (hcs hz0) hp rfl zl34 rfl (fun b5 w hp => ?_)
  refine st_nil ?_
  refine pn_then ?_
  refine sc_seq ?_
  refine sc_seq ?_
  refine sc_region ?_
  refine st_v (ov_assign rfl) rfl ?_
  refine st_nil ?_
  refine pn_then ?_
  refine sc_block ?_
  refine sc_loopH1 (α := Nat) (kv := [(1, _), (2, _), (4, _), (5, _)]) (kl := [(4, _), (2, _)]) (fun i kv => (6, .int .i64 ((i : Nat) : Int)) :: kv) (fun i kl => (5, ⟨some b5, hcs (zeroL B W i), 34⟩) :: kl) (fun i => (i ≤ n)) (fun i => n - i) 0 hp (Sub.cons rfl (Sub.cons rfl (Sub.cons rfl (Sub.cons rfl (Sub.cons rfl (Sub.nil _)))))) (LSub.cons rfl (LSub.cons rfl (LSub.cons rfl (LSub.nil _)))) ?_ ?_
  · exact (by first | omega | (simp; done) | (simp; omega) | (simp [*]; omega))
  intro i w hp hx
  have hi : i ≤ n := hx
  refine sc_seq ?_
  refine sc_seq ?_
  refine sc_region ?_
  refine st_v (ov_move rfl) rfl ?_
  refine st_v (ov_move rfl) rfl ?_
  refine st_v (ov_lss rfl rfl) rfl ?_
  refine st_nil ?_
  refine pn_then ?_
  refine sc_cond rfl (fun hc => ?_) (fun hc => ?_)
  ·
    have hc := of_decide_eq_true hc
    refine sc_skip ?_
    refine pn_then ?_
    refine sc_seq ?_
    refine sc_block ?_
    refine sc_region ?_
    refine st_v (ov_loadN rfl Tryd.underlying23 rfl (sz23.trans rfl) (hp.cells' (t := 2) rfl)) rfl ?_
    refine st_v (ov_loadN rfl Tryd.underlying34 rfl (sz34.trans (by simp [hcs_len])) (hp.cells' (t := 5) rfl)) rfl ?_
    refine st_v (ov_loadN rfl Tryd.underlying34 rfl (sz34.trans (by simp [hcs_len])) (hp.cells' (t := 5) rfl)) rfl ?_
    refine st_call pl65 rfl rfl rfl (pair_walk B W (zeroL B W i) (zeroL B W i) _) ?_
    rintro _ w ⟨rfl, hch⟩
    refine ⟨_, rfl, ?_⟩
    replace hp := hp.call hch
    clear hch
    refine st_storeA 5 hp rfl rfl rfl (by simp [hcs_len]) (sz34.trans (by simp [hcs_len])) (hcs_one _) (fun w hp => ?_)
    refine st_nil ?_
    refine pn_block ?_
    refine pn_then ?_
    refine sc_region ?_
    refine st_v (ov_move rfl) rfl ?_
    refine st_v (ov_add_n (a := i) (b := 1) rfl rfl (by omega)) rfl ?_
    refine st_v (ov_assign rfl) rfl ?_
    refine st_nil ?_
    refine pn_roundH1 (i + 1) hp (Sub.cons rfl (Sub.cons rfl (Sub.cons rfl (Sub.cons rfl (Sub.cons rfl (Sub.nil _)))))) ?_ (LSub.cons rfl (LSub.cons rfl (LSub.cons rfl (LSub.nil _)))) ?_
    · omega
    exact (by first | omega | (simp; done) | (simp; omega) | (simp [*]; omega))
  ·
    have hc := of_decide_eq_false hc
    obtain rfl : i = n := by omega
    refine sc_exit ?_
    refine pe_then ?_
    refine pe_then ?_
    refine pe_hit ?_
    refine pn_then ?_
    refine sc_seq ?_
    refine sc_region ?_
    refine st_v (ov_loadN rfl Tryd.underlying34 rfl (sz34.trans (by simp [hcs_len])) (hp.cells' (t := 5) rfl)) rfl ?_
    refine st_storeA 4 hp rfl rfl rfl (by simp [hcs_len]) (sz34.trans (by simp [hcs_len])) (hcs_one _) (fun w hp => ?_)
    refine st_nil ?_
    refine pn_then ?_
    refine sc_ret ?_
    refine pr_rv1 rfl (rv_cells rfl Tryd.underlying34 rfl (sz34.trans (by simp [hcs_len])) (hp.cells' (t := 4) rfl)) ?_
    exact ⟨rfl, hp.chg⟩

set_option maxRecDepth 100000 in
theorem Zero_walk (B W h : Int) (w0 : World) (hk : Cells w0 1 0 (kL.map B32)) (hf : Cells w0 0 0 (fL.map B32)) :
    Calls Tryd.prog 22 #[sca B W, .int .i64 h] w0 fun e w' => e = .returned (.tuple #[.agg (hcs (zeroV B W h)).toArray, .int .i64 (zeroE B W h)]) ∧ Chg [] w0 w' := by
  refine calls_in Tryd.func22 Tryd.ntmps22 rfl rfl ?_
  have hp := Hp.start w0
  refine sc_seq ?_
  refine sc_region ?_
  refine st_box 2 hp rfl rfl rfl (fun b2 w hp => ?_)
  refine st_alloc 4 (hcs hz0) hp rfl zl34 rfl (fun b4 w hp => ?_)
  refine st_v (ov_assign rfl) rfl ?_
  refine st_nil ?_
  refine pn_then ?_
  refine sc_seq ?_
  refine sc_seq ?_
  refine sc_region ?_
  refine st_v (ov_loadN rfl Tryd.underlying23 rfl (sz23.trans rfl) (hp.cells' (t := 2) rfl)) rfl ?_
  refine st_call pl39 rfl rfl rfl (good_walk B W _) ?_
  rintro _ w ⟨rfl, hch⟩
  refine ⟨_, rfl, ?_⟩
  replace hp := hp.call hch
  clear hch
  refine st_v (ov_assign rfl) rfl ?_
  refine st_nil ?_
  refine pn_then ?_
  refine sc_seq ?_
  refine sc_region ?_
  refine st_v (ov_move rfl) rfl ?_
  refine st_v (ov_neq rfl rfl) rfl ?_
  refine st_nil ?_
  refine pn_then ?_
  refine sc_cond rfl (fun hc => ?_) (fun hc => ?_)
  ·
    have hc := of_decide_eq_true hc
    have hz : zeroE B W h = goodNo B W := by unfold zeroE; rw [if_pos hc]
    have hv : zeroV B W h = hz0 := by unfold zeroV; rw [hz, if_neg hc]
    refine sc_seq ?_
    refine sc_region ?_
    refine st_v (ov_buildA (cells := hcs hz0) rfl Tryd.underlying34 zl34 sz5 (by kernel_rfl)) rfl ?_
    refine st_v (ov_move rfl) rfl ?_
    refine st_storeA 4 hp rfl rfl rfl (by simp [hcs_len]) (sz34.trans (by simp [hcs_len])) (hcs_one _) (fun w hp => ?_)
    refine st_v (ov_assign rfl) rfl ?_
    refine st_nil ?_
    refine pn_then ?_
    refine sc_ret ?_
    refine pr_then ?_
    refine pr_rv2 rfl (rv_cells rfl Tryd.underlying34 rfl (sz34.trans (by simp [hcs_len])) (hp.cells' (t := 4) rfl)) (rv_tmp rfl) ?_
    exact ⟨by rw [hz, hv], hp.chg⟩
  ·
    have hc := of_decide_eq_false hc
    refine sc_skip ?_
    refine pn_then ?_
    refine sc_seq ?_
    refine sc_seq ?_
    refine sc_region ?_
    refine st_v (ov_move rfl) rfl ?_
    refine st_v (ov_lss rfl rfl) rfl ?_
    refine st_v (ov_move rfl) rfl ?_
    refine st_split (j := 15) rfl (fun hb => ?_) (fun hb => ?_)
    ·
      have hb := of_decide_eq_true hb
      refine st_off (j := 2) rfl rfl rfl rfl ?_
      refine st_off (j := 2) rfl rfl rfl rfl ?_
      refine st_v (ov_pick_t rfl rfl) rfl ?_
      refine st_nil ?_
      refine pn_then ?_
      refine sc_true rfl ?_
      refine sc_seq ?_
      refine sc_region ?_
      refine st_v (ov_buildA (cells := hcs hz0) rfl Tryd.underlying34 zl34 sz5 (by kernel_rfl)) rfl ?_
      refine st_storeA 4 hp rfl rfl rfl (by simp [hcs_len]) (sz34.trans (by simp [hcs_len])) (hcs_one _) (fun w hp => ?_)
      refine st_v (ov_assign rfl) rfl ?_
      refine st_nil ?_
      refine pn_then ?_
      refine sc_ret ?_
      refine pr_then ?_
      refine pr_rv2 rfl (rv_cells rfl Tryd.underlying34 rfl (sz34.trans (by simp [hcs_len])) (hp.cells' (t := 4) rfl)) (rv_tmp rfl) ?_
      have hz : zeroE B W h = 60 := by unfold zeroE; rw [if_neg (by assumption), if_pos (by omega)]
      have hv : zeroV B W h = hz0 := by unfold zeroV; rw [hz]; rfl
      exact ⟨by rw [hz, hv], hp.chg⟩
    ·
      have hb := of_decide_eq_false hb
      refine st_on (j := 2) rfl rfl ?_
      refine st_v (ov_move rfl) rfl ?_
      refine st_on (j := 2) rfl rfl ?_
      refine st_v (ov_gtr rfl rfl) rfl ?_
      refine st_v (ov_pick_f rfl rfl) rfl ?_
      refine st_nil ?_
      refine pn_then ?_
      refine sc_cond rfl (fun hc => ?_) (fun hc => ?_)
      ·
        have hc := of_decide_eq_true hc
        refine sc_seq ?_
        refine sc_region ?_
        refine st_v (ov_buildA (cells := hcs hz0) rfl Tryd.underlying34 zl34 sz5 (by kernel_rfl)) rfl ?_
        refine st_storeA 4 hp rfl rfl rfl (by simp [hcs_len]) (sz34.trans (by simp [hcs_len])) (hcs_one _) (fun w hp => ?_)
        refine st_v (ov_assign rfl) rfl ?_
        refine st_nil ?_
        refine pn_then ?_
        refine sc_ret ?_
        refine pr_then ?_
        refine pr_rv2 rfl (rv_cells rfl Tryd.underlying34 rfl (sz34.trans (by simp [hcs_len])) (hp.cells' (t := 4) rfl)) (rv_tmp rfl) ?_
        have hz : zeroE B W h = 60 := by unfold zeroE; rw [if_neg (by assumption), if_pos (by omega)]
        have hv : zeroV B W h = hz0 := by unfold zeroV; rw [hz]; rfl
        exact ⟨by rw [hz, hv], hp.chg⟩
      ·
        have hc := of_decide_eq_false hc
        refine sc_skip ?_
        refine pn_then ?_
        refine sc_seq ?_
        obtain ⟨n, rfl⟩ : ∃ n : Nat, h = (n : Int) := ⟨h.toNat, by omega⟩
        refine sc_region ?_
        refine st_v (ov_loadN rfl Tryd.underlying23 rfl (sz23.trans rfl) (hp.cells' (t := 2) rfl)) rfl ?_
        refine st_v (ov_move rfl) rfl ?_
        refine st_call pl63 rfl rfl rfl (nothing_walk B W n (by omega) _ (hp.old hk (by simp)) (hp.old hf (by simp))) ?_
        rintro _ w ⟨rfl, hch⟩
        refine ⟨_, rfl, ?_⟩
        replace hp := hp.call hch
        clear hch
        refine st_storeA 4 hp rfl rfl rfl (by simp [hcs_len]) (sz34.trans (by simp [hcs_len])) (hcs_one _) (fun w hp => ?_)
        refine st_v (ov_assign rfl) rfl ?_
        refine st_nil ?_
        refine pn_then ?_
        refine sc_ret ?_
        refine pr_rv2 rfl (rv_cells rfl Tryd.underlying34 rfl (sz34.trans (by simp [hcs_len])) (hp.cells' (t := 4) rfl)) (rv_tmp rfl) ?_
        have hz : zeroE B W (n : Int) = 0 := by unfold zeroE; rw [if_neg (by assumption), if_neg (by omega)]
        have hv : zeroV B W (n : Int) = zeroL B W n := by unfold zeroV; rw [if_pos hz, Int.toNat_natCast]
        exact ⟨by rw [hz, hv], hp.chg⟩

set_option maxRecDepth 100000 in
theorem Zeror_walk (B W h : Int) (w0 : World) :
    Calls Tryd.prog 21 #[sca B W, .int .i64 h] w0 fun e w' => e = .returned (.tuple #[.agg (hcs (zeroV B W h)).toArray, .int .i64 (zeroE B W h)]) ∧ Chg [] w0 w' := by
  refine calls_in Tryd.func21 Tryd.ntmps21 rfl rfl ?_
  have hp := Hp.start w0
  refine sc_seq ?_
  refine sc_region ?_
  refine st_box 2 hp rfl rfl rfl (fun b2 w hp => ?_)
  refine st_alloc 4 (hcs hz0) hp rfl zl34 rfl (fun b4 w hp => ?_)
  refine st_v (ov_assign rfl) rfl ?_
  refine st_nil ?_
  refine pn_then ?_
  refine sc_seq ?_
  refine sc_region ?_
  refine st_v (ov_loadN rfl Tryd.underlying23 rfl (sz23.trans rfl) (hp.cells' (t := 2) rfl)) rfl ?_
  refine st_call pl56 rfl rfl rfl (goodr_walk B W _) ?_
  rintro _ w ⟨rfl, hch⟩
  refine ⟨_, rfl, ?_⟩
  replace hp := hp.call hch
  clear hch
  refine st_v (ov_assign rfl) rfl ?_
  refine st_nil ?_
  refine pn_then ?_
  refine sc_seq ?_
  refine sc_seq ?_
  refine sc_region ?_
  refine st_v (ov_move rfl) rfl ?_
  refine st_v (ov_neq rfl rfl) rfl ?_
  refine st_nil ?_
  refine pn_then ?_
  refine sc_cond rfl (fun hc => ?_) (fun hc => ?_)
  ·
    have hc := of_decide_eq_true hc
    have hz : zeroE B W h = goodNo B W := by unfold zeroE; rw [if_pos hc]
    have hv : zeroV B W h = hz0 := by unfold zeroV; rw [hz, if_neg hc]
    refine sc_seq ?_
    refine sc_region ?_
    refine st_v (ov_buildA (cells := hcs hz0) rfl Tryd.underlying34 zl34 sz5 (by kernel_rfl)) rfl ?_
    refine st_v (ov_move rfl) rfl ?_
    refine st_storeA 4 hp rfl rfl rfl (by simp [hcs_len]) (sz34.trans (by simp [hcs_len])) (hcs_one _) (fun w hp => ?_)
    refine st_v (ov_assign rfl) rfl ?_
    refine st_nil ?_
    refine pn_then ?_
    refine sc_ret ?_
    refine pr_then ?_
    refine pr_rv2 rfl (rv_cells rfl Tryd.underlying34 rfl (sz34.trans (by simp [hcs_len])) (hp.cells' (t := 4) rfl)) (rv_tmp rfl) ?_
    exact ⟨by rw [hz, hv], hp.chg⟩
  ·
    have hc := of_decide_eq_false hc
    refine sc_skip ?_
    refine pn_then ?_
    refine sc_seq ?_
    refine sc_seq ?_
    refine sc_region ?_
    refine st_v (ov_move rfl) rfl ?_
    refine st_v (ov_lss rfl rfl) rfl ?_
    refine st_v (ov_move rfl) rfl ?_
    refine st_split (j := 15) rfl (fun hb => ?_) (fun hb => ?_)
    ·
      have hb := of_decide_eq_true hb
      refine st_off (j := 2) rfl rfl rfl rfl ?_
      refine st_off (j := 2) rfl rfl rfl rfl ?_
      refine st_v (ov_pick_t rfl rfl) rfl ?_
      refine st_nil ?_
      refine pn_then ?_
      refine sc_true rfl ?_
      refine sc_seq ?_
      refine sc_region ?_
      refine st_v (ov_buildA (cells := hcs hz0) rfl Tryd.underlying34 zl34 sz5 (by kernel_rfl)) rfl ?_
      refine st_storeA 4 hp rfl rfl rfl (by simp [hcs_len]) (sz34.trans (by simp [hcs_len])) (hcs_one _) (fun w hp => ?_)
      refine st_v (ov_assign rfl) rfl ?_
      refine st_nil ?_
      refine pn_then ?_
      refine sc_ret ?_
      refine pr_then ?_
      refine pr_rv2 rfl (rv_cells rfl Tryd.underlying34 rfl (sz34.trans (by simp [hcs_len])) (hp.cells' (t := 4) rfl)) (rv_tmp rfl) ?_
      have hz : zeroE B W h = 60 := by unfold zeroE; rw [if_neg (by assumption), if_pos (by omega)]
      have hv : zeroV B W h = hz0 := by unfold zeroV; rw [hz]; rfl
      exact ⟨by rw [hz, hv], hp.chg⟩
    ·
      have hb := of_decide_eq_false hb
      refine st_on (j := 2) rfl rfl ?_
      refine st_v (ov_move rfl) rfl ?_
      refine st_on (j := 2) rfl rfl ?_
      refine st_v (ov_gtr rfl rfl) rfl ?_
      refine st_v (ov_pick_f rfl rfl) rfl ?_
      refine st_nil ?_
      refine pn_then ?_
      refine sc_cond rfl (fun hc => ?_) (fun hc => ?_)
      ·
        have hc := of_decide_eq_true hc
        refine sc_seq ?_
        refine sc_region ?_
        refine st_v (ov_buildA (cells := hcs hz0) rfl Tryd.underlying34 zl34 sz5 (by kernel_rfl)) rfl ?_
        refine st_storeA 4 hp rfl rfl rfl (by simp [hcs_len]) (sz34.trans (by simp [hcs_len])) (hcs_one _) (fun w hp => ?_)
        refine st_v (ov_assign rfl) rfl ?_
        refine st_nil ?_
        refine pn_then ?_
        refine sc_ret ?_
        refine pr_then ?_
        refine pr_rv2 rfl (rv_cells rfl Tryd.underlying34 rfl (sz34.trans (by simp [hcs_len])) (hp.cells' (t := 4) rfl)) (rv_tmp rfl) ?_
        have hz : zeroE B W h = 60 := by unfold zeroE; rw [if_neg (by assumption), if_pos (by omega)]
        have hv : zeroV B W h = hz0 := by unfold zeroV; rw [hz]; rfl
        exact ⟨by rw [hz, hv], hp.chg⟩
      ·
        have hc := of_decide_eq_false hc
        refine sc_skip ?_
        refine pn_then ?_
        refine sc_seq ?_
        obtain ⟨n, rfl⟩ : ∃ n : Nat, h = (n : Int) := ⟨h.toNat, by omega⟩
        refine sc_region ?_
        refine st_v (ov_loadN rfl Tryd.underlying23 rfl (sz23.trans rfl) (hp.cells' (t := 2) rfl)) rfl ?_
        refine st_v (ov_move rfl) rfl ?_
        refine st_call pl62 rfl rfl rfl (zero_walk B W n (by omega) _) ?_
        rintro _ w ⟨rfl, hch⟩
        refine ⟨_, rfl, ?_⟩
        replace hp := hp.call hch
        clear hch
        refine st_storeA 4 hp rfl rfl rfl (by simp [hcs_len]) (sz34.trans (by simp [hcs_len])) (hcs_one _) (fun w hp => ?_)
        refine st_v (ov_assign rfl) rfl ?_
        refine st_nil ?_
        refine pn_then ?_
        refine sc_ret ?_
        refine pr_rv2 rfl (rv_cells rfl Tryd.underlying34 rfl (sz34.trans (by simp [hcs_len])) (hp.cells' (t := 4) rfl)) (rv_tmp rfl) ?_
        have hz : zeroE B W (n : Int) = 0 := by unfold zeroE; rw [if_neg (by assumption), if_neg (by omega)]
        have hv : zeroV B W (n : Int) = zeroL B W n := by unfold zeroV; rw [if_pos hz, Int.toNat_natCast]
        exact ⟨by rw [hz, hv], hp.chg⟩

set_option maxRecDepth 100000 in
theorem Pair_walk (B W : Int) (l r : Hs) (w0 : World) (hk : Cells w0 1 0 (kL.map B32)) (hf : Cells w0 0 0 (fL.map B32)) :
    Calls Tryd.prog 23 #[sca B W, .agg (hcs l).toArray, .agg (hcs r).toArray] w0 fun e w' => e = .returned (.tuple #[.agg (hcs (pairV B W l r)).toArray, .int .i64 (goodNo B W)]) ∧ Chg [] w0 w' := by
  refine calls_in Tryd.func23 Tryd.ntmps23 rfl rfl ?_
  have hp := Hp.start w0
  refine sc_seq ?_
  refine sc_region ?_
  refine st_box 3 hp rfl rfl rfl (fun b3 w hp => ?_)
  refine st_box 4 hp rfl rfl rfl (fun b4 w hp => ?_)
  refine st_box 5 hp rfl rfl rfl (fun b5 w hp => ?_)
  refine st_alloc 6 (hcs hz0) hp rfl zl34 rfl (fun b6 w hp => ?_)
  refine st_v (ov_assign rfl) rfl ?_
  refine st_nil ?_
  refine pn_then ?_
  refine sc_seq ?_
  refine sc_seq ?_
  refine sc_region ?_
  refine st_v (ov_loadN rfl Tryd.underlying23 rfl (sz23.trans rfl) (hp.cells' (t := 3) rfl)) rfl ?_
  refine st_call pl39 rfl rfl rfl (good_walk B W _) ?_
  rintro _ w ⟨rfl, hch⟩
  refine ⟨_, rfl, ?_⟩
  replace hp := hp.call hch
  clear hch
  refine st_v (ov_assign rfl) rfl ?_
  refine st_nil ?_
  refine pn_then ?_
  refine sc_seq ?_
  refine sc_region ?_
  refine st_v (ov_move rfl) rfl ?_
  refine st_v (ov_neq rfl rfl) rfl ?_
  refine st_nil ?_
  refine pn_then ?_
  refine sc_cond rfl (fun hc => ?_) (fun hc => ?_)
  ·
    have hc := of_decide_eq_true hc
    refine sc_seq ?_
    refine sc_region ?_
    refine st_v (ov_buildA (cells := hcs hz0) rfl Tryd.underlying34 zl34 sz5 (by kernel_rfl)) rfl ?_
    refine st_v (ov_move rfl) rfl ?_
    refine st_storeA 6 hp rfl rfl rfl (by simp [hcs_len]) (sz34.trans (by simp [hcs_len])) (hcs_one _) (fun w hp => ?_)
    refine st_v (ov_assign rfl) rfl ?_
    refine st_nil ?_
    refine pn_then ?_
    refine sc_ret ?_
    refine pr_then ?_
    refine pr_rv2 rfl (rv_cells rfl Tryd.underlying34 rfl (sz34.trans (by simp [hcs_len])) (hp.cells' (t := 6) rfl)) (rv_tmp rfl) ?_
    exact ⟨by unfold pairV; rw [if_neg hc], hp.chg⟩
  ·
    have hc := of_decide_eq_false hc
    refine sc_skip ?_
    refine pn_then ?_
    refine sc_seq ?_
    refine sc_region ?_
    refine st_v (ov_loadN rfl Tryd.underlying23 rfl (sz23.trans rfl) (hp.cells' (t := 3) rfl)) rfl ?_
    refine st_v (ov_loadN rfl Tryd.underlying34 rfl (sz34.trans (by simp [hcs_len])) (hp.cells' (t := 4) rfl)) rfl ?_
    refine st_v (ov_loadN rfl Tryd.underlying34 rfl (sz34.trans (by simp [hcs_len])) (hp.cells' (t := 5) rfl)) rfl ?_
    refine st_call pl64 rfl rfl rfl (above_walk B W l r _ (hp.old hk (by simp)) (hp.old hf (by simp))) ?_
    rintro _ w ⟨rfl, hch⟩
    refine ⟨_, rfl, ?_⟩
    replace hp := hp.call hch
    clear hch
    refine st_storeA 6 hp rfl rfl rfl (by simp [hcs_len]) (sz34.trans (by simp [hcs_len])) (hcs_one _) (fun w hp => ?_)
    refine st_v (ov_assign rfl) rfl ?_
    refine st_nil ?_
    refine pn_then ?_
    refine sc_ret ?_
    refine pr_rv2 rfl (rv_cells rfl Tryd.underlying34 rfl (sz34.trans (by simp [hcs_len])) (hp.cells' (t := 6) rfl)) (rv_tmp rfl) ?_
    have hg : goodNo B W = 0 := by omega
    exact ⟨by unfold pairV; rw [if_pos hg, hg], hp.chg⟩

set_option maxRecDepth 100000 in
theorem Pairr_walk (B W : Int) (l r : Hs) (w0 : World) :
    Calls Tryd.prog 24 #[sca B W, .agg (hcs l).toArray, .agg (hcs r).toArray] w0 fun e w' => e = .returned (.tuple #[.agg (hcs (pairV B W l r)).toArray, .int .i64 (goodNo B W)]) ∧ Chg [] w0 w' := by
  refine calls_in Tryd.func24 Tryd.ntmps24 rfl rfl ?_
  have hp := Hp.start w0
  refine sc_seq ?_
  refine sc_region ?_
  refine st_box 3 hp rfl rfl rfl (fun b3 w hp => ?_)
  refine st_box 4 hp rfl rfl rfl (fun b4 w hp => ?_)
  refine st_box 5 hp rfl rfl rfl (fun b5 w hp => ?_)
  refine st_alloc 6 (hcs hz0) hp rfl zl34 rfl (fun b6 w hp => ?_)
  refine st_v (ov_assign rfl) rfl ?_
  refine st_nil ?_
  refine pn_then ?_
  refine sc_seq ?_
  refine sc_region ?_
  refine st_v (ov_loadN rfl Tryd.underlying23 rfl (sz23.trans rfl) (hp.cells' (t := 3) rfl)) rfl ?_
  refine st_call pl56 rfl rfl rfl (goodr_walk B W _) ?_
  rintro _ w ⟨rfl, hch⟩
  refine ⟨_, rfl, ?_⟩
  replace hp := hp.call hch
  clear hch
  refine st_v (ov_assign rfl) rfl ?_
  refine st_nil ?_
  refine pn_then ?_
  refine sc_seq ?_
  refine sc_seq ?_
  refine sc_region ?_
  refine st_v (ov_move rfl) rfl ?_
  refine st_v (ov_neq rfl rfl) rfl ?_
  refine st_nil ?_
  refine pn_then ?_
  refine sc_cond rfl (fun hc => ?_) (fun hc => ?_)
  ·
    have hc := of_decide_eq_true hc
    refine sc_seq ?_
    refine sc_region ?_
    refine st_v (ov_buildA (cells := hcs hz0) rfl Tryd.underlying34 zl34 sz5 (by kernel_rfl)) rfl ?_
    refine st_v (ov_move rfl) rfl ?_
    refine st_storeA 6 hp rfl rfl rfl (by simp [hcs_len]) (sz34.trans (by simp [hcs_len])) (hcs_one _) (fun w hp => ?_)
    refine st_v (ov_assign rfl) rfl ?_
    refine st_nil ?_
    refine pn_then ?_
    refine sc_ret ?_
    refine pr_then ?_
    refine pr_rv2 rfl (rv_cells rfl Tryd.underlying34 rfl (sz34.trans (by simp [hcs_len])) (hp.cells' (t := 6) rfl)) (rv_tmp rfl) ?_
    exact ⟨by unfold pairV; rw [if_neg hc], hp.chg⟩
  ·
    have hc := of_decide_eq_false hc
    refine sc_skip ?_
    refine pn_then ?_
    refine sc_seq ?_
    refine sc_region ?_
    refine st_v (ov_loadN rfl Tryd.underlying23 rfl (sz23.trans rfl) (hp.cells' (t := 3) rfl)) rfl ?_
    refine st_v (ov_loadN rfl Tryd.underlying34 rfl (sz34.trans (by simp [hcs_len])) (hp.cells' (t := 4) rfl)) rfl ?_
    refine st_v (ov_loadN rfl Tryd.underlying34 rfl (sz34.trans (by simp [hcs_len])) (hp.cells' (t := 5) rfl)) rfl ?_
    refine st_call pl65 rfl rfl rfl (pair_walk B W l r _) ?_
    rintro _ w ⟨rfl, hch⟩
    refine ⟨_, rfl, ?_⟩
    replace hp := hp.call hch
    clear hch
    refine st_storeA 6 hp rfl rfl rfl (by simp [hcs_len]) (sz34.trans (by simp [hcs_len])) (hcs_one _) (fun w hp => ?_)
    refine st_v (ov_assign rfl) rfl ?_
    refine st_nil ?_
    refine pn_then ?_
    refine sc_ret ?_
    refine pr_rv2 rfl (rv_cells rfl Tryd.underlying34 rfl (sz34.trans (by simp [hcs_len])) (hp.cells' (t := 6) rfl)) (rv_tmp rfl) ?_
    have hg : goodNo B W = 0 := by omega
    exact ⟨by unfold pairV; rw [if_pos hg, hg], hp.chg⟩

set_option maxRecDepth 100000 in
theorem law_nodes (B W h : Int) (l r : Hs) (w0 : World) (hk : Cells w0 1 0 (kL.map B32)) (hf : Cells w0 0 0 (fL.map B32)) :
    Calls Tryd.prog 4 #[sca B W, .int .i64 h, .agg (hcs l).toArray, .agg (hcs r).toArray] w0 fun e w' => e = .returned (.bool true) ∧ Chg [] w0 w' := by
  refine calls_in Tryd.func4 Tryd.ntmps4 rfl rfl ?_
  have hp := Hp.start w0
  refine sc_seq ?_
  refine sc_region ?_
  refine st_box 4 hp rfl rfl rfl (fun b4 w hp => ?_)
  refine st_box 6 hp rfl rfl rfl (fun b6 w hp => ?_)
  refine st_box 7 hp rfl rfl rfl (fun b7 w hp => ?_)
  refine st_v (ov_assign rfl) rfl ?_
  refine st_nil ?_
  refine pn_then ?_
  refine sc_seq ?_
  refine sc_region ?_
  refine st_v (ov_loadN rfl Tryd.underlying23 rfl (sz23.trans rfl) (hp.cells' (t := 4) rfl)) rfl ?_
  refine st_v (ov_move rfl) rfl ?_
  refine st_call pl21 rfl rfl rfl (Zeror_walk B W h _) ?_
  rintro _ w ⟨rfl, hch⟩
  refine ⟨_, rfl, ?_⟩
  replace hp := hp.call hch
  clear hch
  refine st_v (ov_move rfl) rfl ?_
  refine st_v (ov_extract rfl rfl) rfl ?_
  refine st_v (ov_extract rfl rfl) rfl ?_
  refine st_alloc 9 (hcs hz0) hp rfl zl34 rfl (fun b9 w hp => ?_)
  refine st_storeA 9 hp rfl rfl rfl (by simp [hcs_len]) (sz34.trans (by simp [hcs_len])) (hcs_one _) (fun w hp => ?_)
  refine st_v (ov_assign rfl) rfl ?_
  refine st_nil ?_
  refine pn_then ?_
  refine sc_seq ?_
  refine sc_region ?_
  refine st_v (ov_loadN rfl Tryd.underlying23 rfl (sz23.trans rfl) (hp.cells' (t := 4) rfl)) rfl ?_
  refine st_v (ov_move rfl) rfl ?_
  refine st_call pl22 rfl rfl rfl (Zero_walk B W h _ (hp.old hk (by simp)) (hp.old hf (by simp))) ?_
  rintro _ w ⟨rfl, hch⟩
  refine ⟨_, rfl, ?_⟩
  replace hp := hp.call hch
  clear hch
  refine st_v (ov_move rfl) rfl ?_
  refine st_v (ov_extract rfl rfl) rfl ?_
  refine st_v (ov_extract rfl rfl) rfl ?_
  refine st_alloc 11 (hcs hz0) hp rfl zl34 rfl (fun b11 w hp => ?_)
  refine st_storeA 11 hp rfl rfl rfl (by simp [hcs_len]) (sz34.trans (by simp [hcs_len])) (hcs_one _) (fun w hp => ?_)
  refine st_v (ov_assign rfl) rfl ?_
  refine st_nil ?_
  refine pn_then ?_
  refine sc_seq ?_
  refine sc_seq ?_
  refine sc_region ?_
  refine st_v (ov_move rfl) rfl ?_
  refine st_v (ov_move rfl) rfl ?_
  refine st_v (v := .bool false) ((ov_neq rfl rfl).is ((by simp))) rfl ?_
  refine st_v (ov_move rfl) rfl ?_
  refine st_on (j := 3) rfl rfl ?_
  refine st_v (ov_loadN rfl Tryd.underlying34 rfl (sz34.trans (by simp [hcs_len])) (hp.cells' (t := 11) rfl)) rfl ?_
  refine st_on (j := 3) rfl rfl ?_
  refine st_v (ov_loadN rfl Tryd.underlying34 rfl (sz34.trans (by simp [hcs_len])) (hp.cells' (t := 9) rfl)) rfl ?_
  refine st_on (j := 3) rfl rfl ?_
  refine st_v (v := .bool false) ((ov_neqA (k := .u8) (g := fun x : UInt8 => (x.toNat : Int))  inj8 Tryd.underlying34 Tryd.underlying5 sz5 gd34 rfl rfl ⟨Subtype.property (p := fun l : List UInt8 => l.length = 32) _, Subtype.property (p := fun l : List UInt8 => l.length = 32) _⟩).is ((by simp))) rfl ?_
  refine st_v (ov_pick_f rfl rfl) rfl ?_
  refine st_nil ?_
  refine pn_then ?_
  refine sc_false rfl ?_
  refine sc_skip ?_
  refine pn_then ?_
  refine sc_seq ?_
  refine sc_region ?_
  refine st_v (ov_loadN rfl Tryd.underlying23 rfl (sz23.trans rfl) (hp.cells' (t := 4) rfl)) rfl ?_
  refine st_v (ov_loadN rfl Tryd.underlying34 rfl (sz34.trans (by simp [hcs_len])) (hp.cells' (t := 6) rfl)) rfl ?_
  refine st_v (ov_loadN rfl Tryd.underlying34 rfl (sz34.trans (by simp [hcs_len])) (hp.cells' (t := 7) rfl)) rfl ?_
  refine st_call pl23 rfl rfl rfl (Pair_walk B W l r _ (hp.old hk (by simp)) (hp.old hf (by simp))) ?_
  rintro _ w ⟨rfl, hch⟩
  refine ⟨_, rfl, ?_⟩
  replace hp := hp.call hch
  clear hch
  refine st_v (ov_move rfl) rfl ?_
  refine st_v (ov_extract rfl rfl) rfl ?_
  refine st_v (ov_extract rfl rfl) rfl ?_
  refine st_alloc 13 (hcs hz0) hp rfl zl34 rfl (fun b13 w hp => ?_)
  refine st_storeA 13 hp rfl rfl rfl (by simp [hcs_len]) (sz34.trans (by simp [hcs_len])) (hcs_one _) (fun w hp => ?_)
  refine st_v (ov_assign rfl) rfl ?_
  refine st_nil ?_
  refine pn_then ?_
  refine sc_seq ?_
  refine sc_region ?_
  refine st_v (ov_loadN rfl Tryd.underlying23 rfl (sz23.trans rfl) (hp.cells' (t := 4) rfl)) rfl ?_
  refine st_v (ov_loadN rfl Tryd.underlying34 rfl (sz34.trans (by simp [hcs_len])) (hp.cells' (t := 6) rfl)) rfl ?_
  refine st_v (ov_loadN rfl Tryd.underlying34 rfl (sz34.trans (by simp [hcs_len])) (hp.cells' (t := 7) rfl)) rfl ?_
  refine st_call pl24 rfl rfl rfl (Pairr_walk B W l r _) ?_
  rintro _ w ⟨rfl, hch⟩
  refine ⟨_, rfl, ?_⟩
  replace hp := hp.call hch
  clear hch
  refine st_v (ov_move rfl) rfl ?_
  refine st_v (ov_extract rfl rfl) rfl ?_
  refine st_v (ov_extract rfl rfl) rfl ?_
  refine st_alloc 15 (hcs hz0) hp rfl zl34 rfl (fun b15 w hp => ?_)
  refine st_storeA 15 hp rfl rfl rfl (by simp [hcs_len]) (sz34.trans (by simp [hcs_len])) (hcs_one _) (fun w hp => ?_)
  refine st_v (ov_assign rfl) rfl ?_
  refine st_nil ?_
  refine pn_then ?_
  refine sc_seq ?_
  refine sc_region ?_
  refine st_v (ov_move rfl) rfl ?_
  refine st_v (ov_move rfl) rfl ?_
  refine st_v (v := .bool true) ((ov_eql rfl rfl).is ((by simp))) rfl ?_
  refine st_v (ov_move rfl) rfl ?_
  refine st_on (j := 3) rfl rfl ?_
  refine st_v (ov_loadN rfl Tryd.underlying34 rfl (sz34.trans (by simp [hcs_len])) (hp.cells' (t := 13) rfl)) rfl ?_
  refine st_on (j := 3) rfl rfl ?_
  refine st_v (ov_loadN rfl Tryd.underlying34 rfl (sz34.trans (by simp [hcs_len])) (hp.cells' (t := 15) rfl)) rfl ?_
  refine st_on (j := 3) rfl rfl ?_
  refine st_v (v := .bool true) ((ov_eqlA (k := .u8) (g := fun x : UInt8 => (x.toNat : Int))  inj8 Tryd.underlying34 Tryd.underlying5 sz5 gd34 rfl rfl ⟨Subtype.property (p := fun l : List UInt8 => l.length = 32) _, Subtype.property (p := fun l : List UInt8 => l.length = 32) _⟩).is ((by simp))) rfl ?_
  refine st_v (ov_pick_t rfl rfl) rfl ?_
  refine st_v (ov_assign rfl) rfl ?_
  refine st_nil ?_
  refine pn_then ?_
  refine sc_ret ?_
  refine pr_one rfl rfl ?_
  exact ⟨rfl, hp.chg⟩

end Go.Proofs.YtjdolgfhcjnniaaDoor
