/-
  The walks of both Plans.
-/
import Derived.Test.YtcjnpaikmcjjlaaPrfA
import Derived.Test.YtcjnpaikmcjjlaaQryP
namespace Go.Proofs.Ytcjnpaikmcjjlaa
open Go Go.RowKit

set_option maxRecDepth 100000 in
theorem planr_walk (n low : Int) (hn : I64 n) (hlow : I64 low) (root : List UInt8) (hr : root.length = 32) (w0 : World) :
    Calls Try.prog 5 #[.int .i64 n, .int .i64 low, .agg (root.map B8).toArray] w0 fun e w' => ∃ g : Gs, e = .returned (.tuple #[.slice (adr g.ob) (planOf n low root hr).length g.cap, .int .i64 (treeE n low)]) ∧ Mk w0 w' 31 36 ((planOf n low root hr).flatMap qcs) g := by
  refine calls_in Try.func5 Try.ntmps5 rfl rfl ?_
  have hp := Hp.start w0
  refine sc_seq ?_
  refine sc_region ?_
  refine st_box 5 hp rfl rfl rfl (fun b5 w hp => ?_)
  refine st_v (ov_assign rfl) rfl ?_
  refine st_v (ov_assign rfl) rfl ?_
  refine st_nil ?_
  refine pn_then ?_
  refine sc_seq ?_
  refine sc_region ?_
  refine st_v (ov_move rfl) rfl ?_
  refine st_v (ov_move rfl) rfl ?_
  refine st_call pl10 rfl rfl rfl (tree_walk n low hn hlow _) ?_
  rintro _ w ⟨rfl, hch⟩
  refine ⟨_, rfl, ?_⟩
  replace hp := hp.call hch
  clear hch
  refine st_v (ov_assign rfl) rfl ?_
  refine st_nil ?_
  refine pn_then ?_
  refine sc_seq ?_
  refine sc_seq ?_
  refine sc_region ?_
  refine st_v (ov_move rfl) rfl ?_
  refine st_v (ov_neq rfl rfl) rfl ?_
  refine st_nil ?_
  refine pn_then ?_
  refine sc_cond rfl (fun hc => ?_) (fun hc => ?_)
  ·
    have hc := of_decide_eq_true hc
    refine sc_seq ?_
    refine sc_region ?_
    refine st_v (ov_move rfl) rfl ?_
    refine st_v (ov_assign rfl) rfl ?_
    refine st_v (ov_assign rfl) rfl ?_
    refine st_nil ?_
    refine pn_then ?_
    refine sc_ret ?_
    refine pr_then ?_
    refine pr_two rfl rfl rfl ?_
    have e : planOf n low root hr = [] := if_pos (by first | exact .inl (by omega) | exact .inr (by omega))
    exact ⟨gnil, by rw [e]; rfl, by rw [e]; exact hp.gives0 _ _⟩
  ·
    have hc := of_decide_eq_false hc
    have hok : treeE n low = 0 := by omega
    refine sc_skip ?_
    refine pn_then ?_
    refine sc_seq ?_
    refine sc_seq ?_
    refine sc_region ?_
    refine st_v (ov_move rfl) rfl ?_
    refine st_v (ov_eql rfl rfl) rfl ?_
    refine st_nil ?_
    refine pn_then ?_
    refine sc_cond rfl (fun hc => ?_) (fun hc => ?_)
    ·
      have hc := of_decide_eq_true hc
      refine sc_seq ?_
      refine sc_region ?_
      refine st_v (ov_assign rfl) rfl ?_
      refine st_v (ov_assign rfl) rfl ?_
      refine st_nil ?_
      refine pn_then ?_
      refine sc_ret ?_
      refine pr_then ?_
      refine pr_two rfl rfl rfl ?_
      have e : planOf n low root hr = [] := if_pos (.inr hc)
      exact ⟨gnil, by rw [e, hok]; rfl, by rw [e]; exact hp.gives0 _ _⟩
    ·
      have hc := of_decide_eq_false hc
      obtain ⟨m, l, rfl, rfl, hm1, hm2, hml, hb20⟩ := treeE_zero hok
      have hm3 : m ≠ 1 := by omega
      have hb1 := len_pos (m := m) (by omega)
      have hsp := stepL_pos m
      refine sc_skip ?_
      refine pn_then ?_
      refine sc_seq ?_
      refine sc_region ?_
      refine st_v (ov_move rfl) rfl ?_
      refine st_call pl11 rfl rfl rfl (rise7_walk m (by omega) _) ?_
      rintro _ w ⟨rfl, hch⟩
      refine ⟨_, rfl, ?_⟩
      replace hp := hp.call hch
      clear hch
      refine st_v (ov_assign rfl) rfl ?_
      refine st_nil ?_
      refine pn_then ?_
      refine sc_seq ?_
      refine sc_region ?_
      refine st_v (ov_assign rfl) rfl ?_
      refine st_nil ?_
      refine pn_then ?_
      refine sc_seq ?_
      refine sc_seq ?_
      refine sc_region ?_
      refine st_v (ov_move rfl) rfl ?_
      refine st_call pl12 rfl rfl rfl (power_walk (bitLen (m - 1)) (by omega) _) ?_
      rintro _ w ⟨rfl, hch⟩
      refine ⟨_, rfl, ?_⟩
      replace hp := hp.call hch
      clear hch
      obtain ⟨P, hP⟩ : ∃ P, P = 2 ^ (bitLen (m - 1)) := ⟨_, rfl⟩
      rw [← hP]
      refine st_v (ov_lss rfl rfl) rfl ?_
      refine st_nil ?_
      refine pn_then ?_
      refine sc_cutH1 (α := Nat) (kv := [(0, _), (1, _), (5, _), (9, _)]) (kl := [(5, _)]) (fun L kv => (10, .int .i64 ((L : Nat) : Int)) :: kv) (fun L kl => kl) (fun L => (L = stepL m)) hp (Sub.cons rfl (Sub.cons rfl (Sub.cons rfl (Sub.cons rfl (Sub.nil _))))) (LSub.cons rfl (LSub.nil _)) ?_ ?_
      ·
        refine sc_cond rfl (fun hc => ?_) (fun hc => ?_)
        ·
          have hc := of_decide_eq_true hc
          refine sc_region ?_
          refine st_v (ov_move rfl) rfl ?_
          refine st_call pl12 rfl rfl rfl (power_walk (bitLen (m - 1)) (by omega) _) ?_
          rintro _ w ⟨rfl, hch⟩
          refine ⟨_, rfl, ?_⟩
          replace hp := hp.call hch
          clear hch
          rw [← hP]
          refine st_v (ov_assign rfl) rfl ?_
          refine st_nil ?_
          refine pn_cutH1 P hp (Sub.cons rfl (Sub.cons rfl (Sub.cons rfl (Sub.cons rfl (Sub.cons rfl (Sub.nil _)))))) (LSub.cons rfl (LSub.nil _)) ?_
          exact (by unfold stepL; rw [← hP]; omega)
        ·
          have hc := of_decide_eq_false hc
          refine sc_skip ?_
          refine pn_cutH1 8 hp (Sub.cons rfl (Sub.cons rfl (Sub.cons rfl (Sub.cons rfl (Sub.cons rfl (Sub.nil _)))))) (LSub.cons rfl (LSub.nil _)) ?_
          exact (by unfold stepL; rw [← hP]; omega)
      ·
        intro L w hp hx
        have hL : L = stepL m := hx
        refine pn_then ?_
        refine sc_seq ?_
        subst hL
        refine sc_region ?_
        refine st_v (ov_assign rfl) rfl ?_
        replace hp := hp.nil 11 31
        refine st_nil ?_
        refine pn_then ?_
        refine sc_seq ?_
        refine sc_seq ?_
        refine sc_region ?_
        refine st_v (ov_assign rfl) rfl ?_
        refine st_nil ?_
        refine pn_then ?_
        refine sc_block ?_
        refine sc_loopH3 (α := Nat) (β := Nat) (γ := Gs) (kv := [(0, _), (1, _), (5, _), (9, _), (10, _)]) (kl := [(5, _)]) (fun k a g kv => (12, .int .i64 ((a : Nat) : Int)) :: (11, .slice (adr g.ob) (k) g.cap) :: kv) (fun k a g kl => (11, ⟨g.ob, (planL root hr l (stepL m) (bitLen (m - 1) - 1) k).flatMap qcs ++ g.sp, 31⟩) :: kl) (fun k a g => (k ≤ cntL m) ∧ (a = k * stepL m) ∧ (((planL root hr l (stepL m) (bitLen (m - 1) - 1) k).flatMap qcs ++ g.sp).length = g.cap * 36)) (fun k a g => cntL m - k) 0 0 gnil hp (Sub.cons rfl (Sub.cons rfl (Sub.cons rfl (Sub.cons rfl (Sub.cons rfl (Sub.cons rfl (Sub.cons rfl (Sub.nil _)))))))) (LSub.cons rfl (LSub.cons rfl (LSub.nil _))) ?_ ?_
        · exact ⟨(by first | omega | (simp; done) | (simp; omega) | (simp [*]; omega)), (Nat.zero_mul _).symm, rfl⟩
        intro k a g w hp hx
        obtain ⟨hk, ha, hcap⟩ := hx
        refine sc_seq ?_
        refine sc_seq ?_
        refine sc_region ?_
        refine st_v (ov_move rfl) rfl ?_
        refine st_v (ov_move rfl) rfl ?_
        refine st_v (ov_lss rfl rfl) rfl ?_
        refine st_nil ?_
        refine pn_then ?_
        refine sc_cond rfl (fun hc => ?_) (fun hc => ?_)
        ·
          have hc := of_decide_eq_true hc
          refine sc_skip ?_
          refine pn_then ?_
          refine sc_seq ?_
          refine sc_block ?_
          refine sc_region ?_
          refine st_v (ov_move rfl) rfl ?_
          refine st_v (ov_loadN rfl Try.underlying23 rfl (sz23.trans (by simp [hr])) (hp.cells' (t := 5) rfl)) rfl ?_
          refine st_v (ov_move rfl) rfl ?_
          refine st_v (ov_move rfl) rfl ?_
          refine st_v (ov_move rfl) rfl ?_
          refine st_v (ov_move rfl) rfl ?_
          refine st_v (ov_sub_n (a := bitLen (m - 1)) (b := 1) rfl rfl (by omega)) rfl ?_
          refine st_v (ov_buildS (pl := #[(0, 32), (32, 1), (33, 1), (34, 1), (35, 1)]) (cells := qcs (plQ root hr l (stepL m) (bitLen (m - 1) - 1) k)) rfl Try.underlying31 zl31 (by intro w; kernel_rfl) (by rw [ha]; exact fill_query (by rfl) root hr _ _ _ _)) rfl ?_
          refine st_app1 11 42 g (xs := (planL root hr l (stepL m) (bitLen (m - 1) - 1) k).flatMap qcs) (new := qcs (plQ root hr l (stepL m) (bitLen (m - 1) - 1) k)) hp rfl rfl rfl rfl rfl (by simp) rfl rfl Try.underlying24 in31 (by decide) rfl ((flat_len qcs_len _).trans (by rw [planL_len])) hcap rfl (qcs_len _) (qcs_one _) (by have := cnt_le (m := m); omega) (fun g2 b42 w hp hcap2 hf11 => ?_)
          rw [show (planL root hr l (stepL m) (bitLen (m - 1) - 1) k).flatMap qcs ++ qcs (plQ root hr l (stepL m) (bitLen (m - 1) - 1) k) = (planL root hr l (stepL m) (bitLen (m - 1) - 1) (k + 1)).flatMap qcs by rw [planL_succ]; simp] at hp hcap2
          refine st_v (ov_assign rfl) rfl ?_
          refine st_nil ?_
          refine pn_block ?_
          refine pn_then ?_
          refine sc_region ?_
          refine st_v (ov_move rfl) rfl ?_
          refine st_v (ov_move rfl) rfl ?_
          refine st_v (ov_add_n (a := a) (b := stepL m) rfl rfl (by omega)) rfl ?_
          refine st_v (ov_assign rfl) rfl ?_
          refine st_nil ?_
          refine pn_roundH3 (k + 1) (a + stepL m) g2 hp (Sub.cons rfl (Sub.cons rfl (Sub.cons rfl (Sub.cons rfl (Sub.cons rfl (Sub.cons rfl (Sub.cons rfl (Sub.nil _)))))))) ?_ (LSub.cons rfl (LSub.cons rfl (LSub.nil _))) ?_
          · have := cnt_step (m := m) (k := k) (by omega); omega
          exact ⟨(cnt_step (by omega)), (by rw [Nat.succ_mul]; omega), hcap2⟩
        ·
          have hc := of_decide_eq_false hc
          refine sc_exit ?_
          refine pe_then ?_
          refine pe_then ?_
          refine pe_hit ?_
          refine pn_then ?_
          refine sc_seq ?_
          refine sc_region ?_
          refine st_v (ov_move rfl) rfl ?_
          refine st_v (ov_assign rfl) rfl ?_
          refine st_v (ov_assign rfl) rfl ?_
          refine st_nil ?_
          refine pn_then ?_
          refine sc_ret ?_
          refine pr_two rfl rfl rfl ?_
          obtain rfl : k = cntL m := by have := cnt_end (m := m) (k := k) (by omega); omega
          exact ⟨g, by rw [hok, planOf_ok hok hm3, planL_len], by rw [planOf_ok hok hm3]; exact hp.gives 11 rfl hcap⟩

set_option maxRecDepth 100000 in
theorem plan_walk (n low : Int) (hn : I64 n) (hlow : I64 low) (root : List UInt8) (hr : root.length = 32) (w0 : World) :
    Calls Try.prog 6 #[.int .i64 n, .int .i64 low, .agg (root.map B8).toArray] w0 fun e w' => ∃ g : Gs, e = .returned (.tuple #[.slice (adr g.ob) (planOf n low root hr).length g.cap, .int .i64 (treeE n low)]) ∧ Mk w0 w' 31 36 ((planOf n low root hr).flatMap qcs) g := by
  refine calls_in Try.func6 Try.ntmps6 rfl rfl ?_
  have hp := Hp.start w0
  refine sc_seq ?_
  refine sc_region ?_
  refine st_box 5 hp rfl rfl rfl (fun b5 w hp => ?_)
  refine st_v (ov_assign rfl) rfl ?_
  refine st_v (ov_assign rfl) rfl ?_
  refine st_nil ?_
  refine pn_then ?_
  refine sc_seq ?_
  refine sc_region ?_
  refine st_v (ov_move rfl) rfl ?_
  refine st_v (ov_move rfl) rfl ?_
  refine st_call pl13 rfl rfl rfl (height7_walk n low hn hlow _) ?_
  rintro _ w ⟨rfl, hch⟩
  refine ⟨_, rfl, ?_⟩
  replace hp := hp.call hch
  clear hch
  refine st_v (ov_move rfl) rfl ?_
  refine st_v (ov_extract rfl rfl) rfl ?_
  refine st_v (ov_extract rfl rfl) rfl ?_
  refine st_v (ov_assign rfl) rfl ?_
  refine st_v (ov_assign rfl) rfl ?_
  refine st_nil ?_
  refine pn_then ?_
  refine sc_seq ?_
  refine sc_seq ?_
  refine sc_region ?_
  refine st_v (ov_move rfl) rfl ?_
  refine st_v (ov_neq rfl rfl) rfl ?_
  refine st_v (ov_move rfl) rfl ?_
  refine st_split (j := 21) rfl (fun hb => ?_) (fun hb => ?_)
  ·
    have hb := of_decide_eq_true hb
    refine st_off (j := 2) rfl rfl rfl rfl ?_
    refine st_off (j := 2) rfl rfl rfl rfl ?_
    refine st_v (ov_pick_t rfl rfl) rfl ?_
    refine st_nil ?_
    refine pn_then ?_
    refine sc_true rfl ?_
    refine sc_seq ?_
    refine sc_region ?_
    refine st_v (ov_move rfl) rfl ?_
    refine st_v (ov_assign rfl) rfl ?_
    refine st_v (ov_assign rfl) rfl ?_
    refine st_nil ?_
    refine pn_then ?_
    refine sc_ret ?_
    refine pr_then ?_
    refine pr_two rfl rfl rfl ?_
    have e : planOf n low root hr = [] := if_pos (by first | exact .inl (by omega) | exact .inr (by omega))
    exact ⟨gnil, by rw [e]; rfl, by rw [e]; exact hp.gives0 _ _⟩
  ·
    have hb := of_decide_eq_false hb
    have hok : treeE n low = 0 := by omega
    refine st_on (j := 2) rfl rfl ?_
    refine st_v (ov_move rfl) rfl ?_
    refine st_on (j := 2) rfl rfl ?_
    refine st_v (ov_eql rfl rfl) rfl ?_
    refine st_v (ov_pick_f rfl rfl) rfl ?_
    refine st_nil ?_
    refine pn_then ?_
    refine sc_cond rfl (fun hc => ?_) (fun hc => ?_)
    ·
      have hc := of_decide_eq_true hc
      refine sc_seq ?_
      refine sc_region ?_
      refine st_v (ov_move rfl) rfl ?_
      refine st_v (ov_assign rfl) rfl ?_
      refine st_v (ov_assign rfl) rfl ?_
      refine st_nil ?_
      refine pn_then ?_
      refine sc_ret ?_
      refine pr_then ?_
      refine pr_two rfl rfl rfl ?_
      have e : planOf n low root hr = [] := if_pos (by first | exact .inl (by omega) | exact .inr (by omega))
      exact ⟨gnil, by rw [e]; rfl, by rw [e]; exact hp.gives0 _ _⟩
    ·
      have hc := of_decide_eq_false hc
      obtain ⟨m, l, rfl, rfl, hm1, hm2, hml, hb20⟩ := treeE_zero hok
      have hm3 : m ≠ 1 := by omega
      have hb1 := len_pos (m := m) (by omega)
      have hsp := stepL_pos m
      have htop : topH m l = ((l + bitLen (m - 1) : Nat) : Int) := by unfold topH; rw [hok, if_pos rfl]; simp
      rw [htop]
      refine sc_skip ?_
      refine pn_then ?_
      refine sc_seq ?_
      refine sc_region ?_
      refine st_v (ov_move rfl) rfl ?_
      refine st_v (ov_move rfl) rfl ?_
      refine st_v (v := .int .i64 ((bitLen (m - 1) : Nat) : Int)) ((ov_sub_n (a := l + bitLen (m - 1)) (b := l) rfl rfl (by omega)).is (by congr 1; omega)) rfl ?_
      refine st_v (ov_shl_n (a := 1) (b := bitLen (m - 1)) rfl rfl ⟨by omega, by rw [Nat.one_shiftLeft]; have := Nat.pow_le_pow_right (show 0 < 2 by omega) (show bitLen (m - 1) ≤ 20 by omega); omega⟩) rfl ?_
      rw [Nat.one_shiftLeft]
      obtain ⟨P, hP⟩ : ∃ P, P = 2 ^ (bitLen (m - 1)) := ⟨_, rfl⟩
      rw [← hP]
      refine st_v (ov_minN (m := stepL m) rfl rfl (by unfold stepL; rw [← hP]; omega)) rfl ?_
      refine st_v (ov_assign rfl) rfl ?_
      refine st_nil ?_
      refine pn_then ?_
      refine sc_seq ?_
      refine sc_region ?_
      refine st_v (ov_assign rfl) rfl ?_
      replace hp := hp.nil 11 31
      refine st_nil ?_
      refine pn_then ?_
      refine sc_seq ?_
      refine sc_seq ?_
      refine sc_region ?_
      refine st_v (ov_assign rfl) rfl ?_
      refine st_nil ?_
      refine pn_then ?_
      refine sc_block ?_
      refine sc_loopH3 (α := Nat) (β := Nat) (γ := Gs) (kv := [(0, _), (1, _), (5, _), (8, _), (10, _)]) (kl := [(5, _)]) (fun k a g kv => (12, .int .i64 ((a : Nat) : Int)) :: (11, .slice (adr g.ob) (k) g.cap) :: kv) (fun k a g kl => (11, ⟨g.ob, (planL root hr l (stepL m) (bitLen (m - 1) - 1) k).flatMap qcs ++ g.sp, 31⟩) :: kl) (fun k a g => (k ≤ cntL m) ∧ (a = k * stepL m) ∧ (((planL root hr l (stepL m) (bitLen (m - 1) - 1) k).flatMap qcs ++ g.sp).length = g.cap * 36)) (fun k a g => cntL m - k) 0 0 gnil hp (Sub.cons rfl (Sub.cons rfl (Sub.cons rfl (Sub.cons rfl (Sub.cons rfl (Sub.cons rfl (Sub.cons rfl (Sub.nil _)))))))) (LSub.cons rfl (LSub.cons rfl (LSub.nil _))) ?_ ?_
      · exact ⟨(by first | omega | (simp; done) | (simp; omega) | (simp [*]; omega)), (Nat.zero_mul _).symm, rfl⟩
      intro k a g w hp hx
      obtain ⟨hk, ha, hcap⟩ := hx
      refine sc_seq ?_
      refine sc_seq ?_
      refine sc_region ?_
      refine st_v (ov_move rfl) rfl ?_
      refine st_v (ov_move rfl) rfl ?_
      refine st_v (ov_lss rfl rfl) rfl ?_
      refine st_nil ?_
      refine pn_then ?_
      refine sc_cond rfl (fun hc => ?_) (fun hc => ?_)
      ·
        have hc := of_decide_eq_true hc
        refine sc_skip ?_
        refine pn_then ?_
        refine sc_seq ?_
        refine sc_block ?_
        refine sc_region ?_
        refine st_v (ov_move rfl) rfl ?_
        refine st_v (ov_loadN rfl Try.underlying23 rfl (sz23.trans (by simp [hr])) (hp.cells' (t := 5) rfl)) rfl ?_
        refine st_v (ov_move rfl) rfl ?_
        refine st_v (ov_move rfl) rfl ?_
        refine st_v (ov_move rfl) rfl ?_
        refine st_v (ov_move rfl) rfl ?_
        refine st_v (ov_sub_n (a := l + bitLen (m - 1)) (b := 1) rfl rfl (by omega)) rfl ?_
        refine st_v (ov_move rfl) rfl ?_
        refine st_v (v := .int .i64 ((bitLen (m - 1) - 1 : Nat) : Int)) ((ov_sub_n (a := (l + bitLen (m - 1)) - 1) (b := l) rfl rfl (by omega)).is (by congr 1; omega)) rfl ?_
        refine st_v (ov_buildS (pl := #[(0, 32), (32, 1), (33, 1), (34, 1), (35, 1)]) (cells := qcs (plQ root hr l (stepL m) (bitLen (m - 1) - 1) k)) rfl Try.underlying31 zl31 (by intro w; kernel_rfl) (by rw [ha]; exact fill_query (by rfl) root hr _ _ _ _)) rfl ?_
        refine st_app1 11 47 g (xs := (planL root hr l (stepL m) (bitLen (m - 1) - 1) k).flatMap qcs) (new := qcs (plQ root hr l (stepL m) (bitLen (m - 1) - 1) k)) hp rfl rfl rfl rfl rfl (by simp) rfl rfl Try.underlying24 in31 (by decide) rfl ((flat_len qcs_len _).trans (by rw [planL_len])) hcap rfl (qcs_len _) (qcs_one _) (by have := cnt_le (m := m); omega) (fun g2 b47 w hp hcap2 hf11 => ?_)
        rw [show (planL root hr l (stepL m) (bitLen (m - 1) - 1) k).flatMap qcs ++ qcs (plQ root hr l (stepL m) (bitLen (m - 1) - 1) k) = (planL root hr l (stepL m) (bitLen (m - 1) - 1) (k + 1)).flatMap qcs by rw [planL_succ]; simp] at hp hcap2
        refine st_v (ov_assign rfl) rfl ?_
        refine st_nil ?_
        refine pn_block ?_
        refine pn_then ?_
        refine sc_region ?_
        refine st_v (ov_move rfl) rfl ?_
        refine st_v (ov_move rfl) rfl ?_
        refine st_v (ov_add_n (a := a) (b := stepL m) rfl rfl (by omega)) rfl ?_
        refine st_v (ov_assign rfl) rfl ?_
        refine st_nil ?_
        refine pn_roundH3 (k + 1) (a + stepL m) g2 hp (Sub.cons rfl (Sub.cons rfl (Sub.cons rfl (Sub.cons rfl (Sub.cons rfl (Sub.cons rfl (Sub.cons rfl (Sub.nil _)))))))) ?_ (LSub.cons rfl (LSub.cons rfl (LSub.nil _))) ?_
        · have := cnt_step (m := m) (k := k) (by omega); omega
        exact ⟨(cnt_step (by omega)), (by rw [Nat.succ_mul]; omega), hcap2⟩
      ·
        have hc := of_decide_eq_false hc
        refine sc_exit ?_
        refine pe_then ?_
        refine pe_then ?_
        refine pe_hit ?_
        refine pn_then ?_
        refine sc_seq ?_
        refine sc_region ?_
        refine st_v (ov_move rfl) rfl ?_
        refine st_v (ov_assign rfl) rfl ?_
        refine st_v (ov_assign rfl) rfl ?_
        refine st_nil ?_
        refine pn_then ?_
        refine sc_ret ?_
        refine pr_two rfl rfl rfl ?_
        obtain rfl : k = cntL m := by have := cnt_end (m := m) (k := k) (by omega); omega
        exact ⟨g, by rw [hok, planOf_ok hok hm3, planL_len], by rw [planOf_ok hok hm3]; exact hp.gives 11 rfl hcap⟩

set_option maxRecDepth 100000 in
theorem sameq_walk (l : List Qr) {nl nm : Nat} (ao bo : Option Addr) (ca cb : Nat) (w0 : World) (h1 : Rd w0 ao (l.flatMap qcs)) (h2 : Rd w0 bo (l.flatMap qcs)) (hl : l.length = nl) (hm : l.length = nm) (hz : l.length ≤ 281474976710656) :
    Calls Try.prog 7 #[.slice ao nl ca, .slice bo nm cb] w0 fun e w' => e = .returned (.bool true) ∧ Chg [] w0 w' := by
  refine calls_in Try.func7 Try.ntmps7 rfl rfl ?_
  have hp := Hp.start w0
  subst hl
  have hm' := hm
  subst hm'
  refine sc_seq ?_
  refine sc_region ?_
  refine st_v (ov_assign rfl) rfl ?_
  refine st_nil ?_
  refine pn_then ?_
  refine sc_seq ?_
  refine sc_seq ?_
  refine sc_region ?_
  refine st_v (ov_move rfl) rfl ?_
  refine st_v (ov_len rfl Try.underlying24 rfl) rfl ?_
  refine st_v (ov_move rfl) rfl ?_
  refine st_v (ov_len rfl Try.underlying24 rfl) rfl ?_
  refine st_v (v := .bool false) ((ov_neq rfl rfl).is ((by simp))) rfl ?_
  refine st_nil ?_
  refine pn_then ?_
  refine sc_false rfl ?_
  refine sc_skip ?_
  refine pn_then ?_
  refine sc_seq ?_
  refine sc_seq ?_
  refine sc_region ?_
  refine st_v (ov_assign rfl) rfl ?_
  refine st_nil ?_
  refine pn_then ?_
  refine sc_block ?_
  refine sc_loopH1 (α := Nat) (kv := [(0, _), (1, _)]) (kl := []) (fun i kv => (5, .int .i64 ((i : Nat) : Int)) :: kv) (fun i kl => kl) (fun i => (i ≤ l.length)) (fun i => l.length - i) 0 hp (Sub.cons rfl (Sub.cons rfl (Sub.cons rfl (Sub.nil _)))) (LSub.nil _) ?_ ?_
  · exact (by first | omega | (simp; done) | (simp; omega) | (simp [*]; omega))
  intro i w hp hx
  have hi : i ≤ l.length := hx
  refine sc_seq ?_
  refine sc_seq ?_
  refine sc_region ?_
  refine st_v (ov_move rfl) rfl ?_
  refine st_v (ov_move rfl) rfl ?_
  refine st_v (ov_len rfl Try.underlying24 rfl) rfl ?_
  refine st_v (ov_lss rfl rfl) rfl ?_
  refine st_nil ?_
  refine pn_then ?_
  refine sc_cond rfl (fun hc => ?_) (fun hc => ?_)
  ·
    have hc := of_decide_eq_true hc
    refine sc_skip ?_
    refine pn_then ?_
    refine sc_seq ?_
    refine sc_block ?_
    refine sc_seq ?_
    refine sc_draws (by kernel_rfl) (by kernel_rfl) ?_
    replace hp := hp.drew
    refine ss_v (ov_move rfl) rfl ?_
    refine ss_v (ov_move rfl) rfl ?_
    obtain ⟨bb1, oo1, hadr1, hcl1⟩ := (h1.chg hp.chg).pos (by rw [flat_len qcs_len]; omega)
    refine ss_v (ov_indexR hadr1 rfl rfl Try.underlying24 sz31 (by omega)) rfl ?_
    refine ss_v (ov_loadN rfl Try.underlying31 rfl (sz31.trans (congrArg some (qcs_len _).symm)) (hcl1.elemN qcs_len (i) ⟨by rfl, by omega⟩ qz0)) rfl ?_
    refine ss_v (ov_move rfl) rfl ?_
    refine ss_v (ov_move rfl) rfl ?_
    obtain ⟨bb2, oo2, hadr2, hcl2⟩ := (h2.chg hp.chg).pos (by rw [flat_len qcs_len]; omega)
    refine ss_v (ov_indexR hadr2 rfl rfl Try.underlying24 sz31 (by omega)) rfl ?_
    refine ss_v (ov_loadN rfl Try.underlying31 rfl (sz31.trans (congrArg some (qcs_len _).symm)) (hcl2.elemN qcs_len (i) ⟨by rfl, by omega⟩ qz0)) rfl ?_
    refine ss_v (v := .bool false) ((ov_neqF Try.underlying31 rfl fl31 (sz31.trans (congrArg some (qcs_len _).symm)) gd31 rfl rfl (qcs_like _)).is ((by simp [eqv_self]))) rfl ?_
    refine ss_end ?_
    refine pn_then ?_
    refine sc_false rfl ?_
    refine sc_skip ?_
    refine pn_block ?_
    refine pn_then ?_
    refine sc_region ?_
    refine st_v (ov_move rfl) rfl ?_
    refine st_v (ov_add_n (a := i) (b := 1) rfl rfl (by omega)) rfl ?_
    refine st_v (ov_assign rfl) rfl ?_
    refine st_nil ?_
    refine pn_roundH1 (i + 1) hp (Sub.cons rfl (Sub.cons rfl (Sub.cons rfl (Sub.nil _)))) ?_ (LSub.nil _) ?_
    · omega
    exact (by first | omega | (simp; done) | (simp; omega) | (simp [*]; omega))
  ·
    have hc := of_decide_eq_false hc
    refine sc_exit ?_
    refine pe_then ?_
    refine pe_then ?_
    refine pe_hit ?_
    refine pn_then ?_
    refine sc_seq ?_
    refine sc_region ?_
    refine st_v (ov_assign rfl) rfl ?_
    refine st_nil ?_
    refine pn_then ?_
    refine sc_ret ?_
    refine pr_one rfl rfl ?_
    exact ⟨rfl, hp.chg⟩

set_option maxRecDepth 100000 in
theorem law_plans (n low : Int) (hn : I64 n) (hlow : I64 low) (root : List UInt8) (hr : root.length = 32) (w0 : World) :
    Calls Try.prog 3 #[.int .i64 n, .int .i64 low, .agg (root.map B8).toArray] w0 fun e w' => e = .returned (.bool true) ∧ Chg [] w0 w' := by
  refine calls_in Try.func3 Try.ntmps3 rfl rfl ?_
  have hp := Hp.start w0
  refine sc_seq ?_
  refine sc_region ?_
  refine st_box 5 hp rfl rfl rfl (fun b5 w hp => ?_)
  refine st_v (ov_assign rfl) rfl ?_
  refine st_nil ?_
  refine pn_then ?_
  refine sc_seq ?_
  refine sc_region ?_
  refine st_v (ov_move rfl) rfl ?_
  refine st_v (ov_move rfl) rfl ?_
  refine st_v (ov_loadN rfl Try.underlying23 rfl (sz23.trans (by simp [hr])) (hp.cells' (t := 5) rfl)) rfl ?_
  refine st_call pl5 rfl rfl rfl (planr_walk n low hn hlow root hr _) ?_
  rintro _ w ⟨g7, rfl, hm7⟩
  refine ⟨_, rfl, ?_⟩
  replace hp := hp.got 7 hm7
  clear hm7
  refine st_v (ov_move rfl) rfl ?_
  refine st_v (ov_extract rfl rfl) rfl ?_
  refine st_v (ov_extract rfl rfl) rfl ?_
  refine st_v (ov_assign rfl) rfl ?_
  refine st_v (ov_assign rfl) rfl ?_
  refine st_nil ?_
  refine pn_then ?_
  refine sc_seq ?_
  refine sc_region ?_
  refine st_v (ov_move rfl) rfl ?_
  refine st_v (ov_move rfl) rfl ?_
  refine st_v (ov_loadN rfl Try.underlying23 rfl (sz23.trans (by simp [hr])) (hp.cells' (t := 5) rfl)) rfl ?_
  refine st_call pl6 rfl rfl rfl (plan_walk n low hn hlow root hr _) ?_
  rintro _ w ⟨g9, rfl, hm9⟩
  refine ⟨_, rfl, ?_⟩
  replace hp := hp.got 9 hm9
  clear hm9
  refine st_v (ov_move rfl) rfl ?_
  refine st_v (ov_extract rfl rfl) rfl ?_
  refine st_v (ov_extract rfl rfl) rfl ?_
  refine st_v (ov_assign rfl) rfl ?_
  refine st_v (ov_assign rfl) rfl ?_
  refine st_nil ?_
  refine pn_then ?_
  refine sc_seq ?_
  refine sc_region ?_
  refine st_v (ov_move rfl) rfl ?_
  refine st_v (ov_move rfl) rfl ?_
  refine st_v (v := .bool true) ((ov_eql rfl rfl).is ((by simp))) rfl ?_
  refine st_v (ov_move rfl) rfl ?_
  refine st_on (j := 3) rfl rfl ?_
  refine st_v (ov_move rfl) rfl ?_
  refine st_on (j := 3) rfl rfl ?_
  refine st_v (ov_move rfl) rfl ?_
  refine st_on (j := 3) rfl rfl ?_
  refine st_call pl7 rfl rfl rfl (sameq_walk (planOf n low root hr) _ _ _ _ _ (Rd.own (hp.own 9 _ rfl)) (Rd.own (hp.own 7 _ rfl)) rfl rfl planOf_le) ?_
  rintro _ w ⟨rfl, hch⟩
  refine ⟨_, rfl, ?_⟩
  replace hp := hp.call hch
  clear hch
  refine st_v (ov_pick_t rfl rfl) rfl ?_
  refine st_v (ov_assign rfl) rfl ?_
  refine st_nil ?_
  refine pn_then ?_
  refine sc_ret ?_
  refine pr_one rfl rfl ?_
  exact ⟨rfl, hp.chg⟩

end Go.Proofs.Ytcjnpaikmcjjlaa
