/-
  The walks of both Greets.
-/
import Derived.Test.YthebbenfmoknbaaFacts
import Derived.Test.YthebbenfmoknbaaFrmP
import Derived.Test.YthebbenfmoknbaaListA
namespace Go.Proofs.Ythebbenfmoknbaa
open Go Go.RowKit

set_option maxRecDepth 100000 in
theorem sign_walk (i : Nat) (hi : i < 20) (w0 : World) :
    Calls Try.prog 37 #[.int .i64 (i : Int)] w0 fun e w' => e = .returned (B8 (signL.getD i 0)) ∧ w' = w0 := by
  refine calls_in Try.func37 Try.ntmps37 rfl rfl ?_
  have hi2 : True := trivial
  refine sc_seq ?_
  refine sc_region ?_
  refine st_v (ov_assign rfl) rfl ?_
  refine st_nil ?_
  refine pn_then ?_
  refine sc_seq ?_
  refine sc_seq ?_
  refine sc_region ?_
  refine st_v (ov_move rfl) rfl ?_
  refine st_v (ov_eql rfl rfl) rfl ?_
  refine st_nil ?_
  refine pn_then ?_
  refine sc_cond rfl (fun hc => ?_) (fun hc => ?_)
  ·
    have hc := of_decide_eq_true hc
    obtain rfl : i = 0 := by omega
    refine sc_seq ?_
    refine sc_region ?_
    refine st_v (ov_assign rfl) rfl ?_
    refine st_nil ?_
    refine pn_then ?_
    refine sc_ret ?_
    refine pr_then ?_
    refine pr_one rfl rfl ?_
    exact ⟨rfl, rfl⟩
  ·
    have hc := of_decide_eq_false hc
    refine sc_skip ?_
    refine pn_then ?_
    refine sc_seq ?_
    refine sc_region ?_
    refine st_v (ov_move rfl) rfl ?_
    refine st_v (ov_sub_n (a := i) (b := 1) rfl rfl (by omega)) rfl ?_
    refine st_v (ov_indexStrN (s := [66, 105, 116, 84, 111, 114, 114, 101, 110, 116, 32, 112, 114, 111, 116, 111, 99, 111, 108]) (i := i - 1) rfl rfl Try.underlying9 (by first | omega | (simp; omega) | (simp [*]; omega))) rfl ?_
    refine st_v (ov_assign rfl) rfl ?_
    refine st_nil ?_
    refine pn_then ?_
    refine sc_ret ?_
    refine pr_one rfl rfl ?_
    obtain ⟨m, rfl⟩ : ∃ m, i = m + 1 := ⟨i - 1, by omega⟩
    exact ⟨by rw [show m + 1 - 1 = m from rfl, sign_tail m (by omega)], rfl⟩

set_option maxRecDepth 100000 in
theorem greetr_walk (h : Hl) (w0 : World) :
    Calls Try.prog 12 #[.agg (h.1.map B8).toArray] w0 fun e w' => ∃ g : Gs, e = .returned (.slice (adr g.ob) 68 g.cap) ∧ Mk w0 w' 5 1 ((greetL h).map B8) g := by
  refine calls_in Try.func12 Try.ntmps12 rfl rfl ?_
  have hp := Hp.start w0
  have hgl := greet_len h
  refine sc_seq ?_
  refine sc_region ?_
  refine st_box 1 hp rfl rfl rfl (fun b1 w hp => ?_)
  refine st_v (ov_assign rfl) rfl ?_
  refine st_nil ?_
  refine pn_then ?_
  refine sc_seq ?_
  refine sc_region ?_
  refine st_v (ov_assign rfl) rfl ?_
  replace hp := hp.nil 3 5
  refine st_nil ?_
  refine pn_then ?_
  refine sc_seq ?_
  refine sc_seq ?_
  refine sc_region ?_
  refine st_v (ov_assign rfl) rfl ?_
  refine st_nil ?_
  refine pn_then ?_
  refine sc_block ?_
  refine sc_loopH2 (α := Nat) (β := Gs) (kv := [(1, _)]) (kl := [(1, _)]) (fun i g kv => (4, .int .i64 ((i : Nat) : Int)) :: (3, .slice (adr g.ob) (i) g.cap) :: kv) (fun i g kl => (3, ⟨g.ob, ((greetL h).take i).map B8 ++ g.sp, 5⟩) :: kl) (fun i g => ((((greetL h).take i).map B8 ++ g.sp).length = g.cap * 1) ∧ (i ≤ 68)) (fun i g => 68 - i) 0 gnil hp (Sub.cons rfl (Sub.cons rfl (Sub.cons rfl (Sub.nil _)))) (LSub.cons rfl (LSub.cons rfl (LSub.nil _))) ?_ ?_
  · exact ⟨(by first | omega | (simp; done) | (simp; omega) | (simp [*]; omega)), (by first | omega | (simp; done) | (simp; omega) | (simp [*]; omega))⟩
  intro i g w hp hx
  obtain ⟨hcap, hi⟩ := hx
  refine sc_seq ?_
  refine sc_seq ?_
  refine sc_region ?_
  refine st_v (ov_move rfl) rfl ?_
  refine st_v (ov_lss rfl rfl) rfl ?_
  refine st_nil ?_
  refine pn_then ?_
  refine sc_cond rfl (fun hc => ?_) (fun hc => ?_)
  ·
    have hc := of_decide_eq_true hc
    refine sc_skip ?_
    refine pn_then ?_
    refine sc_seq ?_
    refine sc_block ?_
    refine sc_block ?_
    refine sc_seq ?_
    refine sc_region ?_
    refine st_v (ov_move rfl) rfl ?_
    refine st_v (ov_lss rfl rfl) rfl ?_
    refine st_v (ov_assign rfl) rfl ?_
    refine st_nil ?_
    refine pn_then ?_
    refine sc_cond rfl (fun hc => ?_) (fun hc => ?_)
    ·
      have hc := of_decide_eq_true hc
      refine sc_region ?_
      refine st_v (ov_move rfl) rfl ?_
      refine st_v (ov_move rfl) rfl ?_
      refine st_call pl37 rfl rfl rfl (sign_walk i (by omega) _) ?_
      rintro _ w ⟨rfl, rfl⟩
      refine ⟨_, rfl, ?_⟩
      refine st_app1 3 23 g (xs := ((greetL h).take i).map B8) hp rfl rfl rfl rfl rfl (by simp) rfl rfl Try.underlying26 in5 (by decide) rfl (by simp [greet_len]; omega) hcap rfl rfl (by simp [Value.oneCell']) (by omega) (fun g2 b23 w hp hcap hf3 => ?_)
      rw [← greet_snoc h (i := i) (by omega) (by rw [greet_sign h (by omega)])] at hp hcap
      refine st_v (ov_assign rfl) rfl ?_
      refine st_nil ?_
      refine pn_block ?_
      refine pn_block ?_
      refine pn_then ?_
      refine sc_region ?_
      refine st_v (ov_move rfl) rfl ?_
      refine st_v (ov_add_n (a := i) (b := 1) rfl rfl (by omega)) rfl ?_
      refine st_v (ov_assign rfl) rfl ?_
      refine st_nil ?_
      refine pn_roundH2 (i + 1) g2 hp (Sub.cons rfl (Sub.cons rfl (Sub.cons rfl (Sub.nil _)))) ?_ (LSub.cons rfl (LSub.cons rfl (LSub.nil _))) ?_
      · omega
      exact ⟨hcap, (by first | omega | (simp; done) | (simp; omega) | (simp [*]; omega))⟩
    ·
      have hc := of_decide_eq_false hc
      refine sc_seq ?_
      refine sc_region ?_
      refine st_v (ov_move rfl) rfl ?_
      refine st_v (ov_lss rfl rfl) rfl ?_
      refine st_v (ov_assign rfl) rfl ?_
      refine st_nil ?_
      refine pn_then ?_
      refine sc_cond rfl (fun hc => ?_) (fun hc => ?_)
      ·
        have hc := of_decide_eq_true hc
        refine sc_region ?_
        refine st_v (ov_move rfl) rfl ?_
        refine st_v (ov_move rfl) rfl ?_
        refine st_v (ov_sub_n (a := i) (b := 20) rfl rfl (by omega)) rfl ?_
        refine st_v (ov_field (q := 0) rfl Try.underlying25 rfl sz22 rfl) rfl ?_
        refine st_v (ov_indexA rfl rfl Try.underlying22 sz5 (by omega)) rfl ?_
        refine st_v (ov_load1 rfl Try.underlying5 rfl (Cells.elem' (hp.cells' (t := 1) rfl) (0 + (i - 20)) (by first | omega | (simp; omega) | (simp [*]; omega)) 0)) rfl ?_
        refine st_app1 3 34 g (xs := ((greetL h).take i).map B8) hp rfl rfl rfl rfl rfl (by simp) rfl rfl Try.underlying26 in5 (by decide) rfl (by simp [greet_len]; omega) hcap rfl rfl (by simp [Value.oneCell']) (by omega) (fun g2 b34 w hp hcap hf3 => ?_)
        rw [← greet_snoc h (i := i) (by omega) (by rw [greet_rest h (by omega)]; congr 1; omega)] at hp hcap
        refine st_v (ov_assign rfl) rfl ?_
        refine st_nil ?_
        refine pn_block ?_
        refine pn_block ?_
        refine pn_then ?_
        refine sc_region ?_
        refine st_v (ov_move rfl) rfl ?_
        refine st_v (ov_add_n (a := i) (b := 1) rfl rfl (by omega)) rfl ?_
        refine st_v (ov_assign rfl) rfl ?_
        refine st_nil ?_
        refine pn_roundH2 (i + 1) g2 hp (Sub.cons rfl (Sub.cons rfl (Sub.cons rfl (Sub.nil _)))) ?_ (LSub.cons rfl (LSub.cons rfl (LSub.nil _))) ?_
        · omega
        exact ⟨hcap, (by first | omega | (simp; done) | (simp; omega) | (simp [*]; omega))⟩
      ·
        have hc := of_decide_eq_false hc
        refine sc_seq ?_
        refine sc_region ?_
        refine st_v (ov_move rfl) rfl ?_
        refine st_v (ov_lss rfl rfl) rfl ?_
        refine st_v (ov_assign rfl) rfl ?_
        refine st_nil ?_
        refine pn_then ?_
        refine sc_cond rfl (fun hc => ?_) (fun hc => ?_)
        ·
          have hc := of_decide_eq_true hc
          refine sc_region ?_
          refine st_v (ov_move rfl) rfl ?_
          refine st_v (ov_move rfl) rfl ?_
          refine st_v (ov_sub_n (a := i) (b := 28) rfl rfl (by omega)) rfl ?_
          refine st_v (ov_field (q := 8) rfl Try.underlying25 rfl sz23 rfl) rfl ?_
          refine st_v (ov_indexA rfl rfl Try.underlying23 sz5 (by omega)) rfl ?_
          refine st_v (ov_load1 rfl Try.underlying5 rfl (Cells.elem' (hp.cells' (t := 1) rfl) (8 + (i - 28)) (by first | omega | (simp; omega) | (simp [*]; omega)) 0)) rfl ?_
          refine st_app1 3 45 g (xs := ((greetL h).take i).map B8) hp rfl rfl rfl rfl rfl (by simp) rfl rfl Try.underlying26 in5 (by decide) rfl (by simp [greet_len]; omega) hcap rfl rfl (by simp [Value.oneCell']) (by omega) (fun g2 b45 w hp hcap hf3 => ?_)
          rw [← greet_snoc h (i := i) (by omega) (by rw [greet_rest h (by omega)]; congr 1; omega)] at hp hcap
          refine st_v (ov_assign rfl) rfl ?_
          refine st_nil ?_
          refine pn_block ?_
          refine pn_block ?_
          refine pn_then ?_
          refine sc_region ?_
          refine st_v (ov_move rfl) rfl ?_
          refine st_v (ov_add_n (a := i) (b := 1) rfl rfl (by omega)) rfl ?_
          refine st_v (ov_assign rfl) rfl ?_
          refine st_nil ?_
          refine pn_roundH2 (i + 1) g2 hp (Sub.cons rfl (Sub.cons rfl (Sub.cons rfl (Sub.nil _)))) ?_ (LSub.cons rfl (LSub.cons rfl (LSub.nil _))) ?_
          · omega
          exact ⟨hcap, (by first | omega | (simp; done) | (simp; omega) | (simp [*]; omega))⟩
        ·
          have hc := of_decide_eq_false hc
          refine sc_region ?_
          refine st_v (ov_move rfl) rfl ?_
          refine st_v (ov_move rfl) rfl ?_
          refine st_v (ov_sub_n (a := i) (b := 48) rfl rfl (by omega)) rfl ?_
          refine st_v (ov_field (q := 28) rfl Try.underlying25 rfl sz23 rfl) rfl ?_
          refine st_v (ov_indexA rfl rfl Try.underlying23 sz5 (by omega)) rfl ?_
          refine st_v (ov_load1 rfl Try.underlying5 rfl (Cells.elem' (hp.cells' (t := 1) rfl) (28 + (i - 48)) (by first | omega | (simp; omega) | (simp [*]; omega)) 0)) rfl ?_
          refine st_app1 3 15 g (xs := ((greetL h).take i).map B8) hp rfl rfl rfl rfl rfl (by simp) rfl rfl Try.underlying26 in5 (by decide) rfl (by simp [greet_len]; omega) hcap rfl rfl (by simp [Value.oneCell']) (by omega) (fun g2 b15 w hp hcap hf3 => ?_)
          rw [← greet_snoc h (i := i) (by omega) (by rw [greet_rest h (by omega)]; congr 1; omega)] at hp hcap
          refine st_v (ov_assign rfl) rfl ?_
          refine st_nil ?_
          refine pn_block ?_
          refine pn_block ?_
          refine pn_then ?_
          refine sc_region ?_
          refine st_v (ov_move rfl) rfl ?_
          refine st_v (ov_add_n (a := i) (b := 1) rfl rfl (by omega)) rfl ?_
          refine st_v (ov_assign rfl) rfl ?_
          refine st_nil ?_
          refine pn_roundH2 (i + 1) g2 hp (Sub.cons rfl (Sub.cons rfl (Sub.cons rfl (Sub.nil _)))) ?_ (LSub.cons rfl (LSub.cons rfl (LSub.nil _))) ?_
          · omega
          exact ⟨hcap, (by first | omega | (simp; done) | (simp; omega) | (simp [*]; omega))⟩
  ·
    have hc := of_decide_eq_false hc
    obtain rfl : i = 68 := by omega
    rw [List.take_of_length_le (by omega)] at hp hcap
    refine sc_exit ?_
    refine pe_then ?_
    refine pe_then ?_
    refine pe_hit ?_
    refine pn_then ?_
    refine sc_seq ?_
    refine sc_region ?_
    refine st_v (ov_move rfl) rfl ?_
    refine st_v (ov_assign rfl) rfl ?_
    refine st_nil ?_
    refine pn_then ?_
    refine sc_ret ?_
    refine pr_one rfl rfl ?_
    exact ⟨g, rfl, hp.gives 3 rfl hcap⟩

set_option maxRecDepth 100000 in
theorem greet_walk (h : Hl) (w0 : World) :
    Calls Try.prog 13 #[.agg (h.1.map B8).toArray] w0 fun e w' => ∃ g : Gs, e = .returned (.slice (adr g.ob) 68 g.cap) ∧ Mk w0 w' 5 1 ((greetL h).map B8) g := by
  refine calls_in Try.func13 Try.ntmps13 rfl rfl ?_
  have hp := Hp.start w0
  refine sc_seq ?_
  refine sc_region ?_
  refine st_box 1 hp rfl rfl rfl (fun b1 w hp => ?_)
  refine st_v (ov_assign rfl) rfl ?_
  refine st_nil ?_
  refine pn_then ?_
  refine sc_seq ?_
  refine sc_region ?_
  refine st_make1 4 (l := 0) (c := 68) hp rfl rfl rfl Try.underlying26 in5 ⟨by omega, by omega, by omega, by omega, by omega⟩ rfl (fun b4 w hp => ?_)
  refine st_v (ov_assign rfl) rfl ?_
  refine st_nil ?_
  refine pn_then ?_
  refine sc_seq ?_
  refine sc_region ?_
  refine st_v (ov_move rfl) rfl ?_
  refine st_appendStr 4 (⟨some b4, 68, List.replicate 68 (Value.int .u8 0)⟩ : Gs) (xs := []) (str := signL) hp rfl rfl rfl (by rfl) rfl Try.underlying26 Try.underlying9 in5 rfl (by simp) rfl (by rw [sign_len]; omega) (fun g2 w hp hcap hf4 => ?_)
  rw [List.nil_append] at hp hcap
  rw [show 0 + signL.length = 20 from rfl]
  refine st_v (ov_assign rfl) rfl ?_
  refine st_nil ?_
  refine pn_then ?_
  refine sc_seq ?_
  refine sc_region ?_
  refine st_v (ov_move rfl) rfl ?_
  refine st_v (ov_field (q := 0) rfl Try.underlying25 rfl sz22 rfl) rfl ?_
  refine st_v (ov_sliceA Try.underlying22 sz5 rfl) rfl ?_
  refine st_append 4 g2 (xs := (signL).map B8) (m := 8) hp rfl rfl rfl rfl rfl Try.underlying26 in5 (by decide) rfl (by simp [sign_len, h.2]) hcap (Rd.of (((hp.cells' (t := 1) rfl).drop 0).take 8)) (by simp [h.2]) (by rw [← List.map_drop, ← List.map_take]; exact one_all _) (by omega) (fun g3 w hp hcap hf4 => ?_)
  rw [← List.map_drop, ← List.map_take, ← List.map_append] at hp hcap
  refine st_v (ov_assign rfl) rfl ?_
  refine st_nil ?_
  refine pn_then ?_
  refine sc_seq ?_
  refine sc_region ?_
  refine st_v (ov_move rfl) rfl ?_
  refine st_v (ov_field (q := 8) rfl Try.underlying25 rfl sz23 rfl) rfl ?_
  refine st_v (ov_sliceA Try.underlying23 sz5 rfl) rfl ?_
  refine st_append 4 g3 (xs := (signL ++ (h.1.drop 0).take 8).map B8) (m := 20) hp rfl rfl rfl rfl rfl Try.underlying26 in5 (by decide) rfl (by simp [sign_len, h.2]) hcap (Rd.of (((hp.cells' (t := 1) rfl).drop 8).take 20)) (by simp [h.2]) (by rw [← List.map_drop, ← List.map_take]; exact one_all _) (by omega) (fun g4 w hp hcap hf4 => ?_)
  rw [← List.map_drop, ← List.map_take, ← List.map_append] at hp hcap
  refine st_v (ov_assign rfl) rfl ?_
  refine st_nil ?_
  refine pn_then ?_
  refine sc_seq ?_
  refine sc_region ?_
  refine st_v (ov_move rfl) rfl ?_
  refine st_v (ov_field (q := 28) rfl Try.underlying25 rfl sz23 rfl) rfl ?_
  refine st_v (ov_sliceA Try.underlying23 sz5 rfl) rfl ?_
  refine st_append 4 g4 (xs := ((signL ++ (h.1.drop 0).take 8) ++ (h.1.drop 8).take 20).map B8) (m := 20) hp rfl rfl rfl rfl rfl Try.underlying26 in5 (by decide) rfl (by simp [sign_len, h.2]) hcap (Rd.of (((hp.cells' (t := 1) rfl).drop 28).take 20)) (by simp [h.2]) (by rw [← List.map_drop, ← List.map_take]; exact one_all _) (by omega) (fun g5 w hp hcap hf4 => ?_)
  rw [← List.map_drop, ← List.map_take, ← List.map_append] at hp hcap
  refine st_v (ov_assign rfl) rfl ?_
  refine st_nil ?_
  refine pn_then ?_
  refine sc_ret ?_
  refine pr_one rfl rfl ?_
  exact ⟨g5, rfl, hp.gives 4 (cs := (greetL h).map B8) (by rw [show greetL h = ((signL ++ (h.1.drop 0).take 8) ++ (h.1.drop 8).take 20) ++ (h.1.drop 28).take 20 from greet_parts h]; rfl) (by rw [greet_parts h]; exact hcap)⟩

set_option maxRecDepth 100000 in
theorem law_greets (h : Hl) (w0 : World) :
    Calls Try.prog 3 #[.agg (h.1.map B8).toArray] w0 fun e w' => e = .returned (.bool true) ∧ Chg [] w0 w' := by
  refine calls_in Try.func3 Try.ntmps3 rfl rfl ?_
  have hp := Hp.start w0
  have hgl := greet_len h
  have hl48 := hl_len h
  refine sc_seq ?_
  refine sc_region ?_
  refine st_box 1 hp rfl rfl rfl (fun b1 w hp => ?_)
  refine st_v (ov_assign rfl) rfl ?_
  refine st_nil ?_
  refine pn_then ?_
  refine sc_seq ?_
  refine sc_region ?_
  refine st_v (ov_loadN rfl Try.underlying25 rfl (sz25.trans (by simp [h.2])) (hp.cells' (t := 1) rfl)) rfl ?_
  refine st_call pl12 rfl rfl rfl (greetr_walk h _) ?_
  rintro _ w ⟨g3, rfl, hm3⟩
  refine ⟨_, rfl, ?_⟩
  replace hp := hp.got 3 hm3
  have hc3 := hm3.2
  clear hm3
  refine st_v (ov_assign rfl) rfl ?_
  refine st_nil ?_
  refine pn_then ?_
  refine sc_seq ?_
  refine sc_region ?_
  refine st_v (ov_loadN rfl Try.underlying25 rfl (sz25.trans (by simp [h.2])) (hp.cells' (t := 1) rfl)) rfl ?_
  refine st_call pl13 rfl rfl rfl (greet_walk h _) ?_
  rintro _ w ⟨g4, rfl, hm4⟩
  refine ⟨_, rfl, ?_⟩
  replace hp := hp.got 4 hm4
  have hc4 := hm4.2
  clear hm4
  refine st_v (ov_assign rfl) rfl ?_
  refine st_nil ?_
  refine pn_then ?_
  refine sc_seq ?_
  refine sc_region ?_
  refine st_v (ov_move rfl) rfl ?_
  refine st_v (ov_move rfl) rfl ?_
  refine st_call pl14 rfl rfl rfl (same_walk_eq (greetL h) _ _ _ _ _ (Rd.own (hp.own 4 _ rfl)) (Rd.own (hp.own 3 _ rfl)) (by first | rfl | omega | (simp; done) | (simp; omega) | (simp [*]; omega)) (by first | rfl | omega | (simp; done) | (simp; omega) | (simp [*]; omega)) (by first | omega | (simp; omega))) ?_
  rintro _ w ⟨rfl, hch⟩
  refine ⟨_, rfl, ?_⟩
  replace hp := hp.call hch
  clear hch
  refine st_v (ov_assign rfl) rfl ?_
  refine st_nil ?_
  refine pn_then ?_
  refine sc_ret ?_
  refine pr_one rfl rfl ?_
  exact ⟨rfl, hp.chg⟩

end Go.Proofs.Ythebbenfmoknbaa
