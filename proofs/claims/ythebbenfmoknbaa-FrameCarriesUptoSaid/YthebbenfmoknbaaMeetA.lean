/-
  The walks of both Meets.
-/
import Derived.Test.YthebbenfmoknbaaGreetA
namespace Go.Proofs.Ythebbenfmoknbaa
open Go Go.RowKit

set_option maxRecDepth 100000 in
theorem meet_walk (b : List UInt8) {nb : Nat} (ao : Option Addr) (ca : Nat) (w0 : World) (h1 : Rd w0 ao (b.map B8)) (hb : b.length = nb) (hca : nb ≤ ca) (hz : b.length ≤ 140737488351232) :
    Calls Try.prog 18 #[.slice ao nb ca] w0 fun e w' => e = .returned (.tuple #[.agg ((meetH b).1.map B8).toArray, .int .i64 (meetE b)]) ∧ Chg [] w0 w' := by
  refine calls_in Try.func18 Try.ntmps18 rfl rfl ?_
  have hp := Hp.start w0
  subst hb
  refine sc_seq ?_
  refine sc_region ?_
  refine st_alloc 2 ((List.replicate 48 (0 : UInt8)).map B8) hp rfl zl25 rfl (fun b2 w hp => ?_)
  refine st_v (ov_assign rfl) rfl ?_
  refine st_nil ?_
  refine pn_then ?_
  refine sc_seq ?_
  refine sc_region ?_
  refine st_alloc 4 ((List.replicate 48 (0 : UInt8)).map B8) hp rfl zl25 rfl (fun b4 w hp => ?_)
  refine st_nil ?_
  refine pn_then ?_
  refine sc_seq ?_
  refine sc_seq ?_
  refine sc_region ?_
  refine st_v (ov_move rfl) rfl ?_
  refine st_v (ov_len rfl Try.underlying26 rfl) rfl ?_
  refine st_v (ov_minN (m := min b.length 20) rfl rfl (by omega)) rfl ?_
  refine st_v (ov_move rfl) rfl ?_
  refine st_nil ?_
  refine pn_then ?_
  refine sc_block ?_
  refine sc_loopH1 (α := Nat) (kv := [(0, _), (2, _), (4, _), (8, _)]) (kl := [(4, _), (2, _)]) (fun i kv => (9, .int .i64 ((i : Nat) : Int)) :: kv) (fun i kl => kl) (fun i => (i ≤ min b.length 20) ∧ (b.take i = signL.take i)) (fun i => 20 - i) 0 hp (Sub.cons rfl (Sub.cons rfl (Sub.cons rfl (Sub.cons rfl (Sub.cons rfl (Sub.nil _)))))) (LSub.cons rfl (LSub.cons rfl (LSub.nil _))) ?_ ?_
  · exact ⟨(by first | omega | (simp; done) | (simp; omega) | (simp [*]; omega)), rfl⟩
  intro i w hp hx
  obtain ⟨hi, ht⟩ := hx
  refine sc_seq ?_
  refine sc_region ?_
  refine st_v (ov_lss rfl rfl) rfl ?_
  refine st_nil ?_
  refine pn_then ?_
  refine sc_seq ?_
  refine sc_cond rfl (fun hc => ?_) (fun hc => ?_)
  ·
    have hc := of_decide_eq_true hc
    refine sc_skip ?_
    refine pn_then ?_
    refine sc_seq ?_
    refine sc_block ?_
    refine sc_seq ?_
    refine sc_region ?_
    refine st_v (ov_move rfl) rfl ?_
    refine st_v (ov_assign rfl) rfl ?_
    refine st_nil ?_
    refine pn_then ?_
    refine sc_seq ?_
    refine sc_draws (by kernel_rfl) (by kernel_rfl) ?_
    replace hp := hp.drew
    refine ss_v (ov_move rfl) rfl ?_
    refine ss_v (ov_move rfl) rfl ?_
    obtain ⟨bb1, oo1, hadr1, hcl1⟩ := (h1.chg hp.chg).pos (by simp; omega)
    refine ss_v (ov_indexR hadr1 rfl rfl Try.underlying26 sz5 (by omega)) rfl ?_
    refine ss_v (ov_load1 rfl Try.underlying5 rfl (Cells.elem' hcl1 (i) (by first | omega | (simp; omega) | (simp [*]; omega)) 0)) rfl ?_
    refine ss_v (ov_move rfl) rfl ?_
    refine ss_v (ov_indexStrN (s := signL) (i := i) rfl rfl Try.underlying9 (by rw [sign_len]; omega)) rfl ?_
    refine ss_v (ov_neq rfl rfl) rfl ?_
    refine ss_end ?_
    refine pn_then ?_
    refine sc_cond rfl (fun hc => ?_) (fun hc => ?_)
    ·
      have hc := of_decide_eq_true hc
      refine sc_seq ?_
      refine sc_region ?_
      refine st_v (ov_loadN rfl Try.underlying25 rfl (sz25.trans (by first | (simp; done) | (simp [*]; done) | (simp; omega))) (hp.cells' (t := 4) rfl)) rfl ?_
      refine st_storeA 2 hp rfl rfl rfl (by first | (simp; done) | (simp [*]; done) | (simp; omega) | (simp [*]; omega)) (sz25.trans (by first | (simp; done) | (simp [*]; done) | (simp; omega))) (one_all _) (fun w hp => ?_)
      refine st_v (ov_assign rfl) rfl ?_
      refine st_nil ?_
      refine pn_then ?_
      refine sc_ret ?_
      refine pr_block ?_
      refine pr_then ?_
      refine pr_then ?_
      refine pr_block ?_
      refine pr_then ?_
      refine pr_rv2 rfl (rv_cells rfl Try.underlying25 rfl (sz25.trans (by first | (simp; done) | (simp [*]; done) | (simp; omega))) (hp.cells' (t := 2) rfl)) (rv_tmp rfl) ?_
      have hme : meetE b = 100 := meet_bad (i := i) (by omega) (by omega) (fun e => hc (by rw [e]))
      have hmh := meetH_bad (b := b) (by rw [hme]; decide)
      exact ⟨by rw [hme, hmh], hp.chg⟩
    ·
      have hc := of_decide_eq_false hc
      refine sc_skip ?_
      refine pn_block ?_
      refine pn_then ?_
      refine sc_region ?_
      refine st_v (ov_add_n (a := i) (b := 1) rfl rfl (by omega)) rfl ?_
      refine st_v (ov_move rfl) rfl ?_
      refine st_nil ?_
      refine pn_roundH1 (i + 1) hp (Sub.cons rfl (Sub.cons rfl (Sub.cons rfl (Sub.cons rfl (Sub.cons rfl (Sub.nil _)))))) ?_ (LSub.cons rfl (LSub.cons rfl (LSub.nil _))) ?_
      · omega
      exact ⟨(by first | omega | (simp; done) | (simp; omega) | (simp [*]; omega)), sign_step (by omega) (by omega) ht (b8_inj (by omega))⟩
  ·
    have hc := of_decide_eq_false hc
    obtain rfl : i = min b.length 20 := by omega
    refine sc_exit ?_
    refine pe_then ?_
    refine pe_then ?_
    refine pe_hit ?_
    refine pn_then ?_
    refine sc_seq ?_
    refine sc_seq ?_
    refine sc_region ?_
    refine st_v (ov_move rfl) rfl ?_
    refine st_v (ov_len rfl Try.underlying26 rfl) rfl ?_
    refine st_v (ov_lss rfl rfl) rfl ?_
    refine st_nil ?_
    refine pn_then ?_
    refine sc_cond rfl (fun hc => ?_) (fun hc => ?_)
    ·
      have hc := of_decide_eq_true hc
      refine sc_seq ?_
      refine sc_region ?_
      refine st_v (ov_loadN rfl Try.underlying25 rfl (sz25.trans (by first | (simp; done) | (simp [*]; done) | (simp; omega))) (hp.cells' (t := 4) rfl)) rfl ?_
      refine st_storeA 2 hp rfl rfl rfl (by first | (simp; done) | (simp [*]; done) | (simp; omega) | (simp [*]; omega)) (sz25.trans (by first | (simp; done) | (simp [*]; done) | (simp; omega))) (one_all _) (fun w hp => ?_)
      refine st_v (ov_assign rfl) rfl ?_
      refine st_nil ?_
      refine pn_then ?_
      refine sc_ret ?_
      refine pr_then ?_
      refine pr_rv2 rfl (rv_cells rfl Try.underlying25 rfl (sz25.trans (by first | (simp; done) | (simp [*]; done) | (simp; omega))) (hp.cells' (t := 2) rfl)) (rv_tmp rfl) ?_
      have hme : meetE b = 101 := meet_short (by omega) ht
      have hmh := meetH_bad (b := b) (by rw [hme]; decide)
      exact ⟨by rw [hme, hmh], hp.chg⟩
    ·
      have hc := of_decide_eq_false hc
      have hbl : 68 ≤ b.length := by omega
      rw [Nat.min_eq_right (by omega)] at ht
      have hme := meet_ok hbl ht
      have hml0 := mt_len hbl (i := 0) (by omega)
      have hml8 := mt_len hbl (i := 8) (by omega)
      have hml28 := mt_len hbl (i := 28) (by omega)
      have hml48 := mt_len hbl (i := 48) (by omega)
      refine sc_skip ?_
      refine pn_then ?_
      refine sc_seq ?_
      refine sc_region ?_
      refine st_v (ov_move rfl) rfl ?_
      refine st_v (ov_slice_lo Try.underlying26 sz5 rfl rfl (by omega)) rfl ?_
      skip
      refine st_v (ov_assign rfl) rfl ?_
      refine st_nil ?_
      refine pn_then ?_
      refine sc_seq ?_
      rw [← mt_zero b] at hp
      refine sc_region ?_
      refine st_v (ov_move rfl) rfl ?_
      refine st_v (ov_field (q := 0) rfl Try.underlying25 rfl sz22 rfl) rfl ?_
      refine st_v (ov_sliceA Try.underlying22 sz5 rfl) rfl ?_
      refine st_v (ov_move rfl) rfl ?_
      refine st_copy 4 (cs' := (mt b (0 + 8)).map B8) (news := ((b.drop (20 + 0)).take 8).map B8) (m := 8) (off := 0) (n' := ((8 : Nat) : Int)) hp rfl rfl rfl rfl rfl Try.underlying26 sz5 (by omega) (fun _ => rfl) ((((h1.chg hp.chg).dropM (l := 20) hca)).takeM 8) (by simp; omega) (one_all _) (by rw [List.length_map, mt_len hbl (by omega)]; omega) (mt_put hbl 0 8 (by omega)) rfl (fun w hp => ?_)
      refine st_v (ov_slice_lo Try.underlying26 sz5 rfl rfl (by omega)) rfl ?_
      refine st_v (ov_assign rfl) rfl ?_
      refine st_nil ?_
      refine pn_then ?_
      refine sc_seq ?_
      refine sc_region ?_
      refine st_v (ov_move rfl) rfl ?_
      refine st_v (ov_field (q := 8) rfl Try.underlying25 rfl sz23 rfl) rfl ?_
      refine st_v (ov_sliceA Try.underlying23 sz5 rfl) rfl ?_
      refine st_v (ov_move rfl) rfl ?_
      refine st_copy 4 (cs' := (mt b (8 + 20)).map B8) (news := ((b.drop (20 + 8)).take 20).map B8) (m := 20) (off := 8) (n' := ((20 : Nat) : Int)) hp rfl rfl rfl rfl rfl Try.underlying26 sz5 (by omega) (fun _ => rfl) (by rw [← List.drop_drop]; exact (((h1.chg hp.chg).dropM (l := 20) hca).dropM (l := 8) (by simp; omega)).takeM 20) (by simp; omega) (one_all _) (by rw [List.length_map, mt_len hbl (by omega)]; omega) (mt_put hbl 8 20 (by omega)) rfl (fun w hp => ?_)
      refine st_v (ov_slice_lo Try.underlying26 sz5 rfl rfl (by omega)) rfl ?_
      refine st_v (ov_assign rfl) rfl ?_
      refine st_nil ?_
      refine pn_then ?_
      refine sc_seq ?_
      refine sc_region ?_
      refine st_v (ov_field (q := 28) rfl Try.underlying25 rfl sz23 rfl) rfl ?_
      refine st_v (ov_sliceA Try.underlying23 sz5 rfl) rfl ?_
      refine st_v (ov_move rfl) rfl ?_
      refine st_copy 4 (cs' := (mt b (28 + 20)).map B8) (news := ((b.drop (20 + 28)).take 20).map B8) (m := 20) (off := 28) (n' := ((20 : Nat) : Int)) hp rfl rfl rfl rfl rfl Try.underlying26 sz5 (by omega) (fun _ => rfl) (by rw [show b.drop (20 + 28) = ((b.drop 20).drop 8).drop 20 by rw [List.drop_drop, List.drop_drop]]; exact ((((h1.chg hp.chg).dropM (l := 20) hca).dropM (l := 8) (by simp; omega)).dropM (l := 20) (by simp; omega)).takeM 20) (by simp; omega) (one_all _) (by rw [List.length_map, mt_len hbl (by omega)]; omega) (mt_put hbl 28 20 (by omega)) rfl (fun w hp => ?_)
      refine st_nil ?_
      refine pn_then ?_
      refine sc_seq ?_
      refine sc_region ?_
      refine st_v (ov_loadN rfl Try.underlying25 rfl (sz25.trans (by first | (simp; done) | (simp [*]; done) | (simp; omega))) (hp.cells' (t := 4) rfl)) rfl ?_
      refine st_storeA 2 hp rfl rfl rfl (by first | (simp; done) | (simp [*]; done) | (simp; omega) | (simp [*]; omega)) (sz25.trans (by first | (simp; done) | (simp [*]; done) | (simp; omega))) (one_all _) (fun w hp => ?_)
      refine st_v (ov_assign rfl) rfl ?_
      refine st_nil ?_
      refine pn_then ?_
      refine sc_ret ?_
      refine pr_rv2 rfl (rv_cells rfl Try.underlying25 rfl (sz25.trans (by first | (simp; done) | (simp [*]; done) | (simp; omega))) (hp.cells' (t := 2) rfl)) (rv_tmp rfl) ?_
      have hmh := meetH_ok hbl hme
      exact ⟨by rw [hme, hmh, ← mt_all], hp.chg⟩

set_option maxRecDepth 100000 in
theorem meetr_walk (b : List UInt8) {nb : Nat} (ao : Option Addr) (ca : Nat) (w0 : World) (h1 : Rd w0 ao (b.map B8)) (hb : b.length = nb) (hca : nb ≤ ca) (hz : b.length ≤ 140737488351232) :
    Calls Try.prog 19 #[.slice ao nb ca] w0 fun e w' => e = .returned (.tuple #[.agg ((meetH b).1.map B8).toArray, .int .i64 (meetE b)]) ∧ Chg [] w0 w' := by
  refine calls_in Try.func19 Try.ntmps19 rfl rfl ?_
  have hp := Hp.start w0
  subst hb
  refine sc_seq ?_
  refine sc_region ?_
  refine st_alloc 2 ((List.replicate 48 (0 : UInt8)).map B8) hp rfl zl25 rfl (fun b2 w hp => ?_)
  refine st_v (ov_assign rfl) rfl ?_
  refine st_nil ?_
  refine pn_then ?_
  refine sc_seq ?_
  refine sc_region ?_
  refine st_alloc 4 ((List.replicate 48 (0 : UInt8)).map B8) hp rfl zl25 rfl (fun b4 w hp => ?_)
  refine st_nil ?_
  refine pn_then ?_
  refine sc_seq ?_
  refine sc_seq ?_
  refine sc_region ?_
  refine st_v (ov_assign rfl) rfl ?_
  refine st_nil ?_
  refine pn_then ?_
  refine sc_block ?_
  refine sc_loopH1 (α := Nat) (kv := [(0, _), (2, _), (4, _)]) (kl := [(4, _), (2, _)]) (fun i kv => (5, .int .i64 ((i : Nat) : Int)) :: kv) (fun i kl => kl) (fun i => (i ≤ min b.length 20) ∧ (b.take i = signL.take i)) (fun i => 20 - i) 0 hp (Sub.cons rfl (Sub.cons rfl (Sub.cons rfl (Sub.cons rfl (Sub.nil _))))) (LSub.cons rfl (LSub.cons rfl (LSub.nil _))) ?_ ?_
  · exact ⟨(by first | omega | (simp; done) | (simp; omega) | (simp [*]; omega)), rfl⟩
  intro i w hp hx
  obtain ⟨hi, ht⟩ := hx
  refine sc_seq ?_
  refine sc_seq ?_
  refine sc_region ?_
  refine st_v (ov_move rfl) rfl ?_
  refine st_v (ov_move rfl) rfl ?_
  refine st_v (ov_len rfl Try.underlying26 rfl) rfl ?_
  refine st_v (ov_lss rfl rfl) rfl ?_
  refine st_v (ov_move rfl) rfl ?_
  refine st_split (j := 12) rfl (fun hb => ?_) (fun hb => ?_)
  ·
    have hb := of_decide_eq_true hb
    refine st_on (j := 4) rfl rfl ?_
    refine st_v (ov_move rfl) rfl ?_
    refine st_on (j := 4) rfl rfl ?_
    refine st_v (ov_lss rfl rfl) rfl ?_
    refine st_v (ov_pick_t rfl rfl) rfl ?_
    refine st_nil ?_
    refine pn_then ?_
    refine sc_cond rfl (fun hc => ?_) (fun hc => ?_)
    ·
      have hc := of_decide_eq_true hc
      refine sc_skip ?_
      refine pn_then ?_
      refine sc_seq ?_
      refine sc_block ?_
      refine sc_seq ?_
      refine sc_draws (by kernel_rfl) (by kernel_rfl) ?_
      replace hp := hp.drew
      refine ss_v (ov_move rfl) rfl ?_
      refine ss_v (ov_move rfl) rfl ?_
      obtain ⟨bb1, oo1, hadr1, hcl1⟩ := (h1.chg hp.chg).pos (by simp; omega)
      refine ss_v (ov_indexR hadr1 rfl rfl Try.underlying26 sz5 (by omega)) rfl ?_
      refine ss_v (ov_load1 rfl Try.underlying5 rfl (Cells.elem' hcl1 (i) (by first | omega | (simp; omega) | (simp [*]; omega)) 0)) rfl ?_
      refine ss_v (ov_move rfl) rfl ?_
      refine ss_call pl37 rfl rfl rfl (sign_walk i (by omega) _) ?_
      refine ss_v (ov_neq rfl rfl) rfl ?_
      refine ss_end ?_
      refine pn_then ?_
      refine sc_cond rfl (fun hc => ?_) (fun hc => ?_)
      ·
        have hc := of_decide_eq_true hc
        refine sc_seq ?_
        refine sc_region ?_
        refine st_v (ov_loadN rfl Try.underlying25 rfl (sz25.trans (by first | (simp; done) | (simp [*]; done) | (simp; omega))) (hp.cells' (t := 4) rfl)) rfl ?_
        refine st_storeA 2 hp rfl rfl rfl (by first | (simp; done) | (simp [*]; done) | (simp; omega) | (simp [*]; omega)) (sz25.trans (by first | (simp; done) | (simp [*]; done) | (simp; omega))) (one_all _) (fun w hp => ?_)
        refine st_v (ov_assign rfl) rfl ?_
        refine st_nil ?_
        refine pn_then ?_
        refine sc_ret ?_
        refine pr_block ?_
        refine pr_then ?_
        refine pr_then ?_
        refine pr_block ?_
        refine pr_then ?_
        refine pr_rv2 rfl (rv_cells rfl Try.underlying25 rfl (sz25.trans (by first | (simp; done) | (simp [*]; done) | (simp; omega))) (hp.cells' (t := 2) rfl)) (rv_tmp rfl) ?_
        have hme : meetE b = 100 := meet_bad (i := i) (by omega) (by omega) (fun e => hc (by rw [e]))
        have hmh := meetH_bad (b := b) (by rw [hme]; decide)
        exact ⟨by rw [hme, hmh], hp.chg⟩
      ·
        have hc := of_decide_eq_false hc
        refine sc_skip ?_
        refine pn_block ?_
        refine pn_then ?_
        refine sc_region ?_
        refine st_v (ov_move rfl) rfl ?_
        refine st_v (ov_add_n (a := i) (b := 1) rfl rfl (by omega)) rfl ?_
        refine st_v (ov_assign rfl) rfl ?_
        refine st_nil ?_
        refine pn_roundH1 (i + 1) hp (Sub.cons rfl (Sub.cons rfl (Sub.cons rfl (Sub.cons rfl (Sub.nil _))))) ?_ (LSub.cons rfl (LSub.cons rfl (LSub.nil _))) ?_
        · omega
        exact ⟨(by first | omega | (simp; done) | (simp; omega) | (simp [*]; omega)), sign_step (by omega) (by omega) ht (b8_inj (by omega))⟩
    ·
      have hc := of_decide_eq_false hc
      refine sc_exit ?_
      refine pe_then ?_
      refine pe_then ?_
      refine pe_hit ?_
      refine pn_then ?_
      refine sc_seq ?_
      refine sc_seq ?_
      refine sc_region ?_
      refine st_v (ov_move rfl) rfl ?_
      refine st_v (ov_len rfl Try.underlying26 rfl) rfl ?_
      refine st_v (ov_lss rfl rfl) rfl ?_
      refine st_nil ?_
      refine pn_then ?_
      refine sc_cond rfl (fun hc => ?_) (fun hc => ?_)
      ·
        have hc := of_decide_eq_true hc
        refine sc_seq ?_
        refine sc_region ?_
        refine st_v (ov_loadN rfl Try.underlying25 rfl (sz25.trans (by first | (simp; done) | (simp [*]; done) | (simp; omega))) (hp.cells' (t := 4) rfl)) rfl ?_
        refine st_storeA 2 hp rfl rfl rfl (by first | (simp; done) | (simp [*]; done) | (simp; omega) | (simp [*]; omega)) (sz25.trans (by first | (simp; done) | (simp [*]; done) | (simp; omega))) (one_all _) (fun w hp => ?_)
        refine st_v (ov_assign rfl) rfl ?_
        refine st_nil ?_
        refine pn_then ?_
        refine sc_ret ?_
        refine pr_then ?_
        refine pr_rv2 rfl (rv_cells rfl Try.underlying25 rfl (sz25.trans (by first | (simp; done) | (simp [*]; done) | (simp; omega))) (hp.cells' (t := 2) rfl)) (rv_tmp rfl) ?_
        have hme : meetE b = 101 := meet_short (by omega) (by rw [show min b.length 20 = i by omega]; exact ht)
        have hmh := meetH_bad (b := b) (by rw [hme]; decide)
        exact ⟨by rw [hme, hmh], hp.chg⟩
      ·
        have hc := of_decide_eq_false hc
        have hbl : 68 ≤ b.length := by omega
        obtain rfl : i = 20 := by omega
        have hme := meet_ok hbl ht
        have hml0 := mt_len hbl (i := 0) (by omega)
        refine sc_skip ?_
        refine pn_then ?_
        refine sc_seq ?_
        refine sc_seq ?_
        rw [← mt_zero b] at hp
        refine sc_region ?_
        refine st_v (ov_assign rfl) rfl ?_
        refine st_nil ?_
        refine pn_then ?_
        refine sc_block ?_
        refine sc_loopH1 (α := Nat) (kv := [(0, _), (2, _), (4, _)]) (kl := [(2, _)]) (fun i kv => (6, .int .i64 ((i : Nat) : Int)) :: kv) (fun i kl => (4, ⟨some b4, (mt b i).map B8, 25⟩) :: kl) (fun i => (i ≤ 8)) (fun i => 8 - i) 0 hp (Sub.cons rfl (Sub.cons rfl (Sub.cons rfl (Sub.cons rfl (Sub.nil _))))) (LSub.cons rfl (LSub.cons rfl (LSub.nil _))) ?_ ?_
        · exact (by first | omega | (simp; done) | (simp; omega) | (simp [*]; omega))
        intro i w hp hx
        have hi2 : i ≤ 8 := hx
        have hml := mt_len hbl (i := i) (by omega)
        refine sc_seq ?_
        refine sc_seq ?_
        refine sc_region ?_
        refine st_v (ov_move rfl) rfl ?_
        refine st_v (ov_lss rfl rfl) rfl ?_
        refine st_nil ?_
        refine pn_then ?_
        refine sc_cond rfl (fun hc => ?_) (fun hc => ?_)
        ·
          have hc := of_decide_eq_true hc
          refine sc_skip ?_
          refine pn_then ?_
          refine sc_seq ?_
          refine sc_block ?_
          refine sc_region ?_
          refine st_v (ov_move rfl) rfl ?_
          refine st_v (ov_move rfl) rfl ?_
          refine st_v (ov_move rfl) rfl ?_
          refine st_v (ov_add_n (a := 20) (b := i) rfl rfl (by omega)) rfl ?_
          obtain ⟨bb2, oo2, hadr2, hcl2⟩ := (h1.chg hp.chg).pos (by simp; omega)
          refine st_v (ov_indexR hadr2 rfl rfl Try.underlying26 sz5 (by omega)) rfl ?_
          refine st_v (ov_load1 rfl Try.underlying5 rfl (Cells.elem' hcl2 (20 + i) (by first | omega | (simp; omega) | (simp [*]; omega)) 0)) rfl ?_
          refine st_v (ov_field (q := 0) rfl Try.underlying25 rfl sz22 rfl) rfl ?_
          refine st_v (ov_indexA rfl rfl Try.underlying22 sz5 (by omega)) rfl ?_
          refine st_storeE 4 hp rfl rfl rfl (i) (by first | omega | (simp; omega) | (simp [*]; omega)) rfl sz5 (fun w hp => ?_)
          refine st_nil ?_
          refine pn_block ?_
          refine pn_then ?_
          refine sc_region ?_
          refine st_v (ov_move rfl) rfl ?_
          refine st_v (ov_add_n (a := i) (b := 1) rfl rfl (by omega)) rfl ?_
          refine st_v (ov_assign rfl) rfl ?_
          refine st_nil ?_
          rw [mt_set hbl i (by omega)] at hp
          refine pn_roundH1 (i + 1) hp (Sub.cons rfl (Sub.cons rfl (Sub.cons rfl (Sub.cons rfl (Sub.nil _))))) ?_ (LSub.cons rfl (LSub.cons rfl (LSub.nil _))) ?_
          · omega
          exact (by first | omega | (simp; done) | (simp; omega) | (simp [*]; omega))
        ·
          have hc := of_decide_eq_false hc
          refine sc_exit ?_
          refine pe_then ?_
          refine pe_then ?_
          refine pe_hit ?_
          refine pn_then ?_
          refine sc_seq ?_
          refine sc_seq ?_
          obtain rfl : i = 8 := by omega
          rw [mt2_zero b] at hp
          refine sc_region ?_
          refine st_v (ov_assign rfl) rfl ?_
          refine st_nil ?_
          refine pn_then ?_
          refine sc_block ?_
          refine sc_loopH1 (α := Nat) (kv := [(0, _), (2, _), (4, _)]) (kl := [(2, _)]) (fun i kv => (7, .int .i64 ((i : Nat) : Int)) :: kv) (fun i kl => (4, ⟨some b4, (mt2 b i).map B8, 25⟩) :: kl) (fun i => (i ≤ 20)) (fun i => 20 - i) 0 hp (Sub.cons rfl (Sub.cons rfl (Sub.cons rfl (Sub.cons rfl (Sub.nil _))))) (LSub.cons rfl (LSub.cons rfl (LSub.nil _))) ?_ ?_
          · exact (by first | omega | (simp; done) | (simp; omega) | (simp [*]; omega))
          intro i w hp hx
          have hi3 : i ≤ 20 := hx
          have hml := mt2_len hbl (i := i) (by omega)
          refine sc_seq ?_
          refine sc_seq ?_
          refine sc_region ?_
          refine st_v (ov_move rfl) rfl ?_
          refine st_v (ov_lss rfl rfl) rfl ?_
          refine st_nil ?_
          refine pn_then ?_
          refine sc_cond rfl (fun hc => ?_) (fun hc => ?_)
          ·
            have hc := of_decide_eq_true hc
            refine sc_skip ?_
            refine pn_then ?_
            refine sc_seq ?_
            refine sc_block ?_
            refine sc_seq ?_
            refine sc_region ?_
            refine st_v (ov_move rfl) rfl ?_
            refine st_v (ov_move rfl) rfl ?_
            refine st_v (ov_move rfl) rfl ?_
            refine st_v (ov_add_n (a := 28) (b := i) rfl rfl (by omega)) rfl ?_
            obtain ⟨bb3, oo3, hadr3, hcl3⟩ := (h1.chg hp.chg).pos (by simp; omega)
            refine st_v (ov_indexR hadr3 rfl rfl Try.underlying26 sz5 (by omega)) rfl ?_
            refine st_v (ov_load1 rfl Try.underlying5 rfl (Cells.elem' hcl3 (28 + i) (by first | omega | (simp; omega) | (simp [*]; omega)) 0)) rfl ?_
            refine st_v (ov_field (q := 8) rfl Try.underlying25 rfl sz23 rfl) rfl ?_
            refine st_v (ov_indexA rfl rfl Try.underlying23 sz5 (by omega)) rfl ?_
            refine st_storeE 4 hp rfl rfl rfl (8 + i) (by first | omega | (simp; omega) | (simp [*]; omega)) rfl sz5 (fun w hp => ?_)
            refine st_nil ?_
            refine pn_then ?_
            refine sc_region ?_
            refine st_v (ov_move rfl) rfl ?_
            refine st_v (ov_move rfl) rfl ?_
            refine st_v (ov_move rfl) rfl ?_
            refine st_v (ov_add_n (a := 48) (b := i) rfl rfl (by omega)) rfl ?_
            obtain ⟨bb4, oo4, hadr4, hcl4⟩ := (h1.chg hp.chg).pos (by simp; omega)
            refine st_v (ov_indexR hadr4 rfl rfl Try.underlying26 sz5 (by omega)) rfl ?_
            refine st_v (ov_load1 rfl Try.underlying5 rfl (Cells.elem' hcl4 (48 + i) (by first | omega | (simp; omega) | (simp [*]; omega)) 0)) rfl ?_
            refine st_v (ov_field (q := 28) rfl Try.underlying25 rfl sz23 rfl) rfl ?_
            refine st_v (ov_indexA rfl rfl Try.underlying23 sz5 (by omega)) rfl ?_
            refine st_storeE 4 hp rfl rfl rfl (28 + i) (by first | omega | (simp; omega) | (simp [*]; omega)) rfl sz5 (fun w hp => ?_)
            refine st_nil ?_
            refine pn_block ?_
            refine pn_then ?_
            refine sc_region ?_
            refine st_v (ov_move rfl) rfl ?_
            refine st_v (ov_add_n (a := i) (b := 1) rfl rfl (by omega)) rfl ?_
            refine st_v (ov_assign rfl) rfl ?_
            refine st_nil ?_
            rw [mt2_set hbl i (by omega)] at hp
            refine pn_roundH1 (i + 1) hp (Sub.cons rfl (Sub.cons rfl (Sub.cons rfl (Sub.cons rfl (Sub.nil _))))) ?_ (LSub.cons rfl (LSub.cons rfl (LSub.nil _))) ?_
            · omega
            exact (by first | omega | (simp; done) | (simp; omega) | (simp [*]; omega))
          ·
            have hc := of_decide_eq_false hc
            refine sc_exit ?_
            refine pe_then ?_
            refine pe_then ?_
            refine pe_hit ?_
            refine pn_then ?_
            refine sc_seq ?_
            obtain rfl : i = 20 := by omega
            rw [mt2_all hbl] at hp
            have hml : ((b.drop 20).take 48).length = 48 := by simp; omega
            refine sc_region ?_
            refine st_v (ov_loadN rfl Try.underlying25 rfl (sz25.trans (by first | (simp; done) | (simp [*]; done) | (simp; omega))) (hp.cells' (t := 4) rfl)) rfl ?_
            refine st_storeA 2 hp rfl rfl rfl (by first | (simp; done) | (simp [*]; done) | (simp; omega) | (simp [*]; omega)) (sz25.trans (by first | (simp; done) | (simp [*]; done) | (simp; omega))) (one_all _) (fun w hp => ?_)
            refine st_v (ov_assign rfl) rfl ?_
            refine st_nil ?_
            refine pn_then ?_
            refine sc_ret ?_
            refine pr_rv2 rfl (rv_cells rfl Try.underlying25 rfl (sz25.trans (by first | (simp; done) | (simp [*]; done) | (simp; omega))) (hp.cells' (t := 2) rfl)) (rv_tmp rfl) ?_
            have hmh := meetH_ok hbl hme
            exact ⟨by rw [hme, hmh], hp.chg⟩
  ·
    have hb := of_decide_eq_false hb
    refine st_off (j := 4) rfl rfl rfl rfl ?_
    refine st_off (j := 4) rfl rfl rfl rfl ?_
    refine st_v (ov_pick_f rfl rfl) rfl ?_
    refine st_nil ?_
    refine pn_then ?_
    refine sc_false rfl ?_
    refine sc_exit ?_
    refine pe_then ?_
    refine pe_then ?_
    refine pe_hit ?_
    refine pn_then ?_
    refine sc_seq ?_
    refine sc_seq ?_
    refine sc_region ?_
    refine st_v (ov_move rfl) rfl ?_
    refine st_v (ov_len rfl Try.underlying26 rfl) rfl ?_
    refine st_v (ov_lss rfl rfl) rfl ?_
    refine st_nil ?_
    refine pn_then ?_
    refine sc_cond rfl (fun hc => ?_) (fun hc => ?_)
    ·
      have hc := of_decide_eq_true hc
      refine sc_seq ?_
      refine sc_region ?_
      refine st_v (ov_loadN rfl Try.underlying25 rfl (sz25.trans (by first | (simp; done) | (simp [*]; done) | (simp; omega))) (hp.cells' (t := 4) rfl)) rfl ?_
      refine st_storeA 2 hp rfl rfl rfl (by first | (simp; done) | (simp [*]; done) | (simp; omega) | (simp [*]; omega)) (sz25.trans (by first | (simp; done) | (simp [*]; done) | (simp; omega))) (one_all _) (fun w hp => ?_)
      refine st_v (ov_assign rfl) rfl ?_
      refine st_nil ?_
      refine pn_then ?_
      refine sc_ret ?_
      refine pr_then ?_
      refine pr_rv2 rfl (rv_cells rfl Try.underlying25 rfl (sz25.trans (by first | (simp; done) | (simp [*]; done) | (simp; omega))) (hp.cells' (t := 2) rfl)) (rv_tmp rfl) ?_
      have hme : meetE b = 101 := meet_short (by omega) (by rw [show min b.length 20 = i by omega]; exact ht)
      have hmh := meetH_bad (b := b) (by rw [hme]; decide)
      exact ⟨by rw [hme, hmh], hp.chg⟩
    ·
      have hc := of_decide_eq_false hc
      have hbl : 68 ≤ b.length := by omega
      obtain rfl : i = 20 := by omega
      have hme := meet_ok hbl ht
      have hml0 := mt_len hbl (i := 0) (by omega)
      refine sc_skip ?_
      refine pn_then ?_
      refine sc_seq ?_
      refine sc_seq ?_
      rw [← mt_zero b] at hp
      refine sc_region ?_
      refine st_v (ov_assign rfl) rfl ?_
      refine st_nil ?_
      refine pn_then ?_
      refine sc_block ?_
      refine sc_loopH1 (α := Nat) (kv := [(0, _), (2, _), (4, _)]) (kl := [(2, _)]) (fun i kv => (6, .int .i64 ((i : Nat) : Int)) :: kv) (fun i kl => (4, ⟨some b4, (mt b i).map B8, 25⟩) :: kl) (fun i => (i ≤ 8)) (fun i => 8 - i) 0 hp (Sub.cons rfl (Sub.cons rfl (Sub.cons rfl (Sub.cons rfl (Sub.nil _))))) (LSub.cons rfl (LSub.cons rfl (LSub.nil _))) ?_ ?_
      · exact (by first | omega | (simp; done) | (simp; omega) | (simp [*]; omega))
      intro i w hp hx
      have hi2 : i ≤ 8 := hx
      have hml := mt_len hbl (i := i) (by omega)
      refine sc_seq ?_
      refine sc_seq ?_
      refine sc_region ?_
      refine st_v (ov_move rfl) rfl ?_
      refine st_v (ov_lss rfl rfl) rfl ?_
      refine st_nil ?_
      refine pn_then ?_
      refine sc_cond rfl (fun hc => ?_) (fun hc => ?_)
      ·
        have hc := of_decide_eq_true hc
        refine sc_skip ?_
        refine pn_then ?_
        refine sc_seq ?_
        refine sc_block ?_
        refine sc_region ?_
        refine st_v (ov_move rfl) rfl ?_
        refine st_v (ov_move rfl) rfl ?_
        refine st_v (ov_move rfl) rfl ?_
        refine st_v (ov_add_n (a := 20) (b := i) rfl rfl (by omega)) rfl ?_
        obtain ⟨bb5, oo5, hadr5, hcl5⟩ := (h1.chg hp.chg).pos (by simp; omega)
        refine st_v (ov_indexR hadr5 rfl rfl Try.underlying26 sz5 (by omega)) rfl ?_
        refine st_v (ov_load1 rfl Try.underlying5 rfl (Cells.elem' hcl5 (20 + i) (by first | omega | (simp; omega) | (simp [*]; omega)) 0)) rfl ?_
        refine st_v (ov_field (q := 0) rfl Try.underlying25 rfl sz22 rfl) rfl ?_
        refine st_v (ov_indexA rfl rfl Try.underlying22 sz5 (by omega)) rfl ?_
        refine st_storeE 4 hp rfl rfl rfl (i) (by first | omega | (simp; omega) | (simp [*]; omega)) rfl sz5 (fun w hp => ?_)
        refine st_nil ?_
        refine pn_block ?_
        refine pn_then ?_
        refine sc_region ?_
        refine st_v (ov_move rfl) rfl ?_
        refine st_v (ov_add_n (a := i) (b := 1) rfl rfl (by omega)) rfl ?_
        refine st_v (ov_assign rfl) rfl ?_
        refine st_nil ?_
        rw [mt_set hbl i (by omega)] at hp
        refine pn_roundH1 (i + 1) hp (Sub.cons rfl (Sub.cons rfl (Sub.cons rfl (Sub.cons rfl (Sub.nil _))))) ?_ (LSub.cons rfl (LSub.cons rfl (LSub.nil _))) ?_
        · omega
        exact (by first | omega | (simp; done) | (simp; omega) | (simp [*]; omega))
      ·
        have hc := of_decide_eq_false hc
        refine sc_exit ?_
        refine pe_then ?_
        refine pe_then ?_
        refine pe_hit ?_
        refine pn_then ?_
        refine sc_seq ?_
        refine sc_seq ?_
        obtain rfl : i = 8 := by omega
        rw [mt2_zero b] at hp
        refine sc_region ?_
        refine st_v (ov_assign rfl) rfl ?_
        refine st_nil ?_
        refine pn_then ?_
        refine sc_block ?_
        refine sc_loopH1 (α := Nat) (kv := [(0, _), (2, _), (4, _)]) (kl := [(2, _)]) (fun i kv => (7, .int .i64 ((i : Nat) : Int)) :: kv) (fun i kl => (4, ⟨some b4, (mt2 b i).map B8, 25⟩) :: kl) (fun i => (i ≤ 20)) (fun i => 20 - i) 0 hp (Sub.cons rfl (Sub.cons rfl (Sub.cons rfl (Sub.cons rfl (Sub.nil _))))) (LSub.cons rfl (LSub.cons rfl (LSub.nil _))) ?_ ?_
        · exact (by first | omega | (simp; done) | (simp; omega) | (simp [*]; omega))
        intro i w hp hx
        have hi3 : i ≤ 20 := hx
        have hml := mt2_len hbl (i := i) (by omega)
        refine sc_seq ?_
        refine sc_seq ?_
        refine sc_region ?_
        refine st_v (ov_move rfl) rfl ?_
        refine st_v (ov_lss rfl rfl) rfl ?_
        refine st_nil ?_
        refine pn_then ?_
        refine sc_cond rfl (fun hc => ?_) (fun hc => ?_)
        ·
          have hc := of_decide_eq_true hc
          refine sc_skip ?_
          refine pn_then ?_
          refine sc_seq ?_
          refine sc_block ?_
          refine sc_seq ?_
          refine sc_region ?_
          refine st_v (ov_move rfl) rfl ?_
          refine st_v (ov_move rfl) rfl ?_
          refine st_v (ov_move rfl) rfl ?_
          refine st_v (ov_add_n (a := 28) (b := i) rfl rfl (by omega)) rfl ?_
          obtain ⟨bb6, oo6, hadr6, hcl6⟩ := (h1.chg hp.chg).pos (by simp; omega)
          refine st_v (ov_indexR hadr6 rfl rfl Try.underlying26 sz5 (by omega)) rfl ?_
          refine st_v (ov_load1 rfl Try.underlying5 rfl (Cells.elem' hcl6 (28 + i) (by first | omega | (simp; omega) | (simp [*]; omega)) 0)) rfl ?_
          refine st_v (ov_field (q := 8) rfl Try.underlying25 rfl sz23 rfl) rfl ?_
          refine st_v (ov_indexA rfl rfl Try.underlying23 sz5 (by omega)) rfl ?_
          refine st_storeE 4 hp rfl rfl rfl (8 + i) (by first | omega | (simp; omega) | (simp [*]; omega)) rfl sz5 (fun w hp => ?_)
          refine st_nil ?_
          refine pn_then ?_
          refine sc_region ?_
          refine st_v (ov_move rfl) rfl ?_
          refine st_v (ov_move rfl) rfl ?_
          refine st_v (ov_move rfl) rfl ?_
          refine st_v (ov_add_n (a := 48) (b := i) rfl rfl (by omega)) rfl ?_
          obtain ⟨bb7, oo7, hadr7, hcl7⟩ := (h1.chg hp.chg).pos (by simp; omega)
          refine st_v (ov_indexR hadr7 rfl rfl Try.underlying26 sz5 (by omega)) rfl ?_
          refine st_v (ov_load1 rfl Try.underlying5 rfl (Cells.elem' hcl7 (48 + i) (by first | omega | (simp; omega) | (simp [*]; omega)) 0)) rfl ?_
          refine st_v (ov_field (q := 28) rfl Try.underlying25 rfl sz23 rfl) rfl ?_
          refine st_v (ov_indexA rfl rfl Try.underlying23 sz5 (by omega)) rfl ?_
          refine st_storeE 4 hp rfl rfl rfl (28 + i) (by first | omega | (simp; omega) | (simp [*]; omega)) rfl sz5 (fun w hp => ?_)
          refine st_nil ?_
          refine pn_block ?_
          refine pn_then ?_
          refine sc_region ?_
          refine st_v (ov_move rfl) rfl ?_
          refine st_v (ov_add_n (a := i) (b := 1) rfl rfl (by omega)) rfl ?_
          refine st_v (ov_assign rfl) rfl ?_
          refine st_nil ?_
          rw [mt2_set hbl i (by omega)] at hp
          refine pn_roundH1 (i + 1) hp (Sub.cons rfl (Sub.cons rfl (Sub.cons rfl (Sub.cons rfl (Sub.nil _))))) ?_ (LSub.cons rfl (LSub.cons rfl (LSub.nil _))) ?_
          · omega
          exact (by first | omega | (simp; done) | (simp; omega) | (simp [*]; omega))
        ·
          have hc := of_decide_eq_false hc
          refine sc_exit ?_
          refine pe_then ?_
          refine pe_then ?_
          refine pe_hit ?_
          refine pn_then ?_
          refine sc_seq ?_
          obtain rfl : i = 20 := by omega
          rw [mt2_all hbl] at hp
          have hml : ((b.drop 20).take 48).length = 48 := by simp; omega
          refine sc_region ?_
          refine st_v (ov_loadN rfl Try.underlying25 rfl (sz25.trans (by first | (simp; done) | (simp [*]; done) | (simp; omega))) (hp.cells' (t := 4) rfl)) rfl ?_
          refine st_storeA 2 hp rfl rfl rfl (by first | (simp; done) | (simp [*]; done) | (simp; omega) | (simp [*]; omega)) (sz25.trans (by first | (simp; done) | (simp [*]; done) | (simp; omega))) (one_all _) (fun w hp => ?_)
          refine st_v (ov_assign rfl) rfl ?_
          refine st_nil ?_
          refine pn_then ?_
          refine sc_ret ?_
          refine pr_rv2 rfl (rv_cells rfl Try.underlying25 rfl (sz25.trans (by first | (simp; done) | (simp [*]; done) | (simp; omega))) (hp.cells' (t := 2) rfl)) (rv_tmp rfl) ?_
          have hmh := meetH_ok hbl hme
          exact ⟨by rw [hme, hmh], hp.chg⟩

set_option maxRecDepth 100000 in
theorem law_meets (b : List UInt8) (ao : Option Addr) (ca : Nat) (w0 : World) (h1 : Rd w0 ao (b.map B8)) (hca : b.length ≤ ca) (hz : b.length ≤ 140737488351232) :
    Calls Try.prog 5 #[.slice ao b.length ca] w0 fun e w' => e = .returned (.bool true) ∧ Chg [] w0 w' := by
  refine calls_in Try.func5 Try.ntmps5 rfl rfl ?_
  have hp := Hp.start w0
  have hmL := (meetH b).2
  refine sc_seq ?_
  refine sc_region ?_
  refine st_v (ov_assign rfl) rfl ?_
  refine st_nil ?_
  refine pn_then ?_
  refine sc_seq ?_
  refine sc_region ?_
  refine st_v (ov_move rfl) rfl ?_
  refine st_call pl15 rfl rfl rfl (copied_walk b _ _ _ (h1.chg hp.chg) (by first | rfl | omega | (simp; done) | (simp; omega) | (simp [*]; omega)) (by omega)) ?_
  rintro _ w ⟨g9, rfl, hm9⟩
  refine ⟨_, rfl, ?_⟩
  replace hp := hp.got 9 hm9
  have hc9 := hm9.2
  clear hm9
  refine st_v (ov_assign rfl) rfl ?_
  refine st_nil ?_
  refine pn_then ?_
  refine sc_seq ?_
  refine sc_region ?_
  refine st_v (ov_move rfl) rfl ?_
  refine st_call pl18 rfl rfl rfl (meet_walk b _ _ _ (Rd.own (hp.own 9 _ rfl)) rfl (gcap1 hc9) hz) ?_
  rintro _ w ⟨rfl, hch⟩
  refine ⟨_, rfl, ?_⟩
  replace hp := hp.call hch
  clear hch
  refine st_v (ov_move rfl) rfl ?_
  refine st_v (ov_extract rfl rfl) rfl ?_
  refine st_v (ov_extract rfl rfl) rfl ?_
  refine st_alloc 4 ((List.replicate 48 (0 : UInt8)).map B8) hp rfl zl25 rfl (fun b4 w hp => ?_)
  refine st_storeA 4 hp rfl rfl rfl (by first | (simp; done) | (simp [*]; done) | (simp; omega) | (simp [*]; omega)) (sz25.trans (by first | (simp; done) | (simp [*]; done) | (simp; omega))) (one_all _) (fun w hp => ?_)
  refine st_v (ov_assign rfl) rfl ?_
  refine st_nil ?_
  refine pn_then ?_
  refine sc_seq ?_
  refine sc_region ?_
  refine st_v (ov_move rfl) rfl ?_
  refine st_call pl19 rfl rfl rfl (meetr_walk b _ _ _ (h1.chg hp.chg) rfl hca hz) ?_
  rintro _ w ⟨rfl, hch⟩
  refine ⟨_, rfl, ?_⟩
  replace hp := hp.call hch
  clear hch
  refine st_v (ov_move rfl) rfl ?_
  refine st_v (ov_extract rfl rfl) rfl ?_
  refine st_v (ov_extract rfl rfl) rfl ?_
  refine st_alloc 6 ((List.replicate 48 (0 : UInt8)).map B8) hp rfl zl25 rfl (fun b6 w hp => ?_)
  refine st_storeA 6 hp rfl rfl rfl (by first | (simp; done) | (simp [*]; done) | (simp; omega) | (simp [*]; omega)) (sz25.trans (by first | (simp; done) | (simp [*]; done) | (simp; omega))) (one_all _) (fun w hp => ?_)
  refine st_v (ov_assign rfl) rfl ?_
  refine st_nil ?_
  refine pn_then ?_
  refine sc_seq ?_
  refine sc_region ?_
  refine st_v (ov_move rfl) rfl ?_
  refine st_v (ov_move rfl) rfl ?_
  refine st_v (v := .bool true) ((ov_eql rfl rfl).is ((by simp))) rfl ?_
  refine st_v (ov_move rfl) rfl ?_
  refine st_on (j := 3) rfl rfl ?_
  refine st_v (ov_loadN rfl Try.underlying25 rfl (sz25.trans (by first | (simp; done) | (simp [*]; done) | (simp; omega))) (hp.cells' (t := 4) rfl)) rfl ?_
  refine st_on (j := 3) rfl rfl ?_
  refine st_v (ov_loadN rfl Try.underlying25 rfl (sz25.trans (by first | (simp; done) | (simp [*]; done) | (simp; omega))) (hp.cells' (t := 6) rfl)) rfl ?_
  refine st_on (j := 3) rfl rfl ?_
  refine st_v (v := .bool true) ((ov_eqlF Try.underlying25 rfl fl25 (sz25.trans (by first | (simp; done) | (simp [*]; done) | (simp; omega))) gd25 rfl rfl (Like.map _ _ rfl)).is ((by simp [eqv_self]))) rfl ?_
  refine st_v (ov_pick_t rfl rfl) rfl ?_
  refine st_v (ov_move rfl) rfl ?_
  refine st_on (j := 8) rfl rfl ?_
  refine st_v (ov_move rfl) rfl ?_
  refine st_on (j := 8) rfl rfl ?_
  refine st_v (ov_move rfl) rfl ?_
  refine st_on (j := 8) rfl rfl ?_
  refine st_call pl14 rfl rfl rfl (same_walk_eq b _ _ _ _ _ (Rd.own (hp.own 9 _ rfl)) (h1.chg hp.chg) (by first | rfl | omega | (simp; done) | (simp; omega) | (simp [*]; omega)) (by first | rfl | omega | (simp; done) | (simp; omega) | (simp [*]; omega)) (by first | omega | (simp; omega))) ?_
  rintro _ w ⟨rfl, hch⟩
  refine ⟨_, rfl, ?_⟩
  replace hp := hp.call hch
  clear hch
  refine st_v (ov_pick_t rfl rfl) rfl ?_
  refine st_v (ov_assign rfl) rfl ?_
  refine st_nil ?_
  refine pn_then ?_
  refine sc_ret ?_
  refine pr_one rfl rfl ?_
  exact ⟨rfl, hp.chg⟩

end Go.Proofs.Ythebbenfmoknbaa
