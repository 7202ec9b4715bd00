/-
  The walks of piece, LayerRoot, of the law TreeLayerRoots.
-/
import Derived.Test.YtjdolgfhcjnniaaDoorLayB
namespace Go.Proofs.YtjdolgfhcjnniaaDoor
open Go Go.RowKit

set_option maxRecDepth 100000 in
theorem piece_walk (B W p : Int) (hpr : -9223372036854775808 ≤ p ∧ p ≤ 9223372036854775807) (w0 : World) :
    Calls Tryd.prog 74 #[sca B W, .int .i64 p] w0 fun e w' => e = .returned (.int .i64 (pieceE B W p)) ∧ Chg [] w0 w' := by
  refine calls_in Tryd.func74 Tryd.ntmps74 rfl rfl ?_
  have hp := Hp.start w0
  refine sc_seq ?_
  refine sc_region ?_
  refine st_box 2 hp rfl rfl rfl (fun b2 w hp => ?_)
  refine st_v (ov_assign rfl) rfl ?_
  refine st_nil ?_
  refine pn_then ?_
  refine sc_seq ?_
  refine sc_seq ?_
  refine sc_region ?_
  refine st_v (ov_loadN rfl Tryd.underlying23 rfl (sz23.trans rfl) (hp.cells' (t := 2) rfl)) rfl ?_
  refine st_call pl39 rfl rfl rfl (good_walk B W _) ?_
  rintro _ w ⟨rfl, hch⟩
  refine ⟨_, rfl, ?_⟩
  replace hp := hp.call hch
  clear hch
  refine st_v (ov_assign rfl) rfl ?_
  refine st_nil ?_
  refine pn_then ?_
  refine sc_seq ?_
  refine sc_region ?_
  refine st_v (ov_move rfl) rfl ?_
  refine st_v (ov_neq rfl rfl) rfl ?_
  refine st_nil ?_
  refine pn_then ?_
  refine sc_cond rfl (fun hc => ?_) (fun hc => ?_)
  ·
    have hc := of_decide_eq_true hc
    refine sc_seq ?_
    refine sc_region ?_
    refine st_v (ov_move rfl) rfl ?_
    refine st_v (ov_assign rfl) rfl ?_
    refine st_nil ?_
    refine pn_then ?_
    refine sc_ret ?_
    refine pr_then ?_
    refine pr_one rfl rfl ?_
    exact ⟨by unfold pieceE; rw [if_pos (by assumption)], hp.chg⟩
  ·
    have hc := of_decide_eq_false hc
    have hg0 : goodNo B W = 0 := by omega
    obtain ⟨k, hk8, hB⟩ := good_pow hg0
    obtain ⟨m, hm⟩ : ∃ m, m = 2 ^ (6 + k) := ⟨_, rfl⟩
    rw [← hm] at hB
    subst hB
    have hmb : 64 ≤ m ∧ m ≤ 16384 := by obtain ⟨m2, h9, h8⟩ := good_block hg0; omega
    refine sc_skip ?_
    refine pn_then ?_
    refine sc_seq ?_
    refine sc_region ?_
    refine st_v (ov_move rfl) rfl ?_
    refine st_v (ov_field (q := 0) rfl Tryd.underlying23 rfl sz3 rfl) rfl ?_
    refine st_v (ov_load1 rfl Tryd.underlying3 rfl ((hp.cells' (t := 2) rfl).at 0 (by simp) rfl)) rfl ?_
    refine st_v (ov_quo rfl rfl (by omega)) rfl ?_
    refine st_v (ov_assign rfl) rfl ?_
    refine st_nil ?_
    refine pn_then ?_
    refine sc_seq ?_
    refine sc_seq ?_
    refine sc_region ?_
    refine st_v (ov_move rfl) rfl ?_
    refine st_v (ov_field (q := 0) rfl Tryd.underlying23 rfl sz3 rfl) rfl ?_
    refine st_v (ov_load1 rfl Tryd.underlying3 rfl ((hp.cells' (t := 2) rfl).at 0 (by simp) rfl)) rfl ?_
    refine st_v (ov_lss rfl rfl) rfl ?_
    refine st_v (ov_move rfl) rfl ?_
    refine st_split (j := 20) rfl (fun hb => ?_) (fun hb => ?_)
    ·
      have hb := of_decide_eq_true hb
      refine st_off (j := 4) rfl rfl rfl rfl ?_
      refine st_off (j := 4) rfl rfl rfl rfl ?_
      refine st_off (j := 4) rfl rfl rfl rfl ?_
      refine st_off (j := 4) rfl rfl rfl rfl ?_
      refine st_off (j := 4) rfl rfl rfl rfl ?_
      refine st_v (ov_pick_t rfl rfl) rfl ?_
      refine st_v (ov_move rfl) rfl ?_
      refine st_off (j := 11) rfl rfl rfl rfl ?_
      refine st_off (j := 11) rfl rfl rfl rfl ?_
      refine st_v (ov_pick_t rfl rfl) rfl ?_
      refine st_nil ?_
      refine pn_then ?_
      refine sc_true rfl ?_
      refine sc_seq ?_
      refine sc_region ?_
      refine st_v (ov_assign rfl) rfl ?_
      refine st_nil ?_
      refine pn_then ?_
      refine sc_ret ?_
      refine pr_then ?_
      refine pr_one rfl rfl ?_
      exact ⟨by unfold pieceE; rw [if_neg (by assumption), Int.toNat_natCast, if_neg (by rw [piece_lo (by omega)]; decide)], hp.chg⟩
    ·
      have hb := of_decide_eq_false hb
      obtain ⟨q, rfl⟩ : ∃ q : Nat, p = (q : Int) := ⟨p.toNat, by omega⟩
      refine st_on (j := 4) rfl rfl ?_
      refine st_v (ov_move rfl) rfl ?_
      refine st_on (j := 4) rfl rfl ?_
      refine st_v (ov_move rfl) rfl ?_
      refine st_on (j := 4) rfl rfl ?_
      refine st_v (ov_sub_n (a := q) (b := 1) rfl rfl (by omega)) rfl ?_
      refine st_on (j := 4) rfl rfl ?_
      refine st_v (ov_and_n (a := q) (b := q - 1) rfl rfl (by omega)) rfl ?_
      refine st_on (j := 4) rfl rfl ?_
      refine st_v (ov_neq rfl rfl) rfl ?_
      refine st_v (ov_pick_f rfl rfl) rfl ?_
      refine st_v (ov_move rfl) rfl ?_
      refine st_split (j := 27) rfl (fun hb => ?_) (fun hb => ?_)
      ·
        have hb := of_decide_eq_true hb
        refine st_off (j := 11) rfl rfl rfl rfl ?_
        refine st_off (j := 11) rfl rfl rfl rfl ?_
        refine st_v (ov_pick_t rfl rfl) rfl ?_
        refine st_nil ?_
        refine pn_then ?_
        refine sc_true rfl ?_
        refine sc_seq ?_
        refine sc_region ?_
        refine st_v (ov_assign rfl) rfl ?_
        refine st_nil ?_
        refine pn_then ?_
        refine sc_ret ?_
        refine pr_then ?_
        refine pr_one rfl rfl ?_
        exact ⟨by unfold pieceE; rw [if_neg (by assumption), Int.toNat_natCast, if_neg (by rw [piece_odd hm (by omega)]; decide)], hp.chg⟩
      ·
        have hb := of_decide_eq_false hb
        refine st_on (j := 11) rfl rfl ?_
        refine st_v (v := .int .i64 ((q / m : Nat) : Int)) ((ov_move rfl).is (congrArg (Value.int .i64) (quo_nat (by omega)))) rfl ?_
        refine st_on (j := 11) rfl rfl ?_
        refine st_v (ov_gtr rfl rfl) rfl ?_
        refine st_v (ov_pick_f rfl rfl) rfl ?_
        refine st_nil ?_
        refine pn_then ?_
        refine sc_cond rfl (fun hc => ?_) (fun hc => ?_)
        ·
          have hc := of_decide_eq_true hc
          refine sc_seq ?_
          refine sc_region ?_
          refine st_v (ov_assign rfl) rfl ?_
          refine st_nil ?_
          refine pn_then ?_
          refine sc_ret ?_
          refine pr_then ?_
          refine pr_one rfl rfl ?_
          exact ⟨by unfold pieceE; rw [if_neg (by assumption), Int.toNat_natCast, if_neg (by rw [piece_many (by omega) (by omega)]; decide)], hp.chg⟩
        ·
          have hc := of_decide_eq_false hc
          refine sc_skip ?_
          refine pn_then ?_
          refine sc_seq ?_
          refine sc_region ?_
          refine st_v (ov_assign rfl) rfl ?_
          refine st_nil ?_
          refine pn_then ?_
          refine sc_ret ?_
          refine pr_one rfl rfl ?_
          exact ⟨by unfold pieceE; rw [if_neg (by assumption), Int.toNat_natCast, if_pos (piece_yes hm (by omega) (by omega) (by omega))], hp.chg⟩

set_option maxRecDepth 100000 in
theorem pieceq_walk (B W p : Int) (hpr : -9223372036854775808 ≤ p ∧ p ≤ 9223372036854775807) (w0 : World) :
    Calls Tryd.prog 73 #[sca B W, .int .i64 p] w0 fun e w' => e = .returned (.int .i64 (pieceE B W p)) ∧ Chg [] w0 w' := by
  refine calls_in Tryd.func73 Tryd.ntmps73 rfl rfl ?_
  have hp := Hp.start w0
  refine sc_seq ?_
  refine sc_region ?_
  refine st_box 2 hp rfl rfl rfl (fun b2 w hp => ?_)
  refine st_v (ov_assign rfl) rfl ?_
  refine st_nil ?_
  refine pn_then ?_
  refine sc_seq ?_
  refine sc_region ?_
  refine st_v (ov_loadN rfl Tryd.underlying23 rfl (sz23.trans rfl) (hp.cells' (t := 2) rfl)) rfl ?_
  refine st_call pl56 rfl rfl rfl (goodr_walk B W _) ?_
  rintro _ w ⟨rfl, hch⟩
  refine ⟨_, rfl, ?_⟩
  replace hp := hp.call hch
  clear hch
  refine st_v (ov_assign rfl) rfl ?_
  refine st_nil ?_
  refine pn_then ?_
  refine sc_seq ?_
  refine sc_seq ?_
  refine sc_region ?_
  refine st_v (ov_move rfl) rfl ?_
  refine st_v (ov_neq rfl rfl) rfl ?_
  refine st_nil ?_
  refine pn_then ?_
  refine sc_cond rfl (fun hc => ?_) (fun hc => ?_)
  ·
    have hc := of_decide_eq_true hc
    refine sc_seq ?_
    refine sc_region ?_
    refine st_v (ov_move rfl) rfl ?_
    refine st_v (ov_assign rfl) rfl ?_
    refine st_nil ?_
    refine pn_then ?_
    refine sc_ret ?_
    refine pr_then ?_
    refine pr_one rfl rfl ?_
    exact ⟨by unfold pieceE; rw [if_pos (by assumption)], hp.chg⟩
  ·
    have hc := of_decide_eq_false hc
    have hg0 : goodNo B W = 0 := by omega
    obtain ⟨m, rfl, hm1, hm2⟩ := good_block hg0
    refine sc_skip ?_
    refine pn_then ?_
    refine sc_seq ?_
    refine sc_seq ?_
    refine sc_region ?_
    refine st_v (ov_assign rfl) rfl ?_
    refine st_nil ?_
    refine pn_then ?_
    refine sc_block ?_
    refine sc_loopH2 (α := Nat) (β := Nat) (kv := [(1, _), (2, _)]) (kl := [(2, _)]) (fun j P kv => (6, .int .i64 ((P : Nat) : Int)) :: kv) (fun j P kl => kl) (fun j P => (P = 2 ^ j) ∧ (j ≤ 11) ∧ (∀ i, i < j → p ≠ ((2 ^ i * m : Nat) : Int))) (fun j P => 11 - j) 0 1 hp (Sub.cons rfl (Sub.cons rfl (Sub.cons rfl (Sub.nil _)))) (LSub.cons rfl (LSub.nil _)) ?_ ?_
    · exact ⟨rfl, (by first | omega | (simp; done) | (simp; omega) | (simp [*]; omega)), (fun i hi => absurd hi (by omega))⟩
    intro j P w hp hx
    obtain ⟨hP, hj, hno⟩ := hx
    refine sc_seq ?_
    refine sc_seq ?_
    refine sc_region ?_
    refine st_v (ov_move rfl) rfl ?_
    refine st_v (ov_leq rfl rfl) rfl ?_
    refine st_nil ?_
    refine pn_then ?_
    refine sc_cond rfl (fun hc => ?_) (fun hc => ?_)
    ·
      have hc := of_decide_eq_true hc
      have hj10 : j ≤ 10 := pow_le_of (by rw [← hP]; exact (by omega : P ≤ 1024))
      have hPm : P * m ≤ 1024 * 16384 := Nat.mul_le_mul (by omega) hm2
      refine sc_skip ?_
      refine pn_then ?_
      refine sc_seq ?_
      refine sc_block ?_
      refine sc_seq ?_
      refine sc_region ?_
      refine st_v (ov_move rfl) rfl ?_
      refine st_v (ov_move rfl) rfl ?_
      refine st_v (ov_field (q := 0) rfl Tryd.underlying23 rfl sz3 rfl) rfl ?_
      refine st_v (ov_load1 rfl Tryd.underlying3 rfl ((hp.cells' (t := 2) rfl).at 0 (by simp) rfl)) rfl ?_
      refine st_v (ov_mul_n (a := P) (b := m) rfl rfl (by omega)) rfl ?_
      refine st_v (ov_eql rfl rfl) rfl ?_
      refine st_nil ?_
      refine pn_then ?_
      refine sc_cond rfl (fun hc => ?_) (fun hc => ?_)
      ·
        have hc := of_decide_eq_true hc
        refine sc_seq ?_
        refine sc_region ?_
        refine st_v (ov_assign rfl) rfl ?_
        refine st_nil ?_
        refine pn_then ?_
        refine sc_ret ?_
        refine pr_block ?_
        refine pr_then ?_
        refine pr_then ?_
        refine pr_block ?_
        refine pr_then ?_
        refine pr_one rfl rfl ?_
        exact ⟨by unfold pieceE; rw [if_neg (by assumption), Int.toNat_natCast, if_pos (pieceOk_iff.2 ⟨j, hj10, by rw [← hP]; exact hc⟩)], hp.chg⟩
      ·
        have hc := of_decide_eq_false hc
        refine sc_skip ?_
        refine pn_block ?_
        refine pn_then ?_
        refine sc_region ?_
        refine st_v (ov_move rfl) rfl ?_
        refine st_v (ov_mul_n (a := 2) (b := P) rfl rfl (by omega)) rfl ?_
        refine st_v (ov_assign rfl) rfl ?_
        refine st_nil ?_
        refine pn_roundH2 (j + 1) (2 * P) hp (Sub.cons rfl (Sub.cons rfl (Sub.cons rfl (Sub.nil _)))) ?_ (LSub.cons rfl (LSub.nil _)) ?_
        · omega
        exact ⟨(by rw [hP, Nat.pow_succ, Nat.mul_comm]), (by first | omega | (simp; done) | (simp; omega) | (simp [*]; omega)), (fun i hi => by rcases Nat.lt_or_ge i j with h9 | h9; exact hno i h9; obtain rfl : i = j := (by omega); rw [← hP]; exact hc)⟩
    ·
      have hc := of_decide_eq_false hc
      refine sc_exit ?_
      refine pe_then ?_
      refine pe_then ?_
      refine pe_hit ?_
      refine pn_then ?_
      refine sc_seq ?_
      refine sc_region ?_
      refine st_v (ov_assign rfl) rfl ?_
      refine st_nil ?_
      refine pn_then ?_
      refine sc_ret ?_
      refine pr_one rfl rfl ?_
      have hj11 : j = 11 := by rcases Nat.lt_or_ge j 11 with h9 | h9; exfalso; have h8 : 2 ^ j ≤ 2 ^ 10 := Nat.pow_le_pow_right (by omega) (by omega); rw [← hP] at h8; omega; omega
      exact ⟨by unfold pieceE; rw [if_neg (by assumption), Int.toNat_natCast, if_neg (fun h9 => by obtain ⟨i, hi, he⟩ := pieceOk_iff.1 h9; exact hno i (by omega) he)], hp.chg⟩

set_option maxRecDepth 100000 in
theorem LayerRoot_walk (B W p fl : Int) (hpr : -9223372036854775808 ≤ p ∧ p ≤ 9223372036854775807) (hfl : -9223372036854775808 ≤ fl ∧ fl ≤ 9223372036854775807) (row : List Hs) {nr : Nat} (ao : Option Addr) (ca : Nat) (w0 : World) (h1 : Rd w0 ao (row.flatMap hcs)) (hr : row.length = nr) (hz : row.length ≤ 281474976710656) (hk : Cells w0 1 0 (kL.map B32)) (hf : Cells w0 0 0 (fL.map B32)) :
    Calls Tryd.prog 31 #[sca B W, .int .i64 p, .int .i64 fl, .slice ao nr ca] w0 fun e w' => e = .returned (.tuple #[.agg (hcs (lrV B W p fl row)).toArray, .int .i64 (lrE B W p fl row.length)]) ∧ Chg [] w0 w' := by
  refine calls_in Tryd.func31 Tryd.ntmps31 rfl rfl ?_
  have hp := Hp.start w0
  subst hr
  refine sc_seq ?_
  refine sc_region ?_
  refine st_box 4 hp rfl rfl rfl (fun b4 w hp => ?_)
  refine st_alloc 8 (hcs hz0) hp rfl zl34 rfl (fun b8 w hp => ?_)
  refine st_v (ov_assign rfl) rfl ?_
  refine st_nil ?_
  refine pn_then ?_
  refine sc_seq ?_
  refine sc_seq ?_
  refine sc_region ?_
  refine st_v (ov_loadN rfl Tryd.underlying23 rfl (sz23.trans rfl) (hp.cells' (t := 4) rfl)) rfl ?_
  refine st_v (ov_move rfl) rfl ?_
  refine st_call pl74 rfl rfl rfl (piece_walk B W p hpr _) ?_
  rintro _ w ⟨rfl, hch⟩
  refine ⟨_, rfl, ?_⟩
  replace hp := hp.call hch
  clear hch
  refine st_v (ov_assign rfl) rfl ?_
  refine st_nil ?_
  refine pn_then ?_
  refine sc_seq ?_
  refine sc_region ?_
  refine st_v (ov_move rfl) rfl ?_
  refine st_v (ov_neq rfl rfl) rfl ?_
  refine st_nil ?_
  refine pn_then ?_
  refine sc_cond rfl (fun hc => ?_) (fun hc => ?_)
  ·
    have hc := of_decide_eq_true hc
    refine sc_seq ?_
    refine sc_region ?_
    refine st_v (ov_buildA (cells := hcs hz0) rfl Tryd.underlying34 zl34 sz5 (by kernel_rfl)) rfl ?_
    refine st_v (ov_move rfl) rfl ?_
    refine st_storeA 8 hp rfl rfl rfl (by simp [hcs_len]) (sz34.trans (by simp [hcs_len])) (hcs_one _) (fun w hp => ?_)
    refine st_v (ov_assign rfl) rfl ?_
    refine st_nil ?_
    refine pn_then ?_
    refine sc_ret ?_
    refine pr_then ?_
    refine pr_rv2 rfl (rv_cells rfl Tryd.underlying34 rfl (sz34.trans (by simp [hcs_len])) (hp.cells' (t := 8) rfl)) (rv_tmp rfl) ?_
    have hE : lrE B W p fl row.length = pieceE B W p := by unfold lrE; rw [if_pos (by assumption)]
    have hV : lrV B W p fl row = hz0 := by unfold lrV; rw [hE, if_neg (by first | assumption | decide)]
    exact ⟨by rw [hE, hV]; first | done | rfl, hp.chg⟩
  ·
    have hc := of_decide_eq_false hc
    have hp0 : pieceE B W p = 0 := by omega
    obtain ⟨hg0, m, j, rfl, hm1, hm2, hj, hpq⟩ := pieceE_ok hp0
    obtain ⟨q, hq⟩ : ∃ q, q = 2 ^ j * m := ⟨_, rfl⟩
    rw [← hq] at hpq
    subst hpq
    have hqb : q ≤ 1024 * 16384 := by rw [hq]; exact Nat.mul_le_mul (show 2 ^ j ≤ 2 ^ 10 from Nat.pow_le_pow_right (by omega) hj) hm2
    have hqm : m ≤ q := by rw [hq]; exact Nat.le_mul_of_pos_left m (Nat.two_pow_pos j)
    have hqd := piece_div hq (by omega)
    have hqbit := piece_bit hq (by omega)
    have hpj : 2 ^ j ≤ 1024 := show 2 ^ j ≤ 2 ^ 10 from Nat.pow_le_pow_right (by omega) hj
    have hpj0 := Nat.two_pow_pos j
    refine sc_skip ?_
    refine pn_then ?_
    refine sc_seq ?_
    refine sc_seq ?_
    refine sc_region ?_
    refine st_v (ov_move rfl) rfl ?_
    refine st_v (ov_move rfl) rfl ?_
    refine st_v (ov_leq rfl rfl) rfl ?_
    refine st_v (ov_move rfl) rfl ?_
    refine st_split (j := 21) rfl (fun hb => ?_) (fun hb => ?_)
    ·
      have hb := of_decide_eq_true hb
      refine st_off (j := 3) rfl rfl rfl rfl ?_
      refine st_off (j := 3) rfl rfl rfl rfl ?_
      refine st_v (ov_pick_t rfl rfl) rfl ?_
      refine st_v (ov_move rfl) rfl ?_
      refine st_off (j := 7) rfl rfl rfl rfl ?_
      refine st_off (j := 7) rfl rfl rfl rfl ?_
      refine st_off (j := 7) rfl rfl rfl rfl ?_
      refine st_off (j := 7) rfl rfl rfl rfl ?_
      refine st_off (j := 7) rfl rfl rfl rfl ?_
      refine st_off (j := 7) rfl rfl rfl rfl ?_
      refine st_off (j := 7) rfl rfl rfl rfl ?_
      refine st_off (j := 7) rfl rfl rfl rfl ?_
      refine st_off (j := 7) rfl rfl rfl rfl ?_
      refine st_v (ov_pick_t rfl rfl) rfl ?_
      refine st_nil ?_
      refine pn_then ?_
      refine sc_true rfl ?_
      refine sc_seq ?_
      refine sc_region ?_
      refine st_v (ov_buildA (cells := hcs hz0) rfl Tryd.underlying34 zl34 sz5 (by kernel_rfl)) rfl ?_
      refine st_storeA 8 hp rfl rfl rfl (by simp [hcs_len]) (sz34.trans (by simp [hcs_len])) (hcs_one _) (fun w hp => ?_)
      refine st_v (ov_assign rfl) rfl ?_
      refine st_nil ?_
      refine pn_then ?_
      refine sc_ret ?_
      refine pr_then ?_
      refine pr_rv2 rfl (rv_cells rfl Tryd.underlying34 rfl (sz34.trans (by simp [hcs_len])) (hp.cells' (t := 8) rfl)) (rv_tmp rfl) ?_
      have hE : lrE (m : Int) W (q : Int) fl row.length = 64 := by unfold lrE; rw [if_neg (by assumption), if_pos ?_]; first | (refine .inl ?_; omega) | (refine .inr (.inl ?_); omega) | (refine .inr (.inr ?_); rw [Int.toNat_natCast, Int.toNat_natCast]; omega)
      have hV : lrV (m : Int) W (q : Int) fl row = hz0 := by unfold lrV; rw [hE, if_neg (by first | assumption | decide)]
      exact ⟨by rw [hE, hV]; first | done | rfl, hp.chg⟩
    ·
      have hb := of_decide_eq_false hb
      refine st_on (j := 3) rfl rfl ?_
      refine st_v (ov_move rfl) rfl ?_
      refine st_on (j := 3) rfl rfl ?_
      refine st_v (ov_gtr rfl rfl) rfl ?_
      refine st_v (ov_pick_f rfl rfl) rfl ?_
      refine st_v (ov_move rfl) rfl ?_
      refine st_split (j := 25) rfl (fun hb => ?_) (fun hb => ?_)
      ·
        have hb := of_decide_eq_true hb
        refine st_off (j := 7) rfl rfl rfl rfl ?_
        refine st_off (j := 7) rfl rfl rfl rfl ?_
        refine st_off (j := 7) rfl rfl rfl rfl ?_
        refine st_off (j := 7) rfl rfl rfl rfl ?_
        refine st_off (j := 7) rfl rfl rfl rfl ?_
        refine st_off (j := 7) rfl rfl rfl rfl ?_
        refine st_off (j := 7) rfl rfl rfl rfl ?_
        refine st_off (j := 7) rfl rfl rfl rfl ?_
        refine st_off (j := 7) rfl rfl rfl rfl ?_
        refine st_v (ov_pick_t rfl rfl) rfl ?_
        refine st_nil ?_
        refine pn_then ?_
        refine sc_true rfl ?_
        refine sc_seq ?_
        refine sc_region ?_
        refine st_v (ov_buildA (cells := hcs hz0) rfl Tryd.underlying34 zl34 sz5 (by kernel_rfl)) rfl ?_
        refine st_storeA 8 hp rfl rfl rfl (by simp [hcs_len]) (sz34.trans (by simp [hcs_len])) (hcs_one _) (fun w hp => ?_)
        refine st_v (ov_assign rfl) rfl ?_
        refine st_nil ?_
        refine pn_then ?_
        refine sc_ret ?_
        refine pr_then ?_
        refine pr_rv2 rfl (rv_cells rfl Tryd.underlying34 rfl (sz34.trans (by simp [hcs_len])) (hp.cells' (t := 8) rfl)) (rv_tmp rfl) ?_
        have hE : lrE (m : Int) W (q : Int) fl row.length = 64 := by unfold lrE; rw [if_neg (by assumption), if_pos ?_]; first | (refine .inl ?_; omega) | (refine .inr (.inl ?_); omega) | (refine .inr (.inr ?_); rw [Int.toNat_natCast, Int.toNat_natCast]; omega)
        have hV : lrV (m : Int) W (q : Int) fl row = hz0 := by unfold lrV; rw [hE, if_neg (by first | assumption | decide)]
        exact ⟨by rw [hE, hV]; first | done | rfl, hp.chg⟩
      ·
        have hb := of_decide_eq_false hb
        obtain ⟨u, rfl⟩ : ∃ u : Nat, fl = (u : Int) := ⟨fl.toNat, by omega⟩
        have hdl := Nat.div_le_self (u + q - 1) q
        refine st_on (j := 7) rfl rfl ?_
        refine st_v (ov_move rfl) rfl ?_
        refine st_on (j := 7) rfl rfl ?_
        refine st_v (ov_len rfl Tryd.underlying26 rfl) rfl ?_
        refine st_on (j := 7) rfl rfl ?_
        refine st_v (ov_move rfl) rfl ?_
        refine st_on (j := 7) rfl rfl ?_
        refine st_v (ov_move rfl) rfl ?_
        refine st_on (j := 7) rfl rfl ?_
        refine st_v (ov_add_n (a := u) (b := q) rfl rfl (by omega)) rfl ?_
        refine st_on (j := 7) rfl rfl ?_
        refine st_v (ov_sub_n (a := u + q) (b := 1) rfl rfl (by omega)) rfl ?_
        refine st_on (j := 7) rfl rfl ?_
        refine st_v (ov_move rfl) rfl ?_
        refine st_on (j := 7) rfl rfl ?_
        refine st_v (ov_quo_n (a := (u + q) - 1) (b := q) rfl rfl (by omega)) rfl ?_
        refine st_on (j := 7) rfl rfl ?_
        refine st_v (ov_neq rfl rfl) rfl ?_
        refine st_v (ov_pick_f rfl rfl) rfl ?_
        refine st_nil ?_
        refine pn_then ?_
        refine sc_cond rfl (fun hc => ?_) (fun hc => ?_)
        ·
          have hc := of_decide_eq_true hc
          refine sc_seq ?_
          refine sc_region ?_
          refine st_v (ov_buildA (cells := hcs hz0) rfl Tryd.underlying34 zl34 sz5 (by kernel_rfl)) rfl ?_
          refine st_storeA 8 hp rfl rfl rfl (by simp [hcs_len]) (sz34.trans (by simp [hcs_len])) (hcs_one _) (fun w hp => ?_)
          refine st_v (ov_assign rfl) rfl ?_
          refine st_nil ?_
          refine pn_then ?_
          refine sc_ret ?_
          refine pr_then ?_
          refine pr_rv2 rfl (rv_cells rfl Tryd.underlying34 rfl (sz34.trans (by simp [hcs_len])) (hp.cells' (t := 8) rfl)) (rv_tmp rfl) ?_
          have hE : lrE (m : Int) W (q : Int) (u : Int) row.length = 64 := by unfold lrE; rw [if_neg (by assumption), if_pos ?_]; first | (refine .inl ?_; omega) | (refine .inr (.inl ?_); omega) | (refine .inr (.inr ?_); rw [Int.toNat_natCast, Int.toNat_natCast]; omega)
          have hV : lrV (m : Int) W (q : Int) (u : Int) row = hz0 := by unfold lrV; rw [hE, if_neg (by first | assumption | decide)]
          exact ⟨by rw [hE, hV]; first | done | rfl, hp.chg⟩
        ·
          have hc := of_decide_eq_false hc
          refine sc_skip ?_
          refine pn_then ?_
          refine sc_seq ?_
          have hcn : ¬ ((u : Int) ≤ (q : Int) ∨ 1099511627776 < (u : Int) ∨ row.length ≠ ((u : Int).toNat + (q : Int).toNat - 1) / (q : Int).toNat) := by rw [Int.toNat_natCast, Int.toNat_natCast]; omega
          have hnz : 0 < (u + q - 1) / q := Nat.div_pos (by omega) (by omega)
          have hn1 : 1 ≤ row.length := by omega
          obtain ⟨Hs, hHs⟩ := (hp.sub (L' := [(8, _), (4, _)]) (LSub.cons rfl (LSub.cons rfl (LSub.nil _)))).hs
          refine sc_plan Hs [0, 1, 2, 3, 4, 5, 8, 9, 11] [6] (.load 0 (.take 1 (.take 2 (.take 3 (.load 4 (.take 5 (.one 6 (.one 7 (.take 8 (.take 9 (.one 10 (.take 11 .nil)))))))))))) (by kernel_rfl) (by kernel_rfl) (by repeat (first | exact calm_body _ _ _ | refine calm_then ?_ | refine calm_block ?_ | refine calm_jump ?_ | refine calm_ng ?_)) ?_
          replace hp := hp.drew
          refine sp_load rfl ((hHs _).2 (hp.sub (LSub.cons rfl (LSub.cons rfl (LSub.nil _))))) (fun w hs => have hp := (hHs w).1 hs; ov_loadN rfl Tryd.underlying23 rfl (sz23.trans rfl) (hp.cells' (t := 4) rfl)) rfl ?_
          refine sp_take rfl (fun w => ov_move rfl) rfl ?_
          refine sp_take rfl (fun w => ov_move rfl) rfl ?_
          refine sp_take rfl (fun w => ov_field (q := 0) rfl Tryd.underlying23 rfl sz3 rfl) rfl ?_
          refine sp_load rfl ((hHs _).2 (hp.sub (LSub.cons rfl (LSub.cons rfl (LSub.nil _))))) (fun w hs => have hp := (hHs w).1 hs; ov_load1 rfl Tryd.underlying3 rfl ((hp.cells' (t := 4) rfl).at 0 (by simp) rfl)) rfl ?_
          refine sp_take rfl (fun w => ov_quo_n (a := q) (b := m) rfl rfl (by omega)) rfl ?_
          rw [hqd]
          refine sp_one rfl ?_
          refine st_call pl70 rfl rfl rfl (rise_walk (2 ^ j) (by omega) _) ?_
          rintro _ w ⟨rfl, hch⟩
          refine ⟨_, rfl, ?_⟩
          replace hp := hp.call hch
          clear hch
          rw [bit_pow2]
          refine st_nil ?_
          refine sp_next (i := 6) (fun _ => ((hHs _).2 (hp.sub (LSub.cons rfl (LSub.cons rfl (LSub.nil _)))))) ?_
          refine sp_one rfl ?_
          refine st_call pl28 rfl rfl rfl (Root_walk (m : Int) W row _ _ (j : Int) _ (h1.chg hp.chg) rfl (by omega) (by omega) (hp.old hk (by simp)) (hp.old hf (by simp))) ?_
          rintro _ w ⟨rfl, hch⟩
          refine ⟨_, rfl, ?_⟩
          replace hp := hp.call hch
          clear hch
          refine st_nil ?_
          refine sp_next (i := 7) (fun h => absurd h (by decide)) ?_
          refine sp_take rfl (fun w => ov_extract rfl rfl) rfl ?_
          refine sp_take rfl (fun w => ov_extract rfl rfl) rfl ?_
          refine sp_one rfl ?_
          refine st_storeA 8 hp rfl rfl rfl (by simp [hcs_len]) (sz34.trans (by simp [hcs_len])) (hcs_one _) (fun w hp => ?_)
          refine st_nil ?_
          refine sp_next (i := 10) (fun h => absurd h (by decide)) ?_
          refine sp_take rfl (fun w => ov_assign rfl) rfl ?_
          refine sp_nil ?_
          refine pn_then ?_
          refine sc_ret ?_
          refine pr_rv2 rfl (rv_cells rfl Tryd.underlying34 rfl (sz34.trans (by simp [hcs_len])) (hp.cells' (t := 8) rfl)) (rv_tmp rfl) ?_
          by_cases h20 : 1048576 < row.length
          · have hE : lrE (m : Int) W (q : Int) (u : Int) row.length = 62 := by unfold lrE; rw [if_neg (by omega), if_neg hcn, if_pos (by omega)]
            have hV : lrV (m : Int) W (q : Int) (u : Int) row = hz0 := by unfold lrV; rw [hE]; rfl
            have hr := rowE_many (f := (j : Int)) hg0 h20
            exact ⟨by rw [hE, hV, hr, rootV_bad (by rw [hr]; decide)]; first | done | rfl, hp.chg⟩
          · have hE : lrE (m : Int) W (q : Int) (u : Int) row.length = 0 := by unfold lrE; rw [if_neg (by omega), if_neg hcn, if_neg (by omega)]
            have hr0 := rowE_small (W := W) (f := j) hg0 hn1 (by omega) (by omega)
            have hV : lrV (m : Int) W (q : Int) (u : Int) row = rootV (m : Int) W row (j : Int) := by unfold lrV; rw [if_pos hE, hqbit]
            exact ⟨by rw [hE, hV, hr0]; first | done | rfl, hp.chg⟩

set_option maxRecDepth 100000 in
theorem LayerRootr_walk (B W p fl : Int) (hpr : -9223372036854775808 ≤ p ∧ p ≤ 9223372036854775807) (hfl : -9223372036854775808 ≤ fl ∧ fl ≤ 9223372036854775807) (row : List Hs) {nr : Nat} (ao : Option Addr) (ca : Nat) (w0 : World) (h1 : Rd w0 ao (row.flatMap hcs)) (hr : row.length = nr) (hz : row.length ≤ 281474976710656) :
    Calls Tryd.prog 30 #[sca B W, .int .i64 p, .int .i64 fl, .slice ao nr ca] w0 fun e w' => e = .returned (.tuple #[.agg (hcs (lrV B W p fl row)).toArray, .int .i64 (lrE B W p fl row.length)]) ∧ Chg [] w0 w' := by
  refine calls_in Tryd.func30 Tryd.ntmps30 rfl rfl ?_
  have hp := Hp.start w0
  subst hr
  refine sc_seq ?_
  refine sc_region ?_
  refine st_box 4 hp rfl rfl rfl (fun b4 w hp => ?_)
  refine st_alloc 8 (hcs hz0) hp rfl zl34 rfl (fun b8 w hp => ?_)
  refine st_v (ov_assign rfl) rfl ?_
  refine st_nil ?_
  refine pn_then ?_
  refine sc_seq ?_
  refine sc_region ?_
  refine st_v (ov_loadN rfl Tryd.underlying23 rfl (sz23.trans rfl) (hp.cells' (t := 4) rfl)) rfl ?_
  refine st_v (ov_move rfl) rfl ?_
  refine st_call pl73 rfl rfl rfl (pieceq_walk B W p hpr _) ?_
  rintro _ w ⟨rfl, hch⟩
  refine ⟨_, rfl, ?_⟩
  replace hp := hp.call hch
  clear hch
  refine st_v (ov_assign rfl) rfl ?_
  refine st_nil ?_
  refine pn_then ?_
  refine sc_seq ?_
  refine sc_seq ?_
  refine sc_region ?_
  refine st_v (ov_move rfl) rfl ?_
  refine st_v (ov_neq rfl rfl) rfl ?_
  refine st_nil ?_
  refine pn_then ?_
  refine sc_cond rfl (fun hc => ?_) (fun hc => ?_)
  ·
    have hc := of_decide_eq_true hc
    refine sc_seq ?_
    refine sc_region ?_
    refine st_v (ov_buildA (cells := hcs hz0) rfl Tryd.underlying34 zl34 sz5 (by kernel_rfl)) rfl ?_
    refine st_v (ov_move rfl) rfl ?_
    refine st_storeA 8 hp rfl rfl rfl (by simp [hcs_len]) (sz34.trans (by simp [hcs_len])) (hcs_one _) (fun w hp => ?_)
    refine st_v (ov_assign rfl) rfl ?_
    refine st_nil ?_
    refine pn_then ?_
    refine sc_ret ?_
    refine pr_then ?_
    refine pr_rv2 rfl (rv_cells rfl Tryd.underlying34 rfl (sz34.trans (by simp [hcs_len])) (hp.cells' (t := 8) rfl)) (rv_tmp rfl) ?_
    have hE : lrE B W p fl row.length = pieceE B W p := by unfold lrE; rw [if_pos (by assumption)]
    have hV : lrV B W p fl row = hz0 := by unfold lrV; rw [hE, if_neg (by first | assumption | decide)]
    exact ⟨by rw [hE, hV]; first | done | rfl, hp.chg⟩
  ·
    have hc := of_decide_eq_false hc
    have hp0 : pieceE B W p = 0 := by omega
    obtain ⟨hg0, m, j, rfl, hm1, hm2, hj, hpq⟩ := pieceE_ok hp0
    obtain ⟨q, hq⟩ : ∃ q, q = 2 ^ j * m := ⟨_, rfl⟩
    rw [← hq] at hpq
    subst hpq
    have hqb : q ≤ 1024 * 16384 := by rw [hq]; exact Nat.mul_le_mul (show 2 ^ j ≤ 2 ^ 10 from Nat.pow_le_pow_right (by omega) hj) hm2
    have hqm : m ≤ q := by rw [hq]; exact Nat.le_mul_of_pos_left m (Nat.two_pow_pos j)
    have hqd := piece_div hq (by omega)
    have hqbit := piece_bit hq (by omega)
    have hpj : 2 ^ j ≤ 1024 := show 2 ^ j ≤ 2 ^ 10 from Nat.pow_le_pow_right (by omega) hj
    have hpj0 := Nat.two_pow_pos j
    refine sc_skip ?_
    refine pn_then ?_
    refine sc_seq ?_
    refine sc_seq ?_
    refine sc_region ?_
    refine st_v (ov_move rfl) rfl ?_
    refine st_v (ov_gtr rfl rfl) rfl ?_
    refine st_v (ov_move rfl) rfl ?_
    refine st_split (j := 21) rfl (fun hb => ?_) (fun hb => ?_)
    ·
      have hb := of_decide_eq_true hb
      refine st_off (j := 2) rfl rfl rfl rfl ?_
      refine st_off (j := 2) rfl rfl rfl rfl ?_
      refine st_off (j := 2) rfl rfl rfl rfl ?_
      refine st_v (ov_pick_t rfl rfl) rfl ?_
      refine st_v (ov_move rfl) rfl ?_
      refine st_off (j := 7) rfl rfl rfl rfl ?_
      refine st_off (j := 7) rfl rfl rfl rfl ?_
      refine st_off (j := 7) rfl rfl rfl rfl ?_
      refine st_off (j := 7) rfl rfl rfl rfl ?_
      refine st_off (j := 7) rfl rfl rfl rfl ?_
      refine st_off (j := 7) rfl rfl rfl rfl ?_
      refine st_off (j := 7) rfl rfl rfl rfl ?_
      refine st_off (j := 7) rfl rfl rfl rfl ?_
      refine st_off (j := 7) rfl rfl rfl rfl ?_
      refine st_v (ov_pick_t rfl rfl) rfl ?_
      refine st_nil ?_
      refine pn_then ?_
      refine sc_true rfl ?_
      refine sc_seq ?_
      refine sc_region ?_
      refine st_v (ov_buildA (cells := hcs hz0) rfl Tryd.underlying34 zl34 sz5 (by kernel_rfl)) rfl ?_
      refine st_storeA 8 hp rfl rfl rfl (by simp [hcs_len]) (sz34.trans (by simp [hcs_len])) (hcs_one _) (fun w hp => ?_)
      refine st_v (ov_assign rfl) rfl ?_
      refine st_nil ?_
      refine pn_then ?_
      refine sc_ret ?_
      refine pr_then ?_
      refine pr_rv2 rfl (rv_cells rfl Tryd.underlying34 rfl (sz34.trans (by simp [hcs_len])) (hp.cells' (t := 8) rfl)) (rv_tmp rfl) ?_
      have hE : lrE (m : Int) W (q : Int) fl row.length = 64 := by unfold lrE; rw [if_neg (by assumption), if_pos ?_]; first | (refine .inl ?_; omega) | (refine .inr (.inl ?_); omega) | (refine .inr (.inr ?_); rw [Int.toNat_natCast, Int.toNat_natCast]; omega)
      have hV : lrV (m : Int) W (q : Int) fl row = hz0 := by unfold lrV; rw [hE, if_neg (by first | assumption | decide)]
      exact ⟨by rw [hE, hV]; first | done | rfl, hp.chg⟩
    ·
      have hb := of_decide_eq_false hb
      refine st_on (j := 2) rfl rfl ?_
      refine st_v (ov_move rfl) rfl ?_
      refine st_on (j := 2) rfl rfl ?_
      refine st_v (ov_move rfl) rfl ?_
      refine st_on (j := 2) rfl rfl ?_
      refine st_v (ov_leq rfl rfl) rfl ?_
      refine st_v (ov_pick_f rfl rfl) rfl ?_
      refine st_v (ov_move rfl) rfl ?_
      refine st_split (j := 26) rfl (fun hb => ?_) (fun hb => ?_)
      ·
        have hb := of_decide_eq_true hb
        refine st_off (j := 7) rfl rfl rfl rfl ?_
        refine st_off (j := 7) rfl rfl rfl rfl ?_
        refine st_off (j := 7) rfl rfl rfl rfl ?_
        refine st_off (j := 7) rfl rfl rfl rfl ?_
        refine st_off (j := 7) rfl rfl rfl rfl ?_
        refine st_off (j := 7) rfl rfl rfl rfl ?_
        refine st_off (j := 7) rfl rfl rfl rfl ?_
        refine st_off (j := 7) rfl rfl rfl rfl ?_
        refine st_off (j := 7) rfl rfl rfl rfl ?_
        refine st_v (ov_pick_t rfl rfl) rfl ?_
        refine st_nil ?_
        refine pn_then ?_
        refine sc_true rfl ?_
        refine sc_seq ?_
        refine sc_region ?_
        refine st_v (ov_buildA (cells := hcs hz0) rfl Tryd.underlying34 zl34 sz5 (by kernel_rfl)) rfl ?_
        refine st_storeA 8 hp rfl rfl rfl (by simp [hcs_len]) (sz34.trans (by simp [hcs_len])) (hcs_one _) (fun w hp => ?_)
        refine st_v (ov_assign rfl) rfl ?_
        refine st_nil ?_
        refine pn_then ?_
        refine sc_ret ?_
        refine pr_then ?_
        refine pr_rv2 rfl (rv_cells rfl Tryd.underlying34 rfl (sz34.trans (by simp [hcs_len])) (hp.cells' (t := 8) rfl)) (rv_tmp rfl) ?_
        have hE : lrE (m : Int) W (q : Int) fl row.length = 64 := by unfold lrE; rw [if_neg (by assumption), if_pos ?_]; first | (refine .inl ?_; omega) | (refine .inr (.inl ?_); omega) | (refine .inr (.inr ?_); rw [Int.toNat_natCast, Int.toNat_natCast]; omega)
        have hV : lrV (m : Int) W (q : Int) fl row = hz0 := by unfold lrV; rw [hE, if_neg (by first | assumption | decide)]
        exact ⟨by rw [hE, hV]; first | done | rfl, hp.chg⟩
      ·
        have hb := of_decide_eq_false hb
        obtain ⟨u, rfl⟩ : ∃ u : Nat, fl = (u : Int) := ⟨fl.toNat, by omega⟩
        have hdl := Nat.div_le_self (u + q - 1) q
        refine st_on (j := 7) rfl rfl ?_
        refine st_v (ov_move rfl) rfl ?_
        refine st_on (j := 7) rfl rfl ?_
        refine st_v (ov_len rfl Tryd.underlying26 rfl) rfl ?_
        refine st_on (j := 7) rfl rfl ?_
        refine st_v (ov_move rfl) rfl ?_
        refine st_on (j := 7) rfl rfl ?_
        refine st_v (ov_move rfl) rfl ?_
        refine st_on (j := 7) rfl rfl ?_
        refine st_v (ov_add_n (a := u) (b := q) rfl rfl (by omega)) rfl ?_
        refine st_on (j := 7) rfl rfl ?_
        refine st_v (ov_sub_n (a := u + q) (b := 1) rfl rfl (by omega)) rfl ?_
        refine st_on (j := 7) rfl rfl ?_
        refine st_v (ov_move rfl) rfl ?_
        refine st_on (j := 7) rfl rfl ?_
        refine st_v (ov_quo_n (a := (u + q) - 1) (b := q) rfl rfl (by omega)) rfl ?_
        refine st_on (j := 7) rfl rfl ?_
        refine st_v (ov_neq rfl rfl) rfl ?_
        refine st_v (ov_pick_f rfl rfl) rfl ?_
        refine st_nil ?_
        refine pn_then ?_
        refine sc_cond rfl (fun hc => ?_) (fun hc => ?_)
        ·
          have hc := of_decide_eq_true hc
          refine sc_seq ?_
          refine sc_region ?_
          refine st_v (ov_buildA (cells := hcs hz0) rfl Tryd.underlying34 zl34 sz5 (by kernel_rfl)) rfl ?_
          refine st_storeA 8 hp rfl rfl rfl (by simp [hcs_len]) (sz34.trans (by simp [hcs_len])) (hcs_one _) (fun w hp => ?_)
          refine st_v (ov_assign rfl) rfl ?_
          refine st_nil ?_
          refine pn_then ?_
          refine sc_ret ?_
          refine pr_then ?_
          refine pr_rv2 rfl (rv_cells rfl Tryd.underlying34 rfl (sz34.trans (by simp [hcs_len])) (hp.cells' (t := 8) rfl)) (rv_tmp rfl) ?_
          have hE : lrE (m : Int) W (q : Int) (u : Int) row.length = 64 := by unfold lrE; rw [if_neg (by assumption), if_pos ?_]; first | (refine .inl ?_; omega) | (refine .inr (.inl ?_); omega) | (refine .inr (.inr ?_); rw [Int.toNat_natCast, Int.toNat_natCast]; omega)
          have hV : lrV (m : Int) W (q : Int) (u : Int) row = hz0 := by unfold lrV; rw [hE, if_neg (by first | assumption | decide)]
          exact ⟨by rw [hE, hV]; first | done | rfl, hp.chg⟩
        ·
          have hc := of_decide_eq_false hc
          refine sc_skip ?_
          refine pn_then ?_
          refine sc_seq ?_
          refine sc_seq ?_
          have hcn : ¬ ((u : Int) ≤ (q : Int) ∨ 1099511627776 < (u : Int) ∨ row.length ≠ ((u : Int).toNat + (q : Int).toNat - 1) / (q : Int).toNat) := by rw [Int.toNat_natCast, Int.toNat_natCast]; omega
          have hnz : 0 < (u + q - 1) / q := Nat.div_pos (by omega) (by omega)
          have hn1 : 1 ≤ row.length := by omega
          refine sc_region ?_
          refine st_v (ov_move rfl) rfl ?_
          refine st_v (ov_len rfl Tryd.underlying26 rfl) rfl ?_
          refine st_v (ov_gtr rfl rfl) rfl ?_
          refine st_nil ?_
          refine pn_then ?_
          refine sc_cond rfl (fun hc => ?_) (fun hc => ?_)
          ·
            have hc := of_decide_eq_true hc
            refine sc_seq ?_
            refine sc_region ?_
            refine st_v (ov_buildA (cells := hcs hz0) rfl Tryd.underlying34 zl34 sz5 (by kernel_rfl)) rfl ?_
            refine st_storeA 8 hp rfl rfl rfl (by simp [hcs_len]) (sz34.trans (by simp [hcs_len])) (hcs_one _) (fun w hp => ?_)
            refine st_v (ov_assign rfl) rfl ?_
            refine st_nil ?_
            refine pn_then ?_
            refine sc_ret ?_
            refine pr_then ?_
            refine pr_rv2 rfl (rv_cells rfl Tryd.underlying34 rfl (sz34.trans (by simp [hcs_len])) (hp.cells' (t := 8) rfl)) (rv_tmp rfl) ?_
            have hE : lrE (m : Int) W (q : Int) (u : Int) row.length = 62 := by unfold lrE; rw [if_neg (by omega), if_neg hcn, if_pos (by omega)]
            have hV : lrV (m : Int) W (q : Int) (u : Int) row = hz0 := by unfold lrV; rw [hE]; rfl
            exact ⟨by rw [hE, hV], hp.chg⟩
          ·
            have hc := of_decide_eq_false hc
            refine sc_skip ?_
            refine pn_then ?_
            refine sc_seq ?_
            have hE : lrE (m : Int) W (q : Int) (u : Int) row.length = 0 := by unfold lrE; rw [if_neg (by omega), if_neg hcn, if_neg (by omega)]
            have hr0 := rowE_small (W := W) (f := j) hg0 hn1 (by omega) (by omega)
            have hV : lrV (m : Int) W (q : Int) (u : Int) row = rootV (m : Int) W row (j : Int) := by unfold lrV; rw [if_pos hE, hqbit]
            have hbl := bit_le20 (n := row.length) (by omega)
            obtain ⟨k, hk9⟩ : ∃ k, k = bitLen (row.length - 1) := ⟨_, rfl⟩
            refine sc_region ?_
            refine st_v (ov_move rfl) rfl ?_
            refine st_v (ov_field (q := 0) rfl Tryd.underlying23 rfl sz3 rfl) rfl ?_
            refine st_v (ov_load1 rfl Tryd.underlying3 rfl ((hp.cells' (t := 4) rfl).at 0 (by simp) rfl)) rfl ?_
            refine st_v (ov_quo_n (a := q) (b := m) rfl rfl (by omega)) rfl ?_
            rw [hqd]
            refine st_call pl67 rfl rfl rfl (riser_walk (2 ^ j) (by omega) _) ?_
            rintro _ w ⟨rfl, hch⟩
            refine ⟨_, rfl, ?_⟩
            replace hp := hp.call hch
            clear hch
            rw [bit_pow2]
            refine st_v (ov_assign rfl) rfl ?_
            refine st_nil ?_
            refine pn_then ?_
            refine sc_seq ?_
            obtain ⟨Hs, hHs⟩ := (hp.sub (L' := [(8, _), (4, _)]) (LSub.cons rfl (LSub.cons rfl (LSub.nil _)))).hs
            refine sc_plan Hs [0, 1, 2, 3, 4, 5, 7, 10] [6] (.load 0 (.take 1 (.take 2 (.take 3 (.take 4 (.take 5 (.one 6 (.take 7 (.one 8 (.one 9 (.take 10 .nil))))))))))) (by kernel_rfl) (by kernel_rfl) (by repeat (first | exact calm_body _ _ _ | refine calm_then ?_ | refine calm_block ?_ | refine calm_jump ?_ | refine calm_ng ?_)) ?_
            replace hp := hp.drew
            refine sp_load rfl ((hHs _).2 (hp.sub (LSub.cons rfl (LSub.cons rfl (LSub.nil _))))) (fun w hs => have hp := (hHs w).1 hs; ov_loadN rfl Tryd.underlying23 rfl (sz23.trans rfl) (hp.cells' (t := 4) rfl)) rfl ?_
            refine sp_take rfl (fun w => ov_move rfl) rfl ?_
            refine sp_take rfl (fun w => ov_move rfl) rfl ?_
            refine sp_take rfl (fun w => ov_move rfl) rfl ?_
            refine sp_take rfl (fun w => ov_move rfl) rfl ?_
            refine sp_take rfl (fun w => ov_len rfl Tryd.underlying26 rfl) rfl ?_
            refine sp_one rfl ?_
            refine st_call pl67 rfl rfl rfl (riser_walk row.length (by omega) _) ?_
            rintro _ w ⟨rfl, hch⟩
            refine ⟨_, rfl, ?_⟩
            replace hp := hp.call hch
            clear hch
            rw [← hk9]
            refine st_nil ?_
            refine sp_next (i := 6) (fun _ => ((hHs _).2 (hp.sub (LSub.cons rfl (LSub.cons rfl (LSub.nil _)))))) ?_
            refine sp_take rfl (fun w => ov_add_n (a := j) (b := k) rfl rfl (by omega)) rfl ?_
            refine sp_one rfl ?_
            refine st_call pl72 rfl rfl rfl (node_walk (m : Int) W row _ _ j rfl (by omega) k 0 _ (h1.chg hp.chg) (by omega) (by omega) (by rw [Nat.zero_add, Nat.one_mul]; exact Nat.le_trans (Nat.pow_le_pow_right (by omega) (by omega : k ≤ 20)) (by decide))) ?_
            rintro _ w ⟨rfl, hch⟩
            refine ⟨_, rfl, ?_⟩
            replace hp := hp.call hch
            clear hch
            rw [node_top hn1]
            refine st_nil ?_
            refine sp_next (i := 8) (fun h => absurd h (by decide)) ?_
            refine sp_one rfl ?_
            refine st_storeA 8 hp rfl rfl rfl (by simp [hcs_len]) (sz34.trans (by simp [hcs_len])) (hcs_one _) (fun w hp => ?_)
            refine st_nil ?_
            refine sp_next (i := 9) (fun h => absurd h (by decide)) ?_
            refine sp_take rfl (fun w => ov_assign rfl) rfl ?_
            refine sp_nil ?_
            refine pn_then ?_
            refine sc_ret ?_
            refine pr_rv2 rfl (rv_cells rfl Tryd.underlying34 rfl (sz34.trans (by simp [hcs_len])) (hp.cells' (t := 8) rfl)) (rv_tmp rfl) ?_
            exact ⟨by rw [hE, hV, root_at hr0, ← hk9], hp.chg⟩

set_option maxRecDepth 100000 in
theorem law_layerroots (B W p fl : Int) (hpr : -9223372036854775808 ≤ p ∧ p ≤ 9223372036854775807) (hfl : -9223372036854775808 ≤ fl ∧ fl ≤ 9223372036854775807) (row : List Hs) (ao : Option Addr) (ca : Nat) (w0 : World) (h1 : Rd w0 ao (row.flatMap hcs)) (hz : row.length ≤ 4398046511104) (hk : Cells w0 1 0 (kL.map B32)) (hf : Cells w0 0 0 (fL.map B32)) :
    Calls Tryd.prog 6 #[sca B W, .int .i64 p, .int .i64 fl, .slice ao row.length ca] w0 fun e w' => e = .returned (.bool true) ∧ Chg [] w0 w' := by
  refine calls_in Tryd.func6 Tryd.ntmps6 rfl rfl ?_
  have hp := Hp.start w0
  refine sc_seq ?_
  refine sc_region ?_
  refine st_box 4 hp rfl rfl rfl (fun b4 w hp => ?_)
  refine st_v (ov_assign rfl) rfl ?_
  refine st_nil ?_
  refine pn_then ?_
  refine sc_seq ?_
  refine sc_region ?_
  refine st_v (ov_move rfl) rfl ?_
  refine st_call pl25 rfl rfl rfl (twinrow_walk row _ _ _ (h1.chg hp.chg) rfl hz) ?_
  rintro _ w ⟨g15, rfl, hm15⟩
  refine ⟨_, rfl, ?_⟩
  replace hp := hp.got 15 hm15
  have hc15 := hm15.2
  clear hm15
  refine st_v (ov_assign rfl) rfl ?_
  refine st_nil ?_
  refine pn_then ?_
  refine sc_seq ?_
  refine sc_region ?_
  refine st_v (ov_loadN rfl Tryd.underlying23 rfl (sz23.trans rfl) (hp.cells' (t := 4) rfl)) rfl ?_
  refine st_v (ov_move rfl) rfl ?_
  refine st_v (ov_move rfl) rfl ?_
  refine st_v (ov_move rfl) rfl ?_
  refine st_call pl30 rfl rfl rfl (LayerRootr_walk B W p fl hpr hfl row _ _ _ (Rd.own (hp.own 15 _ rfl)) rfl (by omega)) ?_
  rintro _ w ⟨rfl, hch⟩
  refine ⟨_, rfl, ?_⟩
  replace hp := hp.call hch
  clear hch
  refine st_v (ov_move rfl) rfl ?_
  refine st_v (ov_extract rfl rfl) rfl ?_
  refine st_v (ov_extract rfl rfl) rfl ?_
  refine st_alloc 10 (hcs hz0) hp rfl zl34 rfl (fun b10 w hp => ?_)
  refine st_storeA 10 hp rfl rfl rfl (by simp [hcs_len]) (sz34.trans (by simp [hcs_len])) (hcs_one _) (fun w hp => ?_)
  refine st_v (ov_assign rfl) rfl ?_
  refine st_nil ?_
  refine pn_then ?_
  refine sc_seq ?_
  refine sc_region ?_
  refine st_v (ov_loadN rfl Tryd.underlying23 rfl (sz23.trans rfl) (hp.cells' (t := 4) rfl)) rfl ?_
  refine st_v (ov_move rfl) rfl ?_
  refine st_v (ov_move rfl) rfl ?_
  refine st_v (ov_move rfl) rfl ?_
  refine st_call pl31 rfl rfl rfl (LayerRoot_walk B W p fl hpr hfl row _ _ _ (h1.chg hp.chg) rfl (by omega) (hp.old hk (by simp)) (hp.old hf (by simp))) ?_
  rintro _ w ⟨rfl, hch⟩
  refine ⟨_, rfl, ?_⟩
  replace hp := hp.call hch
  clear hch
  refine st_v (ov_move rfl) rfl ?_
  refine st_v (ov_extract rfl rfl) rfl ?_
  refine st_v (ov_extract rfl rfl) rfl ?_
  refine st_alloc 12 (hcs hz0) hp rfl zl34 rfl (fun b12 w hp => ?_)
  refine st_storeA 12 hp rfl rfl rfl (by simp [hcs_len]) (sz34.trans (by simp [hcs_len])) (hcs_one _) (fun w hp => ?_)
  refine st_v (ov_assign rfl) rfl ?_
  refine st_nil ?_
  refine pn_then ?_
  refine sc_seq ?_
  refine sc_region ?_
  refine st_v (ov_move rfl) rfl ?_
  refine st_v (ov_move rfl) rfl ?_
  refine st_v (v := .bool true) ((ov_eql rfl rfl).is ((by simp))) rfl ?_
  refine st_v (ov_move rfl) rfl ?_
  refine st_on (j := 3) rfl rfl ?_
  refine st_v (ov_loadN rfl Tryd.underlying34 rfl (sz34.trans (by simp [hcs_len])) (hp.cells' (t := 12) rfl)) rfl ?_
  refine st_on (j := 3) rfl rfl ?_
  refine st_v (ov_loadN rfl Tryd.underlying34 rfl (sz34.trans (by simp [hcs_len])) (hp.cells' (t := 10) rfl)) rfl ?_
  refine st_on (j := 3) rfl rfl ?_
  refine st_v (v := .bool true) ((ov_eqlA (k := .u8) (g := fun x : UInt8 => (x.toNat : Int))  inj8 Tryd.underlying34 Tryd.underlying5 sz5 gd34 rfl rfl ⟨Subtype.property (p := fun l : List UInt8 => l.length = 32) _, Subtype.property (p := fun l : List UInt8 => l.length = 32) _⟩).is ((by simp))) rfl ?_
  refine st_v (ov_pick_t rfl rfl) rfl ?_
  refine st_v (ov_move rfl) rfl ?_
  refine st_on (j := 8) rfl rfl ?_
  refine st_v (ov_move rfl) rfl ?_
  refine st_on (j := 8) rfl rfl ?_
  refine st_v (ov_move rfl) rfl ?_
  refine st_on (j := 8) rfl rfl ?_
  refine st_call pl19 rfl rfl rfl (rowsame_walk row _ _ _ _ _ (h1.chg hp.chg) (Rd.own (hp.own 15 _ rfl)) rfl rfl (by omega)) ?_
  rintro _ w ⟨rfl, hch⟩
  refine ⟨_, rfl, ?_⟩
  replace hp := hp.call hch
  clear hch
  refine st_v (ov_pick_t rfl rfl) rfl ?_
  refine st_v (ov_assign rfl) rfl ?_
  refine st_nil ?_
  refine pn_then ?_
  refine sc_ret ?_
  refine pr_one rfl rfl ?_
  exact ⟨rfl, hp.chg⟩

end Go.Proofs.YtjdolgfhcjnniaaDoor
