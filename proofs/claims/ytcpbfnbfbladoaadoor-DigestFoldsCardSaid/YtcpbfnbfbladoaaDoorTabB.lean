/-
  The walks of root and next.
-/
import Derived.Test.YtcpbfnbfbladoaaDoorTabA
namespace Go.Proofs.YtcpbfnbfbladoaaDoor
open Go Go.RowKit

set_option maxRecDepth 100000 in
theorem root_walk (word : UInt32) (k p : Nat) (hk : k ≤ 10) (hpp : p < 281474976710656) (h : rootL word.toNat k p = true) (w0 : World) :
    Calls Tryd.prog 14 #[B32 word, .int .i64 (k : Int), .int .i64 (p : Int)] w0 fun e w' => e = .returned (.bool true) ∧ Chg [] w0 w' := by
  refine calls_in Tryd.func14 Tryd.ntmps14 rfl rfl ?_
  have hp := Hp.start w0
  have hwd := word.toNat_lt
  have hw0 : ∃ v, 0 ≤ v ∧ v < 64 ∧ lookL word.toNat k p v = true := by obtain ⟨v, h1, h2⟩ := List.any_eq_true.1 h; exact ⟨v, Nat.zero_le _, List.mem_range.1 h1, h2⟩
  refine sc_seq ?_
  refine sc_region ?_
  refine st_v (ov_assign rfl) rfl ?_
  refine st_nil ?_
  refine pn_then ?_
  refine sc_seq ?_
  refine sc_region ?_
  refine st_v (ov_move rfl) rfl ?_
  refine st_call pl48 rfl rfl rfl (powl_walk 4294967296 k (by omega) (by omega) _) ?_
  rintro _ w ⟨g7, rfl, hm7⟩
  refine ⟨_, rfl, ?_⟩
  replace hp := hp.got 7 hm7
  have hc7 := hm7.2
  clear hm7
  refine st_v (ov_assign rfl) rfl ?_
  refine st_nil ?_
  refine pn_then ?_
  refine sc_seq ?_
  refine sc_region ?_
  refine st_v (ov_move rfl) rfl ?_
  refine st_v (ov_move rfl) rfl ?_
  refine st_call pl50 rfl rfl rfl (whole_walk p hpp _) ?_
  rintro _ w ⟨g16, rfl, hm16⟩
  refine ⟨_, rfl, ?_⟩
  replace hp := hp.got 16 hm16
  have hc16 := hm16.2
  clear hm16
  refine st_call pl49 rfl rfl rfl (times_walk (powL 4294967296 k) (wholeL p) _ _ _ _ _ (Rd.own (hp.own 7 _ rfl)) (Rd.own (hp.own 16 _ rfl)) (pow_len _ _) rfl (pow_dig (by omega) k) (whole_dig hpp) (by rw [pow_len]; omega) (by show 3 ≤ 4096; omega)) ?_
  rintro _ w ⟨g7, rfl, hm7⟩
  refine ⟨_, rfl, ?_⟩
  replace hp := hp.got 7 hm7
  have hc7 := hm7.2
  clear hm7
  refine st_v (ov_assign rfl) rfl ?_
  refine st_nil ?_
  refine pn_then ?_
  refine sc_seq ?_
  refine sc_seq ?_
  refine sc_region ?_
  refine st_v (ov_assign rfl) rfl ?_
  refine st_nil ?_
  refine pn_then ?_
  refine sc_block ?_
  refine sc_loopH1 (α := Nat) (kv := [(0, _), (1, _), (7, _)]) (kl := [(7, _), (16, _)]) (fun y kv => (8, .int .i64 ((y : Nat) : Int)) :: kv) (fun y kl => kl) (fun y => (∃ v, y ≤ v ∧ v < 64 ∧ lookL word.toNat k p v = true)) (fun y => 64 - y) 0 hp (Sub.cons rfl (Sub.cons rfl (Sub.cons rfl (Sub.cons rfl (Sub.nil _))))) (LSub.cons rfl (LSub.cons rfl (LSub.nil _))) ?_ ?_
  · exact hw0
  intro y w hp hx
  have hw : ∃ v, y ≤ v ∧ v < 64 ∧ lookL word.toNat k p v = true := hx
  refine sc_seq ?_
  refine sc_seq ?_
  refine sc_region ?_
  refine st_v (ov_move rfl) rfl ?_
  refine st_v (ov_lss rfl rfl) rfl ?_
  refine st_nil ?_
  refine pn_then ?_
  refine sc_cond rfl (fun hc => ?_) (fun hc => ?_)
  ·
    have hc := of_decide_eq_true hc
    refine sc_skip ?_
    refine pn_then ?_
    refine sc_seq ?_
    refine sc_block ?_
    refine sc_seq ?_
    refine sc_region ?_
    refine st_v (ov_move rfl) rfl ?_
    refine st_v (ov_mul_n (a := y) (b := 4294967296) rfl rfl (by omega)) rfl ?_
    refine st_v (ov_move rfl) rfl ?_
    refine st_v (v := .int .i64 ((word.toNat : Nat) : Int)) ((ov_conv Tryd.underlying22 Tryd.underlying3 rfl).is (by rw [wrap_i64 (by omega) (by omega)])) rfl ?_
    refine st_v (ov_add_n (a := y * 4294967296) (b := word.toNat) rfl rfl (by omega)) rfl ?_
    refine st_v (ov_assign rfl) rfl ?_
    refine st_nil ?_
    refine pn_then ?_
    refine sc_seq ?_
    refine sc_region ?_
    refine st_v (ov_move rfl) rfl ?_
    refine st_v (ov_move rfl) rfl ?_
    refine st_call pl48 rfl rfl rfl (powl_walk (y * 4294967296 + word.toNat) k (by omega) (by omega) _) ?_
    rintro _ w ⟨g10, rfl, hm10⟩
    refine ⟨_, rfl, ?_⟩
    replace hp := hp.got 10 hm10
    have hc10 := hm10.2
    clear hm10
    refine st_v (ov_assign rfl) rfl ?_
    refine st_nil ?_
    refine pn_then ?_
    refine sc_seq ?_
    refine sc_region ?_
    refine st_v (ov_move rfl) rfl ?_
    refine st_v (ov_add_n (a := (y * 4294967296) + word.toNat) (b := 1) rfl rfl (by omega)) rfl ?_
    refine st_v (ov_move rfl) rfl ?_
    refine st_call pl48 rfl rfl rfl (powl_walk (y * 4294967296 + word.toNat + 1) k (by omega) (by omega) _) ?_
    rintro _ w ⟨g11, rfl, hm11⟩
    refine ⟨_, rfl, ?_⟩
    replace hp := hp.got 11 hm11
    have hc11 := hm11.2
    clear hm11
    refine st_v (ov_assign rfl) rfl ?_
    refine st_nil ?_
    refine pn_then ?_
    refine sc_seq ?_
    refine sc_region ?_
    refine st_v (ov_move rfl) rfl ?_
    refine st_v (ov_move rfl) rfl ?_
    refine st_call pl51 rfl rfl rfl (atmost_walk (powL (y * 4294967296 + word.toNat) k) (timesL (powL 4294967296 k) (wholeL p)) _ _ _ _ _ (Rd.own (hp.own 10 _ rfl)) (Rd.own (hp.own 7 _ rfl)) (pow_len _ _) (by rw [times_len, pow_len]; rfl) (by rw [pow_len]; omega) (by rw [times_len, pow_len]; show 1 + 3 * k + 3 ≤ 4096; omega)) ?_
    rintro _ w ⟨rfl, hch⟩
    refine ⟨_, rfl, ?_⟩
    replace hp := hp.call hch
    clear hch
    refine st_v (ov_move rfl) rfl ?_
    refine st_split (j := 37) rfl (fun hb => ?_) (fun hb => ?_)
    ·
      refine st_on (j := 3) rfl rfl ?_
      refine st_v (ov_move rfl) rfl ?_
      refine st_on (j := 3) rfl rfl ?_
      refine st_v (ov_move rfl) rfl ?_
      refine st_on (j := 3) rfl rfl ?_
      refine st_call pl51 rfl rfl rfl (atmost_walk (powL (y * 4294967296 + word.toNat + 1) k) (timesL (powL 4294967296 k) (wholeL p)) _ _ _ _ _ (Rd.own (hp.own 11 _ rfl)) (Rd.own (hp.own 7 _ rfl)) (pow_len _ _) (by rw [times_len, pow_len]; rfl) (by rw [pow_len]; omega) (by rw [times_len, pow_len]; show 1 + 3 * k + 3 ≤ 4096; omega)) ?_
      rintro _ w ⟨rfl, hch⟩
      refine ⟨_, rfl, ?_⟩
      replace hp := hp.call hch
      clear hch
      refine st_on (j := 3) rfl rfl ?_
      refine st_v (ov_not rfl) rfl ?_
      refine st_v (ov_pick_t rfl rfl) rfl ?_
      refine st_nil ?_
      refine pn_then ?_
      refine sc_cond rfl (fun hc => ?_) (fun hc => ?_)
      ·
        refine sc_seq ?_
        refine sc_region ?_
        refine st_v (ov_assign rfl) rfl ?_
        refine st_nil ?_
        refine pn_then ?_
        refine sc_ret ?_
        refine pr_block ?_
        refine pr_then ?_
        refine pr_then ?_
        refine pr_block ?_
        refine pr_then ?_
        refine pr_one rfl rfl ?_
        exact ⟨rfl, hp.chg⟩
      ·
        have hlw : lookL word.toNat k p y = false := by unfold lookL; rw [hc]; simp
        refine sc_skip ?_
        refine pn_block ?_
        refine pn_then ?_
        refine sc_region ?_
        refine st_v (ov_move rfl) rfl ?_
        refine st_v (ov_add_n (a := y) (b := 1) rfl rfl (by omega)) rfl ?_
        refine st_v (ov_assign rfl) rfl ?_
        refine st_nil ?_
        refine pn_roundH1 (y + 1) hp (Sub.cons rfl (Sub.cons rfl (Sub.cons rfl (Sub.cons rfl (Sub.nil _))))) ?_ (LSub.cons rfl (LSub.cons rfl (LSub.nil _))) ?_
        · omega
        exact (by obtain ⟨v, v1, v2, v3⟩ := hw; refine ⟨v, ?_, v2, v3⟩; rcases Nat.lt_or_ge y v with h9 | h9; exact h9; obtain rfl : v = y := (by omega); rw [hlw] at v3; cases v3)
    ·
      have hlw : lookL word.toNat k p y = false := by unfold lookL; rw [hb]; rfl
      refine st_off (j := 3) rfl rfl rfl rfl ?_
      refine st_off (j := 3) rfl rfl rfl rfl ?_
      refine st_off (j := 3) rfl rfl rfl rfl ?_
      refine st_off (j := 3) rfl rfl rfl rfl ?_
      refine st_v (ov_pick_f rfl rfl) rfl ?_
      refine st_nil ?_
      refine pn_then ?_
      refine sc_false rfl ?_
      refine sc_skip ?_
      refine pn_block ?_
      refine pn_then ?_
      refine sc_region ?_
      refine st_v (ov_move rfl) rfl ?_
      refine st_v (ov_add_n (a := y) (b := 1) rfl rfl (by omega)) rfl ?_
      refine st_v (ov_assign rfl) rfl ?_
      refine st_nil ?_
      refine pn_roundH1 (y + 1) hp (Sub.cons rfl (Sub.cons rfl (Sub.cons rfl (Sub.cons rfl (Sub.nil _))))) ?_ (LSub.cons rfl (LSub.cons rfl (LSub.nil _))) ?_
      · omega
      exact (by obtain ⟨v, v1, v2, v3⟩ := hw; refine ⟨v, ?_, v2, v3⟩; rcases Nat.lt_or_ge y v with h9 | h9; exact h9; obtain rfl : v = y := (by omega); rw [hlw] at v3; cases v3)
  ·
    have hc := of_decide_eq_false hc
    refine sc_exit ?_
    refine pe_then ?_
    refine pe_then ?_
    refine pe_hit ?_
    refine pn_then ?_
    refine sc_seq ?_
    refine sc_region ?_
    refine st_v (ov_assign rfl) rfl ?_
    refine st_nil ?_
    refine pn_then ?_
    refine sc_ret ?_
    refine pr_one rfl rfl ?_
    obtain ⟨v, v1, v2, v3⟩ := hw
    exact absurd v1 (by omega)

set_option maxRecDepth 100000 in
theorem next_walk (n m : Nat) (h1n : 1 ≤ n) (hm : m < 1000) (h : nextB n m = true) (w0 : World) :
    Calls Tryd.prog 13 #[.int .i64 (n : Int)] w0 fun e w' => e = .returned (.int .i64 (m : Int)) ∧ Chg [] w0 w' := by
  refine calls_in Tryd.func13 Tryd.ntmps13 rfl rfl ?_
  have hp := Hp.start w0
  obtain ⟨hnm, h1m, hdm, hall⟩ := next_parts h
  refine sc_seq ?_
  refine sc_region ?_
  refine st_v (ov_assign rfl) rfl ?_
  refine st_nil ?_
  refine pn_then ?_
  refine sc_seq ?_
  refine sc_seq ?_
  refine sc_region ?_
  refine st_v (ov_move rfl) rfl ?_
  refine st_v (ov_add_n (a := n) (b := 1) rfl rfl (by omega)) rfl ?_
  refine st_v (ov_assign rfl) rfl ?_
  refine st_nil ?_
  refine pn_then ?_
  refine sc_block ?_
  refine sc_loopH1 (α := Nat) (kv := []) (kl := []) (fun c kv => (3, .int .i64 ((c : Nat) : Int)) :: kv) (fun c kl => kl) (fun c => (n < c ∧ c ≤ m)) (fun c => m + 1 - c) (n + 1) hp (Sub.cons rfl (Sub.nil _)) (LSub.nil _) ?_ ?_
  · exact (by first | omega | (simp; done) | (simp; omega) | (simp [*]; omega))
  intro c w hp hx
  have hi : n < c ∧ c ≤ m := hx
  refine sc_seq ?_
  refine sc_seq ?_
  refine sc_region ?_
  refine st_v (ov_move rfl) rfl ?_
  refine st_v (ov_lss rfl rfl) rfl ?_
  refine st_nil ?_
  refine pn_then ?_
  refine sc_cond rfl (fun hc => ?_) (fun hc => ?_)
  ·
    have hc := of_decide_eq_true hc
    refine sc_skip ?_
    refine pn_then ?_
    refine sc_seq ?_
    refine sc_block ?_
    refine sc_seq ?_
    refine sc_region ?_
    refine st_v (ov_assign rfl) rfl ?_
    refine st_nil ?_
    refine pn_then ?_
    refine sc_seq ?_
    refine sc_seq ?_
    refine sc_region ?_
    refine st_v (ov_assign rfl) rfl ?_
    refine st_nil ?_
    refine pn_then ?_
    refine sc_block ?_
    refine sc_loopH2 (α := Nat) (β := Bool) (kv := [(3, _)]) (kl := []) (fun d f kv => (5, .int .i64 ((d : Nat) : Int)) :: (4, .bool f) :: kv) (fun d f kl => kl) (fun d f => (2 ≤ d ∧ d ≤ c) ∧ (f = hasD c d)) (fun d f => c - d) 2 false hp (Sub.cons rfl (Sub.cons rfl (Sub.cons rfl (Sub.nil _)))) (LSub.nil _) ?_ ?_
    · exact ⟨(by first | omega | (simp; done) | (simp; omega) | (simp [*]; omega)), rfl⟩
    intro d f w hp hx
    obtain ⟨hd, hf⟩ := hx
    refine sc_seq ?_
    refine sc_seq ?_
    refine sc_region ?_
    refine st_v (ov_move rfl) rfl ?_
    refine st_v (ov_move rfl) rfl ?_
    refine st_v (ov_lss rfl rfl) rfl ?_
    refine st_nil ?_
    refine pn_then ?_
    refine sc_cond rfl (fun hc => ?_) (fun hc => ?_)
    ·
      have hc := of_decide_eq_true hc
      refine sc_skip ?_
      refine pn_then ?_
      refine sc_seq ?_
      refine sc_block ?_
      refine sc_seq ?_
      refine sc_region ?_
      refine st_v (ov_move rfl) rfl ?_
      refine st_v (ov_move rfl) rfl ?_
      refine st_v (ov_rem_n (a := c) (b := d) rfl rfl (by omega)) rfl ?_
      refine st_v (ov_eql rfl rfl) rfl ?_
      refine st_nil ?_
      refine pn_then ?_
      refine sc_cond rfl (fun hc => ?_) (fun hc => ?_)
      ·
        have hc := of_decide_eq_true hc
        refine sc_region ?_
        refine st_v (ov_assign rfl) rfl ?_
        refine st_nil ?_
        refine pn_block ?_
        refine pn_then ?_
        refine sc_region ?_
        refine st_v (ov_move rfl) rfl ?_
        refine st_v (ov_add_n (a := d) (b := 1) rfl rfl (by omega)) rfl ?_
        refine st_v (ov_assign rfl) rfl ?_
        refine st_nil ?_
        refine pn_roundH2 (d + 1) true hp (Sub.cons rfl (Sub.cons rfl (Sub.cons rfl (Sub.nil _)))) ?_ (LSub.nil _) ?_
        · omega
        exact ⟨(by first | omega | (simp; done) | (simp; omega) | (simp [*]; omega)), (by rw [hasD_succ, show decide (2 ≤ d) = true from decide_eq_true hd.1, show decide (c % d = 0) = true from decide_eq_true (by omega)]; simp)⟩
      ·
        have hc := of_decide_eq_false hc
        refine sc_skip ?_
        refine pn_block ?_
        refine pn_then ?_
        refine sc_region ?_
        refine st_v (ov_move rfl) rfl ?_
        refine st_v (ov_add_n (a := d) (b := 1) rfl rfl (by omega)) rfl ?_
        refine st_v (ov_assign rfl) rfl ?_
        refine st_nil ?_
        refine pn_roundH2 (d + 1) f hp (Sub.cons rfl (Sub.cons rfl (Sub.cons rfl (Sub.nil _)))) ?_ (LSub.nil _) ?_
        · omega
        exact ⟨(by first | omega | (simp; done) | (simp; omega) | (simp [*]; omega)), (by rw [hasD_succ, ← hf, show decide (c % d = 0) = false from decide_eq_false (by omega)]; simp)⟩
    ·
      have hc := of_decide_eq_false hc
      refine sc_exit ?_
      refine pe_then ?_
      refine pe_then ?_
      refine pe_hit ?_
      refine pn_then ?_
      refine sc_seq ?_
      have hdc : d = c := by omega
      rw [hdc] at hf
      refine sc_region ?_
      refine st_v (ov_move rfl) rfl ?_
      refine st_v (v := .bool true) ((ov_gtr rfl rfl).is (congrArg Value.bool (decide_eq_true (by omega)))) rfl ?_
      refine st_v (ov_move rfl) rfl ?_
      refine st_on (j := 2) rfl rfl ?_
      refine st_v (ov_move rfl) rfl ?_
      refine st_on (j := 2) rfl rfl ?_
      refine st_v (ov_not rfl) rfl ?_
      refine st_v (ov_pick_t rfl rfl) rfl ?_
      refine st_nil ?_
      refine pn_then ?_
      refine sc_cond rfl (fun hc => ?_) (fun hc => ?_)
      ·
        have hcm : c = m := by rcases Nat.lt_or_ge c m with h9 | h9; exfalso; have := hall c h9 (by omega) (by omega); rw [← hf] at this; rw [this] at hc; cases hc; omega
        refine sc_seq ?_
        refine sc_region ?_
        refine st_v (ov_move rfl) rfl ?_
        refine st_v (ov_assign rfl) rfl ?_
        refine st_nil ?_
        refine pn_then ?_
        refine sc_ret ?_
        refine pr_block ?_
        refine pr_then ?_
        refine pr_then ?_
        refine pr_block ?_
        refine pr_then ?_
        refine pr_one rfl rfl ?_
        exact ⟨by rw [hcm], hp.chg⟩
      ·
        have hcm : c ≠ m := fun h9 => by rw [h9, hdm] at hf; rw [hf] at hc; cases hc
        refine sc_skip ?_
        refine pn_block ?_
        refine pn_then ?_
        refine sc_region ?_
        refine st_v (ov_move rfl) rfl ?_
        refine st_v (ov_add_n (a := c) (b := 1) rfl rfl (by omega)) rfl ?_
        refine st_v (ov_assign rfl) rfl ?_
        refine st_nil ?_
        refine pn_roundH1 (c + 1) hp (Sub.cons rfl (Sub.nil _)) ?_ (LSub.nil _) ?_
        · omega
        exact (by first | omega | (simp; done) | (simp; omega) | (simp [*]; omega))
  ·
    have hc := of_decide_eq_false hc
    refine sc_exit ?_
    refine pe_then ?_
    refine pe_then ?_
    refine pe_hit ?_
    refine pn_then ?_
    refine sc_seq ?_
    refine sc_region ?_
    refine st_v (ov_assign rfl) rfl ?_
    refine st_nil ?_
    refine pn_then ?_
    refine sc_ret ?_
    refine pr_one rfl rfl ?_
    exact absurd hi.2 (by omega)

end Go.Proofs.YtcpbfnbfbladoaaDoor
