/-
  The walks of rise, log, tree, height.
-/
import Derived.Test.YtcjnpaikmcjjlaaDoorFacts
import Derived.Test.YtcjnpaikmcjjlaaDoorPrfP
namespace Go.Proofs.YtcjnpaikmcjjlaaDoor
open Go Go.RowKit

set_option maxRecDepth 100000 in
theorem len64_walk (x : Nat) (hx : x < 9223372036854775808) (w0 : World) :
    Calls Tryd.prog 101 #[.int .u64 (x : Int)] w0 fun e w' => e = .returned (.int .i64 (bitLen x : Nat)) ∧ Chg [] w0 w' := by
  refine calls_in Tryd.func101 Tryd.ntmps101 rfl rfl ?_
  have hp := Hp.start w0
  refine sc_seq ?_
  refine sc_region ?_
  refine st_v (ov_assign rfl) rfl ?_
  refine st_nil ?_
  refine pn_then ?_
  refine sc_seq ?_
  refine sc_seq ?_
  refine sc_region ?_
  refine st_v (ov_move rfl) rfl ?_
  refine st_v (ov_geq rfl rfl) rfl ?_
  refine st_nil ?_
  refine pn_then ?_
  refine sc_cutH2 (α := Nat) (β := Nat) (kv := []) (kl := []) (fun y1 m1 kv => (0, .int .u64 ((y1 : Nat) : Int)) :: (2, .int .i64 ((m1 : Nat) : Int)) :: kv) (fun y1 m1 kl => kl) (fun y1 m1 => (bitLen x = m1 + bitLen y1 ∧ y1 < 4294967296 ∧ m1 ≤ 32)) hp (Sub.nil _) (LSub.nil _) ?_ ?_
  ·
    refine sc_cond rfl (fun hc => ?_) (fun hc => ?_)
    ·
      have hc := of_decide_eq_true hc
      refine sc_seq ?_
      refine sc_region ?_
      refine st_v (ov_move rfl) rfl ?_
      refine st_v (ov_shr_n (a := x) (s := 32) rfl rfl ⟨by omega, by show 32 ≤ 64; omega⟩) rfl ?_
      refine st_v (ov_assign rfl) rfl ?_
      refine st_nil ?_
      refine pn_then ?_
      refine sc_region ?_
      refine st_v (ov_assign rfl) rfl ?_
      refine st_nil ?_
      refine pn_cutH2 (x >>> 32) 32 hp (Sub.cons rfl (Sub.cons rfl (Sub.nil _))) (LSub.nil _) ?_
      exact ⟨len_cut (b := 32) (m := 0) (Nat.zero_add _).symm (by omega), shr_lt (by omega), by omega⟩
    ·
      have hc := of_decide_eq_false hc
      refine sc_skip ?_
      refine pn_cutH2 x 0 hp (Sub.cons rfl (Sub.cons rfl (Sub.nil _))) (LSub.nil _) ?_
      exact ⟨by omega, by omega, by omega⟩
  ·
    intro y1 m1 w hp hx
    have hy1 : bitLen x = m1 + bitLen y1 ∧ y1 < 4294967296 ∧ m1 ≤ 32 := hx
    refine pn_then ?_
    refine sc_seq ?_
    refine sc_seq ?_
    refine sc_region ?_
    refine st_v (ov_move rfl) rfl ?_
    refine st_v (ov_geq rfl rfl) rfl ?_
    refine st_nil ?_
    refine pn_then ?_
    refine sc_cutH2 (α := Nat) (β := Nat) (kv := []) (kl := []) (fun y2 m2 kv => (0, .int .u64 ((y2 : Nat) : Int)) :: (2, .int .i64 ((m2 : Nat) : Int)) :: kv) (fun y2 m2 kl => kl) (fun y2 m2 => (bitLen x = m2 + bitLen y2 ∧ y2 < 65536 ∧ m2 ≤ 48)) hp (Sub.nil _) (LSub.nil _) ?_ ?_
    ·
      refine sc_cond rfl (fun hc => ?_) (fun hc => ?_)
      ·
        have hc := of_decide_eq_true hc
        refine sc_seq ?_
        refine sc_region ?_
        refine st_v (ov_move rfl) rfl ?_
        refine st_v (ov_shr_n (a := y1) (s := 16) rfl rfl ⟨by omega, by show 16 ≤ 64; omega⟩) rfl ?_
        refine st_v (ov_assign rfl) rfl ?_
        refine st_nil ?_
        refine pn_then ?_
        refine sc_region ?_
        refine st_v (ov_move rfl) rfl ?_
        refine st_v (ov_add_n (a := m1) (b := 16) rfl rfl (by omega)) rfl ?_
        refine st_v (ov_assign rfl) rfl ?_
        refine st_nil ?_
        refine pn_cutH2 (y1 >>> 16) (m1 + 16) hp (Sub.cons rfl (Sub.cons rfl (Sub.nil _))) (LSub.nil _) ?_
        exact ⟨len_cut (b := 16) hy1.1 (by omega), shr_lt (by omega), by omega⟩
      ·
        have hc := of_decide_eq_false hc
        refine sc_skip ?_
        refine pn_cutH2 y1 m1 hp (Sub.cons rfl (Sub.cons rfl (Sub.nil _))) (LSub.nil _) ?_
        exact ⟨by omega, by omega, by omega⟩
    ·
      intro y2 m2 w hp hx
      have hy2 : bitLen x = m2 + bitLen y2 ∧ y2 < 65536 ∧ m2 ≤ 48 := hx
      refine pn_then ?_
      refine sc_seq ?_
      refine sc_seq ?_
      refine sc_region ?_
      refine st_v (ov_move rfl) rfl ?_
      refine st_v (ov_geq rfl rfl) rfl ?_
      refine st_nil ?_
      refine pn_then ?_
      refine sc_cutH2 (α := Nat) (β := Nat) (kv := []) (kl := []) (fun y3 m3 kv => (0, .int .u64 ((y3 : Nat) : Int)) :: (2, .int .i64 ((m3 : Nat) : Int)) :: kv) (fun y3 m3 kl => kl) (fun y3 m3 => (bitLen x = m3 + bitLen y3 ∧ y3 < 256 ∧ m3 ≤ 56)) hp (Sub.nil _) (LSub.nil _) ?_ ?_
      ·
        refine sc_cond rfl (fun hc => ?_) (fun hc => ?_)
        ·
          have hc := of_decide_eq_true hc
          refine sc_seq ?_
          refine sc_region ?_
          refine st_v (ov_move rfl) rfl ?_
          refine st_v (ov_shr_n (a := y2) (s := 8) rfl rfl ⟨by omega, by show 8 ≤ 64; omega⟩) rfl ?_
          refine st_v (ov_assign rfl) rfl ?_
          refine st_nil ?_
          refine pn_then ?_
          refine sc_region ?_
          refine st_v (ov_move rfl) rfl ?_
          refine st_v (ov_add_n (a := m2) (b := 8) rfl rfl (by omega)) rfl ?_
          refine st_v (ov_assign rfl) rfl ?_
          refine st_nil ?_
          refine pn_cutH2 (y2 >>> 8) (m2 + 8) hp (Sub.cons rfl (Sub.cons rfl (Sub.nil _))) (LSub.nil _) ?_
          exact ⟨len_cut (b := 8) hy2.1 (by omega), shr_lt (by omega), by omega⟩
        ·
          have hc := of_decide_eq_false hc
          refine sc_skip ?_
          refine pn_cutH2 y2 m2 hp (Sub.cons rfl (Sub.cons rfl (Sub.nil _))) (LSub.nil _) ?_
          exact ⟨by omega, by omega, by omega⟩
      ·
        intro y3 m3 w hp hx
        have hy3 : bitLen x = m3 + bitLen y3 ∧ y3 < 256 ∧ m3 ≤ 56 := hx
        refine pn_then ?_
        refine sc_seq ?_
        refine sc_region ?_
        refine st_v (ov_move rfl) rfl ?_
        refine st_v (ov_move rfl) rfl ?_
        refine st_v (ov_conv_n_8 (a := y3) Tryd.underlying118 Tryd.underlying5 rfl) rfl ?_
        refine st_v (ov_indexStrN (s := len8L) (i := (UInt8.ofNat y3).toNat) rfl rfl Tryd.underlying9 (by rw [len8_len]; exact UInt8.toNat_lt _)) rfl ?_
        refine st_v (ov_conv_8_64 (c := (len8L).getD ((UInt8.ofNat y3).toNat) 0) Tryd.underlying5 Tryd.underlying3 rfl) rfl ?_
        refine st_v (ov_add_n (a := m3) (b := ((len8L).getD ((UInt8.ofNat y3).toNat) 0).toNat) rfl rfl (by have := UInt8.toNat_lt (len8L.getD (UInt8.ofNat y3).toNat 0); omega)) rfl ?_
        refine st_v (ov_assign rfl) rfl ?_
        refine st_nil ?_
        refine pn_then ?_
        refine sc_ret ?_
        refine pr_one rfl rfl ?_
        exact ⟨by rw [len_last hy3.2.1, hy3.1], hp.chg⟩

set_option maxRecDepth 100000 in
theorem len_walk (x : Nat) (hx : x < 9223372036854775808) (w0 : World) :
    Calls Tryd.prog 85 #[.int .u64 (x : Int)] w0 fun e w' => e = .returned (.int .i64 (bitLen x : Nat)) ∧ Chg [] w0 w' := by
  refine calls_in Tryd.func85 Tryd.ntmps85 rfl rfl ?_
  have hp := Hp.start w0
  refine sc_seq ?_
  refine sc_region ?_
  refine st_v (ov_assign rfl) rfl ?_
  refine st_nil ?_
  refine pn_then ?_
  refine sc_seq ?_
  refine sc_false rfl ?_
  refine sc_skip ?_
  refine pn_then ?_
  refine sc_seq ?_
  refine sc_region ?_
  refine st_v (ov_move rfl) rfl ?_
  refine st_call pl101 rfl rfl rfl (len64_walk x hx _) ?_
  rintro _ w ⟨rfl, hch⟩
  refine ⟨_, rfl, ?_⟩
  replace hp := hp.call hch
  clear hch
  refine st_v (ov_assign rfl) rfl ?_
  refine st_nil ?_
  refine pn_then ?_
  refine sc_ret ?_
  refine pr_one rfl rfl ?_
  exact ⟨rfl, hp.chg⟩

set_option maxRecDepth 100000 in
theorem power_walk (k : Nat) (hk : k ≤ 62) (w0 : World) :
    Calls Tryd.prog 64 #[.int .i64 (k : Int)] w0 fun e w' => e = .returned (.int .i64 ((2 ^ k : Nat) : Int)) ∧ Chg [] w0 w' := by
  refine calls_in Tryd.func64 Tryd.ntmps64 rfl rfl ?_
  have hp := Hp.start w0
  refine sc_seq ?_
  refine sc_region ?_
  refine st_v (ov_assign rfl) rfl ?_
  refine st_nil ?_
  refine pn_then ?_
  refine sc_seq ?_
  refine sc_region ?_
  refine st_v (ov_assign rfl) rfl ?_
  refine st_nil ?_
  refine pn_then ?_
  refine sc_seq ?_
  refine sc_seq ?_
  refine sc_region ?_
  refine st_v (ov_assign rfl) rfl ?_
  refine st_nil ?_
  refine pn_then ?_
  refine sc_block ?_
  refine sc_loopH2 (α := Nat) (β := Nat) (kv := [(0, _)]) (kl := []) (fun i p kv => (4, .int .i64 ((i : Nat) : Int)) :: (3, .int .i64 ((p : Nat) : Int)) :: kv) (fun i p kl => kl) (fun i p => (i ≤ k) ∧ (p = 2 ^ i)) (fun i p => k - i) 0 1 hp (Sub.cons rfl (Sub.cons rfl (Sub.cons rfl (Sub.nil _)))) (LSub.nil _) ?_ ?_
  · exact ⟨(by first | omega | (simp; done) | (simp; omega) | (simp [*]; omega)), rfl⟩
  intro i p w hp hx
  obtain ⟨hi, hP⟩ := hx
  refine sc_seq ?_
  refine sc_seq ?_
  refine sc_region ?_
  refine st_v (ov_move rfl) rfl ?_
  refine st_v (ov_move rfl) rfl ?_
  refine st_v (ov_lss rfl rfl) rfl ?_
  refine st_nil ?_
  refine pn_then ?_
  refine sc_cond rfl (fun hc => ?_) (fun hc => ?_)
  ·
    have hc := of_decide_eq_true hc
    have hPb : p ≤ 2 ^ 61 := by rw [hP]; exact Nat.pow_le_pow_right (by omega) (by omega)
    refine sc_skip ?_
    refine pn_then ?_
    refine sc_seq ?_
    refine sc_block ?_
    refine sc_region ?_
    refine st_v (ov_move rfl) rfl ?_
    refine st_v (ov_mul_n (a := 2) (b := p) rfl rfl (by omega)) rfl ?_
    refine st_v (ov_assign rfl) rfl ?_
    refine st_nil ?_
    refine pn_block ?_
    refine pn_then ?_
    refine sc_region ?_
    refine st_v (ov_move rfl) rfl ?_
    refine st_v (ov_add_n (a := i) (b := 1) rfl rfl (by omega)) rfl ?_
    refine st_v (ov_assign rfl) rfl ?_
    refine st_nil ?_
    refine pn_roundH2 (i + 1) (2 * p) hp (Sub.cons rfl (Sub.cons rfl (Sub.cons rfl (Sub.nil _)))) ?_ (LSub.nil _) ?_
    · omega
    exact ⟨(by first | omega | (simp; done) | (simp; omega) | (simp [*]; omega)), (by rw [hP, Nat.pow_succ, Nat.mul_comm])⟩
  ·
    have hc := of_decide_eq_false hc
    refine sc_exit ?_
    refine pe_then ?_
    refine pe_then ?_
    refine pe_hit ?_
    refine pn_then ?_
    refine sc_seq ?_
    refine sc_region ?_
    refine st_v (ov_move rfl) rfl ?_
    refine st_v (ov_assign rfl) rfl ?_
    refine st_nil ?_
    refine pn_then ?_
    refine sc_ret ?_
    refine pr_one rfl rfl ?_
    obtain rfl : i = k := by omega
    exact ⟨by rw [hP], hp.chg⟩

set_option maxRecDepth 100000 in
theorem rise7_walk (n : Nat) (hn : 1 ≤ n ∧ n ≤ 1048576) (w0 : World) :
    Calls Tryd.prog 73 #[.int .i64 (n : Int)] w0 fun e w' => e = .returned (.int .i64 (bitLen (n - 1) : Nat)) ∧ Chg [] w0 w' := by
  refine calls_in Tryd.func73 Tryd.ntmps73 rfl rfl ?_
  have hp := Hp.start w0
  refine sc_seq ?_
  refine sc_region ?_
  refine st_v (ov_assign rfl) rfl ?_
  refine st_nil ?_
  refine pn_then ?_
  refine sc_seq ?_
  refine sc_region ?_
  refine st_v (ov_assign rfl) rfl ?_
  refine st_nil ?_
  refine pn_then ?_
  refine sc_seq ?_
  refine sc_block ?_
  refine sc_loopH1 (α := Nat) (kv := [(0, _)]) (kl := []) (fun h kv => (3, .int .i64 ((h : Nat) : Int)) :: kv) (fun h kl => kl) (fun h => ((h = 0 ∨ 2 ^ (h - 1) < n) ∧ h ≤ 20)) (fun h => 21 - h) 0 hp (Sub.cons rfl (Sub.cons rfl (Sub.nil _))) (LSub.nil _) ?_ ?_
  · exact ⟨.inl rfl, by omega⟩
  intro h w hp hx
  have hi : (h = 0 ∨ 2 ^ (h - 1) < n) ∧ h ≤ 20 := hx
  refine sc_seq ?_
  refine sc_seq ?_
  refine sc_region ?_
  refine st_v (ov_move rfl) rfl ?_
  refine st_call pl64 rfl rfl rfl (power_walk h (by omega) _) ?_
  rintro _ w ⟨rfl, hch⟩
  refine ⟨_, rfl, ?_⟩
  replace hp := hp.call hch
  clear hch
  obtain ⟨P, hP⟩ : ∃ P, P = 2 ^ h := ⟨_, rfl⟩
  rw [← hP]
  refine st_v (ov_move rfl) rfl ?_
  refine st_v (ov_lss rfl rfl) rfl ?_
  refine st_nil ?_
  refine pn_then ?_
  refine sc_cond rfl (fun hc => ?_) (fun hc => ?_)
  ·
    have hc := of_decide_eq_true hc
    refine sc_skip ?_
    refine pn_then ?_
    refine sc_block ?_
    refine sc_region ?_
    refine st_v (ov_move rfl) rfl ?_
    refine st_v (ov_add_n (a := h) (b := 1) rfl rfl (by omega)) rfl ?_
    refine st_v (ov_assign rfl) rfl ?_
    refine st_nil ?_
    refine pn_block ?_
    refine pn_roundH1 (h + 1) hp (Sub.cons rfl (Sub.cons rfl (Sub.nil _))) ?_ (LSub.nil _) ?_
    · omega
    exact ⟨.inr (by rw [show h + 1 - 1 = h from rfl, ← hP]; omega), by have := pow_lt20 (h := h) (n := n) (by rw [← hP]; omega) hn.2; omega⟩
  ·
    have hc := of_decide_eq_false hc
    refine sc_exit ?_
    refine pe_then ?_
    refine pe_then ?_
    refine pe_hit ?_
    refine pn_then ?_
    refine sc_seq ?_
    refine sc_region ?_
    refine st_v (ov_move rfl) rfl ?_
    refine st_v (ov_assign rfl) rfl ?_
    refine st_nil ?_
    refine pn_then ?_
    refine sc_ret ?_
    refine pr_one rfl rfl ?_
    exact ⟨by rw [rise_is hn.1 (by rw [← hP]; omega) hi.1], hp.chg⟩

set_option maxRecDepth 100000 in
theorem log_walk (x : Int) (w0 : World) :
    Calls Tryd.prog 63 #[.int .i64 x] w0 fun e w' => e = .returned (.int .i64 (logL x : Nat)) ∧ Chg [] w0 w' := by
  refine calls_in Tryd.func63 Tryd.ntmps63 rfl rfl ?_
  have hp := Hp.start w0
  refine sc_seq ?_
  refine sc_region ?_
  refine st_v (ov_assign rfl) rfl ?_
  refine st_nil ?_
  refine pn_then ?_
  refine sc_seq ?_
  refine sc_seq ?_
  refine sc_region ?_
  refine st_v (ov_assign rfl) rfl ?_
  refine st_nil ?_
  refine pn_then ?_
  refine sc_block ?_
  refine sc_loopH1 (α := Nat) (kv := [(0, _)]) (kl := []) (fun k kv => (3, .int .i64 ((k : Nat) : Int)) :: kv) (fun k kl => kl) (fun k => (1 ≤ k ∧ k ≤ 10) ∧ (∀ j, 1 ≤ j → j < k → ((2 ^ j : Nat) : Int) ≠ x)) (fun k => 11 - k) 1 hp (Sub.cons rfl (Sub.cons rfl (Sub.nil _))) (LSub.nil _) ?_ ?_
  · exact ⟨⟨by omega, by omega⟩, (fun j h1 h2 => by omega)⟩
  intro k w hp hx
  obtain ⟨hk, hj⟩ := hx
  refine sc_seq ?_
  refine sc_seq ?_
  refine sc_region ?_
  refine st_v (ov_move rfl) rfl ?_
  refine st_call pl64 rfl rfl rfl (power_walk k (by omega) _) ?_
  rintro _ w ⟨rfl, hch⟩
  refine ⟨_, rfl, ?_⟩
  replace hp := hp.call hch
  clear hch
  obtain ⟨P, hP⟩ : ∃ P, P = 2 ^ k := ⟨_, rfl⟩
  rw [← hP]
  refine st_v (ov_leq rfl rfl) rfl ?_
  refine st_nil ?_
  refine pn_then ?_
  refine sc_cond rfl (fun hc => ?_) (fun hc => ?_)
  ·
    have hc := of_decide_eq_true hc
    have hk9 : k ≤ 9 := pow_le9 (by rw [← hP]; omega)
    refine sc_skip ?_
    refine pn_then ?_
    refine sc_seq ?_
    refine sc_block ?_
    refine sc_seq ?_
    refine sc_region ?_
    refine st_v (ov_move rfl) rfl ?_
    refine st_call pl64 rfl rfl rfl (power_walk k (by omega) _) ?_
    rintro _ w ⟨rfl, hch⟩
    refine ⟨_, rfl, ?_⟩
    replace hp := hp.call hch
    clear hch
    rw [← hP]
    refine st_v (ov_move rfl) rfl ?_
    refine st_v (ov_eql rfl rfl) rfl ?_
    refine st_nil ?_
    refine pn_then ?_
    refine sc_cond rfl (fun hc => ?_) (fun hc => ?_)
    ·
      have hc := of_decide_eq_true hc
      refine sc_seq ?_
      refine sc_region ?_
      refine st_v (ov_move rfl) rfl ?_
      refine st_v (ov_assign rfl) rfl ?_
      refine st_nil ?_
      refine pn_then ?_
      refine sc_ret ?_
      refine pr_block ?_
      refine pr_then ?_
      refine pr_then ?_
      refine pr_block ?_
      refine pr_then ?_
      refine pr_one rfl rfl ?_
      exact ⟨by rw [logL_pow hk.1 hk9 (by rw [← hP]; exact hc)], hp.chg⟩
    ·
      have hc := of_decide_eq_false hc
      refine sc_skip ?_
      refine pn_block ?_
      refine pn_then ?_
      refine sc_region ?_
      refine st_v (ov_move rfl) rfl ?_
      refine st_v (ov_add_n (a := k) (b := 1) rfl rfl (by omega)) rfl ?_
      refine st_v (ov_assign rfl) rfl ?_
      refine st_nil ?_
      refine pn_roundH1 (k + 1) hp (Sub.cons rfl (Sub.cons rfl (Sub.nil _))) ?_ (LSub.nil _) ?_
      · omega
      exact ⟨⟨by omega, by omega⟩, (fun j h1 h2 => by rcases Nat.lt_or_ge j k with h3 | h3; exact hj j h1 h3; obtain rfl : j = k := (by omega); rw [← hP]; exact hc)⟩
  ·
    have hc := of_decide_eq_false hc
    refine sc_exit ?_
    refine pe_then ?_
    refine pe_then ?_
    refine pe_hit ?_
    refine pn_then ?_
    refine sc_seq ?_
    refine sc_region ?_
    refine st_v (ov_assign rfl) rfl ?_
    refine st_nil ?_
    refine pn_then ?_
    refine sc_ret ?_
    refine pr_one rfl rfl ?_
    have hk10 : k = 10 := by rcases Nat.lt_or_ge k 10 with h | h; exfalso; have := Nat.pow_le_pow_right (show 0 < 2 by omega) (show k ≤ 9 by omega); rw [← hP] at this; omega; omega
    subst hk10
    exact ⟨by rw [logL_none hj]; rfl, hp.chg⟩

set_option maxRecDepth 100000 in
theorem tree_walk (n low : Int) (hn : I64 n) (hlow : I64 low) (w0 : World) :
    Calls Tryd.prog 88 #[.int .i64 n, .int .i64 low] w0 fun e w' => e = .returned (.int .i64 (treeE n low)) ∧ Chg [] w0 w' := by
  refine calls_in Tryd.func88 Tryd.ntmps88 rfl rfl ?_
  have hp := Hp.start w0
  unfold I64 at hn hlow
  refine sc_seq ?_
  refine sc_region ?_
  refine st_v (ov_assign rfl) rfl ?_
  refine st_nil ?_
  refine pn_then ?_
  refine sc_seq ?_
  refine sc_seq ?_
  refine sc_region ?_
  refine st_v (ov_move rfl) rfl ?_
  refine st_v (ov_lss rfl rfl) rfl ?_
  refine st_v (ov_move rfl) rfl ?_
  refine st_split (j := 7) rfl (fun hb => ?_) (fun hb => ?_)
  ·
    have hb := of_decide_eq_true hb
    refine st_off (j := 2) rfl rfl rfl rfl ?_
    refine st_off (j := 2) rfl rfl rfl rfl ?_
    refine st_v (ov_pick_t rfl rfl) rfl ?_
    refine st_nil ?_
    refine pn_then ?_
    refine sc_true rfl ?_
    refine sc_seq ?_
    refine sc_region ?_
    refine st_v (ov_assign rfl) rfl ?_
    refine st_nil ?_
    refine pn_then ?_
    refine sc_ret ?_
    refine pr_then ?_
    refine pr_one rfl rfl ?_
    exact ⟨by unfold treeE; rw [if_pos (by omega)], hp.chg⟩
  ·
    have hb := of_decide_eq_false hb
    refine st_on (j := 2) rfl rfl ?_
    refine st_v (ov_move rfl) rfl ?_
    refine st_on (j := 2) rfl rfl ?_
    refine st_v (ov_gtr rfl rfl) rfl ?_
    refine st_v (ov_pick_f rfl rfl) rfl ?_
    refine st_nil ?_
    refine pn_then ?_
    refine sc_cond rfl (fun hc => ?_) (fun hc => ?_)
    ·
      have hc := of_decide_eq_true hc
      refine sc_seq ?_
      refine sc_region ?_
      refine st_v (ov_assign rfl) rfl ?_
      refine st_nil ?_
      refine pn_then ?_
      refine sc_ret ?_
      refine pr_then ?_
      refine pr_one rfl rfl ?_
      exact ⟨by unfold treeE; rw [if_pos (by omega)], hp.chg⟩
    ·
      have hc := of_decide_eq_false hc
      obtain ⟨m, rfl⟩ : ∃ m : Nat, n = (m : Int) := ⟨n.toNat, by omega⟩
      have h20 := len_20 (m := m) (by omega)
      refine sc_skip ?_
      refine pn_then ?_
      refine sc_seq ?_
      refine sc_seq ?_
      refine sc_region ?_
      refine st_v (ov_move rfl) rfl ?_
      refine st_v (ov_lss rfl rfl) rfl ?_
      refine st_v (ov_move rfl) rfl ?_
      refine st_split (j := 13) rfl (fun hb => ?_) (fun hb => ?_)
      ·
        have hb := of_decide_eq_true hb
        refine st_off (j := 2) rfl rfl rfl rfl ?_
        refine st_off (j := 2) rfl rfl rfl rfl ?_
        refine st_off (j := 2) rfl rfl rfl rfl ?_
        refine st_off (j := 2) rfl rfl rfl rfl ?_
        refine st_off (j := 2) rfl rfl rfl rfl ?_
        refine st_v (ov_pick_t rfl rfl) rfl ?_
        refine st_nil ?_
        refine pn_then ?_
        refine sc_true rfl ?_
        refine sc_seq ?_
        refine sc_region ?_
        refine st_v (ov_assign rfl) rfl ?_
        refine st_nil ?_
        refine pn_then ?_
        refine sc_ret ?_
        refine pr_then ?_
        refine pr_one rfl rfl ?_
        exact ⟨by unfold treeE; rw [Int.toNat_natCast, if_neg (by omega), if_pos (by omega)], hp.chg⟩
      ·
        have hb := of_decide_eq_false hb
        refine st_on (j := 2) rfl rfl ?_
        refine st_v (ov_move rfl) rfl ?_
        refine st_on (j := 2) rfl rfl ?_
        refine st_v (ov_move rfl) rfl ?_
        refine st_on (j := 2) rfl rfl ?_
        refine st_call pl73 rfl rfl rfl (rise7_walk m (by omega) _) ?_
        rintro _ w ⟨rfl, hch⟩
        refine ⟨_, rfl, ?_⟩
        replace hp := hp.call hch
        clear hch
        refine st_on (j := 2) rfl rfl ?_
        refine st_v (ov_sub_i64 rfl rfl (by omega)) rfl ?_
        refine st_on (j := 2) rfl rfl ?_
        refine st_v (ov_gtr rfl rfl) rfl ?_
        refine st_v (ov_pick_f rfl rfl) rfl ?_
        refine st_nil ?_
        refine pn_then ?_
        refine sc_cond rfl (fun hc => ?_) (fun hc => ?_)
        ·
          have hc := of_decide_eq_true hc
          refine sc_seq ?_
          refine sc_region ?_
          refine st_v (ov_assign rfl) rfl ?_
          refine st_nil ?_
          refine pn_then ?_
          refine sc_ret ?_
          refine pr_then ?_
          refine pr_one rfl rfl ?_
          exact ⟨by unfold treeE; rw [Int.toNat_natCast, if_neg (by omega), if_pos (by omega)], hp.chg⟩
        ·
          have hc := of_decide_eq_false hc
          refine sc_skip ?_
          refine pn_then ?_
          refine sc_seq ?_
          refine sc_region ?_
          refine st_v (ov_assign rfl) rfl ?_
          refine st_nil ?_
          refine pn_then ?_
          refine sc_ret ?_
          refine pr_one rfl rfl ?_
          exact ⟨by unfold treeE; rw [Int.toNat_natCast, if_neg (by omega), if_neg (by omega)], hp.chg⟩

set_option maxRecDepth 100000 in
theorem height7_walk (n low : Int) (hn : I64 n) (hlow : I64 low) (w0 : World) :
    Calls Tryd.prog 77 #[.int .i64 n, .int .i64 low] w0 fun e w' => e = .returned (.tuple #[.int .i64 (topH n low), .int .i64 (treeE n low)]) ∧ Chg [] w0 w' := by
  refine calls_in Tryd.func77 Tryd.ntmps77 rfl rfl ?_
  have hp := Hp.start w0
  unfold I64 at hn hlow
  refine sc_seq ?_
  refine sc_region ?_
  refine st_v (ov_assign rfl) rfl ?_
  refine st_v (ov_assign rfl) rfl ?_
  refine st_nil ?_
  refine pn_then ?_
  refine sc_seq ?_
  refine sc_seq ?_
  refine sc_region ?_
  refine st_v (ov_move rfl) rfl ?_
  refine st_v (ov_lss rfl rfl) rfl ?_
  refine st_v (ov_move rfl) rfl ?_
  refine st_split (j := 9) rfl (fun hb => ?_) (fun hb => ?_)
  ·
    have hb := of_decide_eq_true hb
    refine st_off (j := 2) rfl rfl rfl rfl ?_
    refine st_off (j := 2) rfl rfl rfl rfl ?_
    refine st_v (ov_pick_t rfl rfl) rfl ?_
    refine st_nil ?_
    refine pn_then ?_
    refine sc_true rfl ?_
    refine sc_seq ?_
    refine sc_region ?_
    refine st_v (ov_assign rfl) rfl ?_
    refine st_v (ov_assign rfl) rfl ?_
    refine st_nil ?_
    refine pn_then ?_
    refine sc_ret ?_
    refine pr_then ?_
    refine pr_two rfl rfl rfl ?_
    have e : treeE n low = 79 := by unfold treeE; rw [if_pos (by omega)]
    exact ⟨by unfold topH; rw [e]; rfl, hp.chg⟩
  ·
    have hb := of_decide_eq_false hb
    refine st_on (j := 2) rfl rfl ?_
    refine st_v (ov_move rfl) rfl ?_
    refine st_on (j := 2) rfl rfl ?_
    refine st_v (ov_gtr rfl rfl) rfl ?_
    refine st_v (ov_pick_f rfl rfl) rfl ?_
    refine st_nil ?_
    refine pn_then ?_
    refine sc_cond rfl (fun hc => ?_) (fun hc => ?_)
    ·
      have hc := of_decide_eq_true hc
      refine sc_seq ?_
      refine sc_region ?_
      refine st_v (ov_assign rfl) rfl ?_
      refine st_v (ov_assign rfl) rfl ?_
      refine st_nil ?_
      refine pn_then ?_
      refine sc_ret ?_
      refine pr_then ?_
      refine pr_two rfl rfl rfl ?_
      have e : treeE n low = 79 := by unfold treeE; rw [if_pos (by omega)]
      exact ⟨by unfold topH; rw [e]; rfl, hp.chg⟩
    ·
      have hc := of_decide_eq_false hc
      obtain ⟨m, rfl⟩ : ∃ m : Nat, n = (m : Int) := ⟨n.toNat, by omega⟩
      have h20 := len_20 (m := m) (by omega)
      refine sc_skip ?_
      refine pn_then ?_
      refine sc_seq ?_
      refine sc_region ?_
      refine st_v (ov_move rfl) rfl ?_
      refine st_v (ov_sub_n (a := m) (b := 1) rfl rfl (by omega)) rfl ?_
      refine st_v (ov_conv_n_n (a := m - 1) Tryd.underlying3 Tryd.underlying104 rfl (by show m - 1 < 9223372036854775808; omega)) rfl ?_
      refine st_call pl85 rfl rfl rfl (len_walk (m - 1) (by omega) _) ?_
      rintro _ w ⟨rfl, hch⟩
      refine ⟨_, rfl, ?_⟩
      replace hp := hp.call hch
      clear hch
      refine st_v (ov_assign rfl) rfl ?_
      refine st_nil ?_
      refine pn_then ?_
      refine sc_seq ?_
      refine sc_seq ?_
      refine sc_region ?_
      refine st_v (ov_move rfl) rfl ?_
      refine st_v (ov_lss rfl rfl) rfl ?_
      refine st_v (ov_move rfl) rfl ?_
      refine st_split (j := 19) rfl (fun hb => ?_) (fun hb => ?_)
      ·
        have hb := of_decide_eq_true hb
        refine st_off (j := 2) rfl rfl rfl rfl ?_
        refine st_off (j := 2) rfl rfl rfl rfl ?_
        refine st_off (j := 2) rfl rfl rfl rfl ?_
        refine st_off (j := 2) rfl rfl rfl rfl ?_
        refine st_v (ov_pick_t rfl rfl) rfl ?_
        refine st_nil ?_
        refine pn_then ?_
        refine sc_true rfl ?_
        refine sc_seq ?_
        refine sc_region ?_
        refine st_v (ov_assign rfl) rfl ?_
        refine st_v (ov_assign rfl) rfl ?_
        refine st_nil ?_
        refine pn_then ?_
        refine sc_ret ?_
        refine pr_then ?_
        refine pr_two rfl rfl rfl ?_
        have e : treeE m low = 60 := by unfold treeE; rw [Int.toNat_natCast, if_neg (by omega), if_pos (by omega)]
        exact ⟨by unfold topH; rw [e]; rfl, hp.chg⟩
      ·
        have hb := of_decide_eq_false hb
        refine st_on (j := 2) rfl rfl ?_
        refine st_v (ov_move rfl) rfl ?_
        refine st_on (j := 2) rfl rfl ?_
        refine st_v (ov_move rfl) rfl ?_
        refine st_on (j := 2) rfl rfl ?_
        refine st_v (ov_sub_i64 rfl rfl (by omega)) rfl ?_
        refine st_on (j := 2) rfl rfl ?_
        refine st_v (ov_gtr rfl rfl) rfl ?_
        refine st_v (ov_pick_f rfl rfl) rfl ?_
        refine st_nil ?_
        refine pn_then ?_
        refine sc_cond rfl (fun hc => ?_) (fun hc => ?_)
        ·
          have hc := of_decide_eq_true hc
          refine sc_seq ?_
          refine sc_region ?_
          refine st_v (ov_assign rfl) rfl ?_
          refine st_v (ov_assign rfl) rfl ?_
          refine st_nil ?_
          refine pn_then ?_
          refine sc_ret ?_
          refine pr_then ?_
          refine pr_two rfl rfl rfl ?_
          have e : treeE m low = 60 := by unfold treeE; rw [Int.toNat_natCast, if_neg (by omega), if_pos (by omega)]
          exact ⟨by unfold topH; rw [e]; rfl, hp.chg⟩
        ·
          have hc := of_decide_eq_false hc
          obtain ⟨l, rfl⟩ : ∃ l : Nat, low = (l : Int) := ⟨low.toNat, by omega⟩
          refine sc_skip ?_
          refine pn_then ?_
          refine sc_seq ?_
          refine sc_region ?_
          refine st_v (ov_move rfl) rfl ?_
          refine st_v (ov_move rfl) rfl ?_
          refine st_v (ov_add_n (a := l) (b := bitLen (m - 1)) rfl rfl (by omega)) rfl ?_
          refine st_v (ov_assign rfl) rfl ?_
          refine st_v (ov_assign rfl) rfl ?_
          refine st_nil ?_
          refine pn_then ?_
          refine sc_ret ?_
          refine pr_two rfl rfl rfl ?_
          have e : treeE m l = 0 := by unfold treeE; rw [Int.toNat_natCast, if_neg (by omega), if_neg (by omega)]
          exact ⟨by unfold topH; rw [e, if_pos rfl, Int.toNat_natCast]; rfl, hp.chg⟩

end Go.Proofs.YtcjnpaikmcjjlaaDoor
