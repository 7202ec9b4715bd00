/-
  The walks of Len, rise, Height.
-/
import Derived.Test.YtjdolgfhcjnniaaDoorFacts
import Derived.Test.YtjdolgfhcjnniaaDoorBitP
namespace Go.Proofs.YtjdolgfhcjnniaaDoor
open Go Go.RowKit

set_option maxRecDepth 100000 in
theorem len64_walk (x : Nat) (hx : x < 9223372036854775808) (w0 : World) :
    Calls Tryd.prog 100 #[.int .u64 (x : Int)] w0 fun e w' => e = .returned (.int .i64 (bitLen x : Nat)) ∧ Chg [] w0 w' := by
  refine calls_in Tryd.func100 Tryd.ntmps100 rfl rfl ?_
  have hp := Hp.start w0
  refine sc_seq ?_
  refine sc_region ?_
  refine st_v (ov_assign rfl) rfl ?_
  refine st_nil ?_
  refine pn_then ?_
  refine sc_seq ?_
  refine sc_seq ?_
  refine sc_region ?_
  refine st_v (ov_move rfl) rfl ?_
  refine st_v (ov_geq rfl rfl) rfl ?_
  refine st_nil ?_
  refine pn_then ?_
  refine sc_cutH2 (α := Nat) (β := Nat) (kv := []) (kl := []) (fun y1 m1 kv => (0, .int .u64 ((y1 : Nat) : Int)) :: (2, .int .i64 ((m1 : Nat) : Int)) :: kv) (fun y1 m1 kl => kl) (fun y1 m1 => (bitLen x = m1 + bitLen y1 ∧ y1 < 4294967296 ∧ m1 ≤ 32)) hp (Sub.nil _) (LSub.nil _) ?_ ?_
  ·
    refine sc_cond rfl (fun hc => ?_) (fun hc => ?_)
    ·
      have hc := of_decide_eq_true hc
      refine sc_seq ?_
      refine sc_region ?_
      refine st_v (ov_move rfl) rfl ?_
      refine st_v (ov_shr_n (a := x) (s := 32) rfl rfl ⟨by omega, by show 32 ≤ 64; omega⟩) rfl ?_
      refine st_v (ov_assign rfl) rfl ?_
      refine st_nil ?_
      refine pn_then ?_
      refine sc_region ?_
      refine st_v (ov_assign rfl) rfl ?_
      refine st_nil ?_
      refine pn_cutH2 (x >>> 32) 32 hp (Sub.cons rfl (Sub.cons rfl (Sub.nil _))) (LSub.nil _) ?_
      exact ⟨len_cut (b := 32) (m := 0) (Nat.zero_add _).symm (by omega), shr_lt (by omega), by omega⟩
    ·
      have hc := of_decide_eq_false hc
      refine sc_skip ?_
      refine pn_cutH2 x 0 hp (Sub.cons rfl (Sub.cons rfl (Sub.nil _))) (LSub.nil _) ?_
      exact ⟨by omega, by omega, by omega⟩
  ·
    intro y1 m1 w hp hx
    have hy1 : bitLen x = m1 + bitLen y1 ∧ y1 < 4294967296 ∧ m1 ≤ 32 := hx
    refine pn_then ?_
    refine sc_seq ?_
    refine sc_seq ?_
    refine sc_region ?_
    refine st_v (ov_move rfl) rfl ?_
    refine st_v (ov_geq rfl rfl) rfl ?_
    refine st_nil ?_
    refine pn_then ?_
    refine sc_cutH2 (α := Nat) (β := Nat) (kv := []) (kl := []) (fun y2 m2 kv => (0, .int .u64 ((y2 : Nat) : Int)) :: (2, .int .i64 ((m2 : Nat) : Int)) :: kv) (fun y2 m2 kl => kl) (fun y2 m2 => (bitLen x = m2 + bitLen y2 ∧ y2 < 65536 ∧ m2 ≤ 48)) hp (Sub.nil _) (LSub.nil _) ?_ ?_
    ·
      refine sc_cond rfl (fun hc => ?_) (fun hc => ?_)
      ·
        have hc := of_decide_eq_true hc
        refine sc_seq ?_
        refine sc_region ?_
        refine st_v (ov_move rfl) rfl ?_
        refine st_v (ov_shr_n (a := y1) (s := 16) rfl rfl ⟨by omega, by show 16 ≤ 64; omega⟩) rfl ?_
        refine st_v (ov_assign rfl) rfl ?_
        refine st_nil ?_
        refine pn_then ?_
        refine sc_region ?_
        refine st_v (ov_move rfl) rfl ?_
        refine st_v (ov_add_n (a := m1) (b := 16) rfl rfl (by omega)) rfl ?_
        refine st_v (ov_assign rfl) rfl ?_
        refine st_nil ?_
        refine pn_cutH2 (y1 >>> 16) (m1 + 16) hp (Sub.cons rfl (Sub.cons rfl (Sub.nil _))) (LSub.nil _) ?_
        exact ⟨len_cut (b := 16) hy1.1 (by omega), shr_lt (by omega), by omega⟩
      ·
        have hc := of_decide_eq_false hc
        refine sc_skip ?_
        refine pn_cutH2 y1 m1 hp (Sub.cons rfl (Sub.cons rfl (Sub.nil _))) (LSub.nil _) ?_
        exact ⟨by omega, by omega, by omega⟩
    ·
      intro y2 m2 w hp hx
      have hy2 : bitLen x = m2 + bitLen y2 ∧ y2 < 65536 ∧ m2 ≤ 48 := hx
      refine pn_then ?_
      refine sc_seq ?_
      refine sc_seq ?_
      refine sc_region ?_
      refine st_v (ov_move rfl) rfl ?_
      refine st_v (ov_geq rfl rfl) rfl ?_
      refine st_nil ?_
      refine pn_then ?_
      refine sc_cutH2 (α := Nat) (β := Nat) (kv := []) (kl := []) (fun y3 m3 kv => (0, .int .u64 ((y3 : Nat) : Int)) :: (2, .int .i64 ((m3 : Nat) : Int)) :: kv) (fun y3 m3 kl => kl) (fun y3 m3 => (bitLen x = m3 + bitLen y3 ∧ y3 < 256 ∧ m3 ≤ 56)) hp (Sub.nil _) (LSub.nil _) ?_ ?_
      ·
        refine sc_cond rfl (fun hc => ?_) (fun hc => ?_)
        ·
          have hc := of_decide_eq_true hc
          refine sc_seq ?_
          refine sc_region ?_
          refine st_v (ov_move rfl) rfl ?_
          refine st_v (ov_shr_n (a := y2) (s := 8) rfl rfl ⟨by omega, by show 8 ≤ 64; omega⟩) rfl ?_
          refine st_v (ov_assign rfl) rfl ?_
          refine st_nil ?_
          refine pn_then ?_
          refine sc_region ?_
          refine st_v (ov_move rfl) rfl ?_
          refine st_v (ov_add_n (a := m2) (b := 8) rfl rfl (by omega)) rfl ?_
          refine st_v (ov_assign rfl) rfl ?_
          refine st_nil ?_
          refine pn_cutH2 (y2 >>> 8) (m2 + 8) hp (Sub.cons rfl (Sub.cons rfl (Sub.nil _))) (LSub.nil _) ?_
          exact ⟨len_cut (b := 8) hy2.1 (by omega), shr_lt (by omega), by omega⟩
        ·
          have hc := of_decide_eq_false hc
          refine sc_skip ?_
          refine pn_cutH2 y2 m2 hp (Sub.cons rfl (Sub.cons rfl (Sub.nil _))) (LSub.nil _) ?_
          exact ⟨by omega, by omega, by omega⟩
      ·
        intro y3 m3 w hp hx
        have hy3 : bitLen x = m3 + bitLen y3 ∧ y3 < 256 ∧ m3 ≤ 56 := hx
        refine pn_then ?_
        refine sc_seq ?_
        refine sc_region ?_
        refine st_v (ov_move rfl) rfl ?_
        refine st_v (ov_move rfl) rfl ?_
        refine st_v (ov_conv_n_8 (a := y3) Tryd.underlying131 Tryd.underlying5 rfl) rfl ?_
        refine st_v (ov_indexStrN (s := len8L) (i := (UInt8.ofNat y3).toNat) rfl rfl Tryd.underlying9 (by rw [len8_len]; exact UInt8.toNat_lt _)) rfl ?_
        refine st_v (ov_conv_8_64 (c := (len8L).getD ((UInt8.ofNat y3).toNat) 0) Tryd.underlying5 Tryd.underlying3 rfl) rfl ?_
        refine st_v (ov_add_n (a := m3) (b := ((len8L).getD ((UInt8.ofNat y3).toNat) 0).toNat) rfl rfl (by have := UInt8.toNat_lt (len8L.getD (UInt8.ofNat y3).toNat 0); omega)) rfl ?_
        refine st_v (ov_assign rfl) rfl ?_
        refine st_nil ?_
        refine pn_then ?_
        refine sc_ret ?_
        refine pr_one rfl rfl ?_
        exact ⟨by rw [len_last hy3.2.1, hy3.1], hp.chg⟩

set_option maxRecDepth 100000 in
theorem len_walk (x : Nat) (hx : x < 9223372036854775808) (w0 : World) :
    Calls Tryd.prog 91 #[.int .u64 (x : Int)] w0 fun e w' => e = .returned (.int .i64 (bitLen x : Nat)) ∧ Chg [] w0 w' := by
  refine calls_in Tryd.func91 Tryd.ntmps91 rfl rfl ?_
  have hp := Hp.start w0
  refine sc_seq ?_
  refine sc_region ?_
  refine st_v (ov_assign rfl) rfl ?_
  refine st_nil ?_
  refine pn_then ?_
  refine sc_seq ?_
  refine sc_false rfl ?_
  refine sc_skip ?_
  refine pn_then ?_
  refine sc_seq ?_
  refine sc_region ?_
  refine st_v (ov_move rfl) rfl ?_
  refine st_call pl100 rfl rfl rfl (len64_walk x hx _) ?_
  rintro _ w ⟨rfl, hch⟩
  refine ⟨_, rfl, ?_⟩
  replace hp := hp.call hch
  clear hch
  refine st_v (ov_assign rfl) rfl ?_
  refine st_nil ?_
  refine pn_then ?_
  refine sc_ret ?_
  refine pr_one rfl rfl ?_
  exact ⟨rfl, hp.chg⟩

set_option maxRecDepth 100000 in
theorem rise_walk (n : Nat) (hn : 1 ≤ n ∧ n ≤ 9223372036854775807) (w0 : World) :
    Calls Tryd.prog 70 #[.int .i64 (n : Int)] w0 fun e w' => e = .returned (.int .i64 (bitLen (n - 1) : Nat)) ∧ Chg [] w0 w' := by
  refine calls_in Tryd.func70 Tryd.ntmps70 rfl rfl ?_
  have hp := Hp.start w0
  refine sc_seq ?_
  refine sc_region ?_
  refine st_v (ov_assign rfl) rfl ?_
  refine st_nil ?_
  refine pn_then ?_
  refine sc_seq ?_
  refine sc_region ?_
  refine st_v (ov_move rfl) rfl ?_
  refine st_v (ov_sub_n (a := n) (b := 1) rfl rfl (by omega)) rfl ?_
  refine st_v (ov_conv_n_n (a := n - 1) Tryd.underlying3 Tryd.underlying120 rfl (by show n - 1 < 9223372036854775808; omega)) rfl ?_
  refine st_call pl91 rfl rfl rfl (len_walk (n - 1) (by omega) _) ?_
  rintro _ w ⟨rfl, hch⟩
  refine ⟨_, rfl, ?_⟩
  replace hp := hp.call hch
  clear hch
  refine st_v (ov_assign rfl) rfl ?_
  refine st_nil ?_
  refine pn_then ?_
  refine sc_ret ?_
  refine pr_one rfl rfl ?_
  exact ⟨rfl, hp.chg⟩

set_option maxRecDepth 100000 in
theorem riser_walk (n : Nat) (hn : 1 ≤ n ∧ n ≤ 9223372036854775807) (w0 : World) :
    Calls Tryd.prog 67 #[.int .i64 (n : Int)] w0 fun e w' => e = .returned (.int .i64 (bitLen (n - 1) : Nat)) ∧ Chg [] w0 w' := by
  refine calls_in Tryd.func67 Tryd.ntmps67 rfl rfl ?_
  have hp := Hp.start w0
  refine sc_seq ?_
  refine sc_region ?_
  refine st_v (ov_assign rfl) rfl ?_
  refine st_nil ?_
  refine pn_then ?_
  refine sc_seq ?_
  refine sc_region ?_
  refine st_v (ov_assign rfl) rfl ?_
  refine st_nil ?_
  refine pn_then ?_
  refine sc_seq ?_
  refine sc_seq ?_
  refine sc_region ?_
  refine st_v (ov_move rfl) rfl ?_
  refine st_v (ov_sub_n (a := n) (b := 1) rfl rfl (by omega)) rfl ?_
  refine st_v (ov_assign rfl) rfl ?_
  refine st_nil ?_
  refine pn_then ?_
  refine sc_block ?_
  refine sc_loopH2 (α := Nat) (β := Nat) (kv := []) (kl := []) (fun h r kv => (3, .int .i64 ((h : Nat) : Int)) :: (4, .int .i64 ((r : Nat) : Int)) :: kv) (fun h r kl => kl) (fun h r => (bitLen (n - 1) = h + bitLen r ∧ r < 9223372036854775808)) (fun h r => r) 0 (n - 1) hp (Sub.cons rfl (Sub.cons rfl (Sub.nil _))) (LSub.nil _) ?_ ?_
  · exact ⟨by omega, by omega⟩
  intro h r w hp hx
  have hi : bitLen (n - 1) = h + bitLen r ∧ r < 9223372036854775808 := hx
  have h63 := len_63 (x := n - 1) (by omega)
  refine sc_seq ?_
  refine sc_seq ?_
  refine sc_region ?_
  refine st_v (ov_move rfl) rfl ?_
  refine st_v (ov_gtr rfl rfl) rfl ?_
  refine st_nil ?_
  refine pn_then ?_
  refine sc_cond rfl (fun hc => ?_) (fun hc => ?_)
  ·
    have hc := of_decide_eq_true hc
    refine sc_skip ?_
    refine pn_then ?_
    refine sc_seq ?_
    refine sc_block ?_
    refine sc_region ?_
    refine st_v (ov_move rfl) rfl ?_
    refine st_v (ov_add_n (a := h) (b := 1) rfl rfl (by omega)) rfl ?_
    refine st_v (ov_assign rfl) rfl ?_
    refine st_nil ?_
    refine pn_block ?_
    refine pn_then ?_
    refine sc_region ?_
    refine st_v (ov_move rfl) rfl ?_
    refine st_v (ov_quo_n (a := r) (b := 2) rfl rfl (by omega)) rfl ?_
    refine st_v (ov_assign rfl) rfl ?_
    refine st_nil ?_
    refine pn_roundH2 (h + 1) (r / 2) hp (Sub.cons rfl (Sub.cons rfl (Sub.nil _))) ?_ (LSub.nil _) ?_
    · omega
    exact ⟨by have := len_half (x := r) (by omega); omega, by omega⟩
  ·
    have hc := of_decide_eq_false hc
    refine sc_exit ?_
    refine pe_then ?_
    refine pe_then ?_
    refine pe_hit ?_
    refine pn_then ?_
    refine sc_seq ?_
    refine sc_region ?_
    refine st_v (ov_move rfl) rfl ?_
    refine st_v (ov_assign rfl) rfl ?_
    refine st_nil ?_
    refine pn_then ?_
    refine sc_ret ?_
    refine pr_one rfl rfl ?_
    obtain rfl : r = 0 := by omega
    exact ⟨by rw [hi.1]; rfl, hp.chg⟩

end Go.Proofs.YtjdolgfhcjnniaaDoor
