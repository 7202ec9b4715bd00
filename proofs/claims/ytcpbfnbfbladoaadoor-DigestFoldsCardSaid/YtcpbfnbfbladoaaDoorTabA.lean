/-
  The walks of times.
-/
import Derived.Test.YtcpbfnbfbladoaaDoorFacts
import Derived.Test.YtcpbfnbfbladoaaDoorTabP
namespace Go.Proofs.YtcpbfnbfbladoaaDoor
open Go Go.RowKit

set_option maxRecDepth 100000 in
theorem times_walk (a b : List Nat) {na nb : Nat} (ao bo : Option Addr) (ca cb : Nat) (w0 : World) (h1 : Rd w0 ao (a.map NI)) (h2 : Rd w0 bo (b.map NI)) (hna : a.length = na) (hnb : b.length = nb) (ha : Dig a) (hb : Dig b) (hza : a.length ≤ 4096) (hzb : b.length ≤ 4096) :
    Calls Tryd.prog 49 #[.slice ao na ca, .slice bo nb cb] w0 fun e w' => ∃ g : Gs, e = .returned (.slice (adr g.ob) (na + nb) g.cap) ∧ Mk w0 w' 3 1 ((timesL a b).map NI) g := by
  refine calls_in Tryd.func49 Tryd.ntmps49 rfl rfl ?_
  have hp := Hp.start w0
  subst hna hnb
  refine sc_seq ?_
  refine sc_region ?_
  refine st_v (ov_assign rfl) rfl ?_
  refine st_nil ?_
  refine pn_then ?_
  refine sc_seq ?_
  refine sc_region ?_
  refine st_v (ov_assign rfl) rfl ?_
  replace hp := hp.nil 5 3
  refine st_nil ?_
  refine pn_then ?_
  refine sc_seq ?_
  refine sc_seq ?_
  refine sc_region ?_
  refine st_v (ov_assign rfl) rfl ?_
  refine st_nil ?_
  refine pn_then ?_
  refine sc_block ?_
  refine sc_loopH2 (α := Nat) (β := Gs) (kv := [(0, _), (1, _)]) (kl := []) (fun i g kv => (6, .int .i64 ((i : Nat) : Int)) :: (5, .slice (adr g.ob) (i) g.cap) :: kv) (fun i g kl => (5, ⟨g.ob, (List.replicate i 0).map NI ++ g.sp, 3⟩) :: kl) (fun i g => (i ≤ a.length + b.length) ∧ (((List.replicate i 0).map NI ++ g.sp).length = g.cap * 1)) (fun i g => a.length + b.length - i) 0 gnil hp (Sub.cons rfl (Sub.cons rfl (Sub.cons rfl (Sub.cons rfl (Sub.nil _))))) (LSub.cons rfl (LSub.nil _)) ?_ ?_
  · exact ⟨(by first | omega | (simp; done) | (simp; omega) | (simp [*]; omega)), rfl⟩
  intro i g w hp hx
  obtain ⟨hi, hcap⟩ := hx
  refine sc_seq ?_
  refine sc_seq ?_
  refine sc_region ?_
  refine st_v (ov_move rfl) rfl ?_
  refine st_v (ov_move rfl) rfl ?_
  refine st_v (ov_len rfl Tryd.underlying80 rfl) rfl ?_
  refine st_v (ov_move rfl) rfl ?_
  refine st_v (ov_len rfl Tryd.underlying80 rfl) rfl ?_
  refine st_v (ov_add_n (a := a.length) (b := b.length) rfl rfl (by omega)) rfl ?_
  refine st_v (ov_lss rfl rfl) rfl ?_
  refine st_nil ?_
  refine pn_then ?_
  refine sc_cond rfl (fun hc => ?_) (fun hc => ?_)
  ·
    have hc := of_decide_eq_true hc
    refine sc_skip ?_
    refine pn_then ?_
    refine sc_seq ?_
    refine sc_block ?_
    refine sc_region ?_
    refine st_v (ov_move rfl) rfl ?_
    refine st_app1 5 21 g (xs := (List.replicate i 0).map NI) (new := [NI 0]) hp rfl rfl rfl rfl rfl (by simp) rfl rfl Tryd.underlying80 in3 (by decide) rfl (by simp) hcap rfl rfl (by simp [Value.oneCell', NI]) (by omega) (fun g2 b21 w hp hcap2 hf5 => ?_)
    rw [show (List.replicate i 0).map NI ++ [NI 0] = (List.replicate (i + 1) 0).map NI by rw [List.replicate_succ', List.map_append]; rfl] at hp hcap2
    refine st_v (ov_assign rfl) rfl ?_
    refine st_nil ?_
    refine pn_block ?_
    refine pn_then ?_
    refine sc_region ?_
    refine st_v (ov_move rfl) rfl ?_
    refine st_v (ov_add_n (a := i) (b := 1) rfl rfl (by omega)) rfl ?_
    refine st_v (ov_assign rfl) rfl ?_
    refine st_nil ?_
    refine pn_roundH2 (i + 1) g2 hp (Sub.cons rfl (Sub.cons rfl (Sub.cons rfl (Sub.cons rfl (Sub.nil _))))) ?_ (LSub.cons rfl (LSub.nil _)) ?_
    · omega
    exact ⟨(by first | omega | (simp; done) | (simp; omega) | (simp [*]; omega)), hcap2⟩
  ·
    have hc := of_decide_eq_false hc
    refine sc_exit ?_
    refine pe_then ?_
    refine pe_then ?_
    refine pe_hit ?_
    refine pn_then ?_
    refine sc_seq ?_
    refine sc_seq ?_
    obtain rfl : i = a.length + b.length := by omega
    rw [show List.replicate (a.length + b.length) 0 = out a b 0 from rfl] at hp hcap
    refine sc_region ?_
    refine st_v (ov_assign rfl) rfl ?_
    refine st_nil ?_
    refine pn_then ?_
    refine sc_block ?_
    have hgc : a.length + b.length ≤ g.cap := by have := gcap1 hcap; rw [out_len] at this; exact this
    have hgs := hcap
    rw [List.length_append, List.length_map, out_len] at hgs
    refine sc_loopH1 (α := Nat) (kv := [(0, _), (1, _)]) (kl := []) (fun i kv => (7, .int .i64 ((i : Nat) : Int)) :: (5, .slice (adr g.ob) (a.length + b.length) g.cap) :: kv) (fun i kl => (5, ⟨g.ob, (out a b i).map NI ++ g.sp, 3⟩) :: kl) (fun i => (i ≤ a.length)) (fun i => a.length - i) 0 hp (Sub.cons rfl (Sub.cons rfl (Sub.cons rfl (Sub.cons rfl (Sub.nil _))))) (LSub.cons rfl (LSub.nil _)) ?_ ?_
    · exact (by first | omega | (simp; done) | (simp; omega) | (simp [*]; omega))
    intro i w hp hx
    have hi : i ≤ a.length := hx
    have hol := out_len a b i
    refine sc_seq ?_
    refine sc_seq ?_
    refine sc_region ?_
    refine st_v (ov_move rfl) rfl ?_
    refine st_v (ov_move rfl) rfl ?_
    refine st_v (ov_len rfl Tryd.underlying80 rfl) rfl ?_
    refine st_v (ov_lss rfl rfl) rfl ?_
    refine st_nil ?_
    refine pn_then ?_
    refine sc_cond rfl (fun hc => ?_) (fun hc => ?_)
    ·
      have hc := of_decide_eq_true hc
      refine sc_skip ?_
      refine pn_then ?_
      refine sc_seq ?_
      refine sc_block ?_
      refine sc_seq ?_
      refine sc_region ?_
      refine st_v (ov_assign rfl) rfl ?_
      refine st_nil ?_
      refine pn_then ?_
      refine sc_seq ?_
      refine sc_seq ?_
      refine sc_region ?_
      refine st_v (ov_assign rfl) rfl ?_
      refine st_nil ?_
      refine pn_then ?_
      refine sc_block ?_
      refine sc_loopH1 (α := Nat) (kv := [(0, _), (1, _), (5, _), (7, _)]) (kl := []) (fun k kv => (9, .int .i64 ((k : Nat) : Int)) :: (8, .int .i64 (((inn (a.getD i 0) b i (out a b i) k).2 : Nat) : Int)) :: kv) (fun k kl => (5, ⟨g.ob, (inn (a.getD i 0) b i (out a b i) k).1.map NI ++ g.sp, 3⟩) :: kl) (fun k => (k ≤ b.length)) (fun k => b.length - k) 0 hp (Sub.cons rfl (Sub.cons rfl (Sub.cons rfl (Sub.cons rfl (Sub.cons rfl (Sub.cons rfl (Sub.nil _))))))) (LSub.cons rfl (LSub.nil _)) ?_ ?_
      · exact (by first | omega | (simp; done) | (simp; omega) | (simp [*]; omega))
      intro k w hp hx
      have hk : k ≤ b.length := hx
      have hil := inn_len (a.getD i 0) b i (out a b i) k
      obtain ⟨d1, d2⟩ := inn_dig (i := i) (out_dig ha hb i) (ha i) hb k
      obtain ⟨q, hq⟩ : ∃ q, q = inn (a.getD i 0) b i (out a b i) k := ⟨_, rfl⟩
      rw [← hq] at hp hil d1 d2 ⊢
      have hdk := d1 (i + k)
      refine sc_seq ?_
      refine sc_seq ?_
      refine sc_region ?_
      refine st_v (ov_move rfl) rfl ?_
      refine st_v (ov_move rfl) rfl ?_
      refine st_v (ov_len rfl Tryd.underlying80 rfl) rfl ?_
      refine st_v (ov_lss rfl rfl) rfl ?_
      refine st_nil ?_
      refine pn_then ?_
      refine sc_cond rfl (fun hc => ?_) (fun hc => ?_)
      ·
        have hc := of_decide_eq_true hc
        have hm : a.getD i 0 * b.getD k 0 ≤ 65535 * 65535 := Nat.mul_le_mul (by have := ha i; omega) (by have := hb k; omega)
        refine sc_skip ?_
        refine pn_then ?_
        refine sc_seq ?_
        refine sc_block ?_
        refine sc_seq ?_
        refine sc_draws (by kernel_rfl) (by kernel_rfl) ?_
        replace hp := hp.drew
        refine ss_v (ov_move rfl) rfl ?_
        refine ss_v (ov_move rfl) rfl ?_
        refine ss_v (ov_move rfl) rfl ?_
        refine ss_v (ov_add_n (a := i) (b := k) rfl rfl (by omega)) rfl ?_
        obtain ⟨bb1, oo1, hadr1, hcl1⟩ := (Rd.own (hp.own 5 _ rfl)).pos (by simp; omega)
        refine ss_v (ov_indexR hadr1 rfl rfl Tryd.underlying80 sz3 (by omega)) rfl ?_
        refine ss_v (ov_load1 rfl Tryd.underlying3 rfl (Cells.elem' hcl1 (i + k) (by first | omega | (simp; omega) | (simp [*]; omega)) 0)) rfl ?_
        refine ss_v (ov_move rfl) rfl ?_
        refine ss_v (ov_move rfl) rfl ?_
        obtain ⟨bb2, oo2, hadr2, hcl2⟩ := (h1.chg hp.chg).pos (by simp; omega)
        refine ss_v (ov_indexR hadr2 rfl rfl Tryd.underlying80 sz3 (by omega)) rfl ?_
        refine ss_v (ov_load1 rfl Tryd.underlying3 rfl (Cells.elem' hcl2 (i) (by first | omega | (simp; omega) | (simp [*]; omega)) 0)) rfl ?_
        refine ss_v (ov_move rfl) rfl ?_
        refine ss_v (ov_move rfl) rfl ?_
        obtain ⟨bb3, oo3, hadr3, hcl3⟩ := (h2.chg hp.chg).pos (by simp; omega)
        refine ss_v (ov_indexR hadr3 rfl rfl Tryd.underlying80 sz3 (by omega)) rfl ?_
        refine ss_v (ov_load1 rfl Tryd.underlying3 rfl (Cells.elem' hcl3 (k) (by first | omega | (simp; omega) | (simp [*]; omega)) 0)) rfl ?_
        refine ss_v (ov_mul_n (a := (a.getD (i) 0)) (b := (b.getD (k) 0)) rfl rfl (by omega)) rfl ?_
        refine ss_v (ov_add_n (a := (q.1.getD (i + k) 0)) (b := ((a.getD (i) 0)) * ((b.getD (k) 0))) rfl rfl (by omega)) rfl ?_
        refine ss_v (ov_move rfl) rfl ?_
        refine ss_v (ov_add_n (a := ((q.1.getD (i + k) 0)) + (((a.getD (i) 0)) * ((b.getD (k) 0)))) (b := q.2) rfl rfl (by omega)) rfl ?_
        refine ss_v (ov_assign rfl) rfl ?_
        refine ss_end ?_
        refine pn_then ?_
        refine sc_seq ?_
        refine sc_region ?_
        refine st_v (ov_move rfl) rfl ?_
        refine st_v (ov_move rfl) rfl ?_
        refine st_v (ov_move rfl) rfl ?_
        refine st_v (ov_add_n (a := i) (b := k) rfl rfl (by omega)) rfl ?_
        refine st_v (ov_move rfl) rfl ?_
        refine st_v (ov_rem_n (a := (((q.1.getD (i + k) 0)) + (((a.getD (i) 0)) * ((b.getD (k) 0)))) + q.2) (b := 65536) rfl rfl (by omega)) rfl ?_
        obtain ⟨bb4, oo4, hadr4, hcl4⟩ := (Rd.own (hp.own 5 _ rfl)).pos (by simp; omega)
        refine st_v (ov_indexR hadr4 rfl rfl Tryd.underlying80 sz3 (by omega)) rfl ?_
        refine st_storeG 5 g hadr4 hp rfl rfl rfl (i + k) ⟨by omega, by omega⟩ rfl sz3 (fun w hp => ?_)
        refine st_nil ?_
        refine pn_then ?_
        refine sc_region ?_
        refine st_v (ov_move rfl) rfl ?_
        refine st_v (ov_quo_n (a := (((q.1.getD (i + k) 0)) + (((a.getD (i) 0)) * ((b.getD (k) 0)))) + q.2) (b := 65536) rfl rfl (by omega)) rfl ?_
        refine st_v (ov_assign rfl) rfl ?_
        refine st_nil ?_
        refine pn_block ?_
        refine pn_then ?_
        refine sc_region ?_
        refine st_v (ov_move rfl) rfl ?_
        refine st_v (ov_add_n (a := k) (b := 1) rfl rfl (by omega)) rfl ?_
        refine st_v (ov_assign rfl) rfl ?_
        refine st_nil ?_
        subst hq
        refine pn_roundH1 (k + 1) hp (Sub.cons rfl (Sub.cons rfl (Sub.cons rfl (Sub.cons rfl (Sub.cons rfl (Sub.cons rfl (Sub.nil _))))))) ?_ (LSub.cons rfl (LSub.nil _)) ?_
        · omega
        exact (by first | omega | (simp; done) | (simp; omega) | (simp [*]; omega))
      ·
        have hc := of_decide_eq_false hc
        refine sc_exit ?_
        refine pe_then ?_
        refine pe_then ?_
        refine pe_hit ?_
        refine pn_then ?_
        obtain rfl : k = b.length := by omega
        refine sc_region ?_
        refine st_v (ov_move rfl) rfl ?_
        refine st_v (ov_move rfl) rfl ?_
        refine st_v (ov_move rfl) rfl ?_
        refine st_v (ov_len rfl Tryd.underlying80 rfl) rfl ?_
        refine st_v (ov_add_n (a := i) (b := b.length) rfl rfl (by omega)) rfl ?_
        refine st_v (ov_move rfl) rfl ?_
        refine st_v (ov_move rfl) rfl ?_
        refine st_v (ov_move rfl) rfl ?_
        refine st_v (ov_len rfl Tryd.underlying80 rfl) rfl ?_
        refine st_v (ov_add_n (a := i) (b := b.length) rfl rfl (by omega)) rfl ?_
        obtain ⟨bb5, oo5, hadr5, hcl5⟩ := (Rd.own (hp.own 5 _ rfl)).pos (by simp; omega)
        refine st_v (ov_indexR hadr5 rfl rfl Tryd.underlying80 sz3 (by omega)) rfl ?_
        refine st_v (ov_load1 rfl Tryd.underlying3 rfl (Cells.elem' hcl5 (i + b.length) (by first | omega | (simp; omega) | (simp [*]; omega)) 0)) rfl ?_
        refine st_v (ov_move rfl) rfl ?_
        refine st_v (ov_add_n (a := (q.1.getD (i + b.length) 0)) (b := q.2) rfl rfl (by omega)) rfl ?_
        obtain ⟨bb6, oo6, hadr6, hcl6⟩ := (Rd.own (hp.own 5 _ rfl)).pos (by simp; omega)
        refine st_v (ov_indexR hadr6 rfl rfl Tryd.underlying80 sz3 (by omega)) rfl ?_
        refine st_storeG 5 g hadr6 hp rfl rfl rfl (i + b.length) ⟨by omega, by omega⟩ rfl sz3 (fun w hp => ?_)
        refine st_nil ?_
        refine pn_block ?_
        refine pn_then ?_
        refine sc_region ?_
        refine st_v (ov_move rfl) rfl ?_
        refine st_v (ov_add_n (a := i) (b := 1) rfl rfl (by omega)) rfl ?_
        refine st_v (ov_assign rfl) rfl ?_
        refine st_nil ?_
        skip
        subst hq
        refine pn_roundH1 (i + 1) hp (Sub.cons rfl (Sub.cons rfl (Sub.cons rfl (Sub.cons rfl (Sub.nil _))))) ?_ (LSub.cons rfl (LSub.nil _)) ?_
        · omega
        exact (by first | omega | (simp; done) | (simp; omega) | (simp [*]; omega))
    ·
      have hc := of_decide_eq_false hc
      refine sc_exit ?_
      refine pe_then ?_
      refine pe_then ?_
      refine pe_hit ?_
      refine pn_then ?_
      refine sc_seq ?_
      refine sc_region ?_
      refine st_v (ov_move rfl) rfl ?_
      refine st_v (ov_assign rfl) rfl ?_
      refine st_nil ?_
      refine pn_then ?_
      refine sc_ret ?_
      refine pr_one rfl rfl ?_
      obtain rfl : i = a.length := by omega
      exact ⟨g, rfl, hp.gives 5 rfl (by rw [List.length_append, List.length_map, times_len]; omega)⟩

set_option maxRecDepth 100000 in
theorem whole_walk (n : Nat) (hn : n < 281474976710656) (w0 : World) :
    Calls Tryd.prog 50 #[.int .i64 (n : Int)] w0 fun e w' => ∃ g : Gs, e = .returned (.slice (adr g.ob) 3 g.cap) ∧ Mk w0 w' 3 1 ((wholeL n).map NI) g := by
  refine calls_in Tryd.func50 Tryd.ntmps50 rfl rfl ?_
  have hp := Hp.start w0
  refine sc_seq ?_
  refine sc_region ?_
  refine st_v (ov_assign rfl) rfl ?_
  refine st_nil ?_
  refine pn_then ?_
  refine sc_seq ?_
  refine sc_region ?_
  refine st_v (ov_move rfl) rfl ?_
  refine st_v (ov_rem_n (a := n) (b := 65536) rfl rfl (by omega)) rfl ?_
  refine st_v (ov_move rfl) rfl ?_
  refine st_v (ov_quo_n (a := n) (b := 65536) rfl rfl (by omega)) rfl ?_
  refine st_v (ov_rem_n (a := n / 65536) (b := 65536) rfl rfl (by omega)) rfl ?_
  refine st_v (ov_move rfl) rfl ?_
  refine st_v (ov_quo_n (a := n) (b := 4294967296) rfl rfl (by omega)) rfl ?_
  refine st_build 10 (cells := (wholeL n).map NI) hp rfl rfl Tryd.underlying80 (in2_of in3) (by decide) (by kernel_rfl) (fun b10 w hb10 hp => ?_)
  refine st_v (ov_assign rfl) rfl ?_
  refine st_nil ?_
  refine pn_then ?_
  refine sc_ret ?_
  refine pr_one rfl rfl ?_
  exact ⟨⟨some b10, 3, []⟩, rfl, hp.gives 10 (g := ⟨some b10, 3, []⟩) (cs := (wholeL n).map NI) rfl rfl⟩

set_option maxRecDepth 100000 in
theorem powl_walk (n k : Nat) (hn : n < 281474976710656) (hk : k ≤ 1000) (w0 : World) :
    Calls Tryd.prog 48 #[.int .i64 (n : Int), .int .i64 (k : Int)] w0 fun e w' => ∃ g : Gs, e = .returned (.slice (adr g.ob) (1 + 3 * k) g.cap) ∧ Mk w0 w' 3 1 ((powL n k).map NI) g := by
  refine calls_in Tryd.func48 Tryd.ntmps48 rfl rfl ?_
  have hp := Hp.start w0
  refine sc_seq ?_
  refine sc_region ?_
  refine st_v (ov_assign rfl) rfl ?_
  refine st_nil ?_
  refine pn_then ?_
  refine sc_seq ?_
  refine sc_region ?_
  refine st_build 5 (cells := [NI 1]) hp rfl rfl Tryd.underlying80 (in2_of in3) (by decide) (by kernel_rfl) (fun b5 w hb5 hp => ?_)
  refine st_v (ov_assign rfl) rfl ?_
  refine st_nil ?_
  refine pn_then ?_
  refine sc_seq ?_
  refine sc_seq ?_
  refine sc_region ?_
  refine st_v (ov_assign rfl) rfl ?_
  refine st_nil ?_
  refine pn_then ?_
  refine sc_block ?_
  refine sc_loopH2 (α := Nat) (β := Gs) (kv := [(0, _), (1, _)]) (kl := []) (fun i g kv => (6, .int .i64 ((i : Nat) : Int)) :: (5, .slice (adr g.ob) (1 + 3 * i) g.cap) :: kv) (fun i g kl => (5, ⟨g.ob, (powL n i).map NI ++ g.sp, 3⟩) :: kl) (fun i g => (i ≤ k) ∧ (((powL n i).map NI ++ g.sp).length = g.cap * 1)) (fun i g => k - i) 0 ⟨some b5, 1, []⟩ hp (Sub.cons rfl (Sub.cons rfl (Sub.cons rfl (Sub.cons rfl (Sub.nil _))))) (LSub.cons rfl (LSub.nil _)) ?_ ?_
  · exact ⟨(by first | omega | (simp; done) | (simp; omega) | (simp [*]; omega)), rfl⟩
  intro i g w hp hx
  obtain ⟨hi, hcap⟩ := hx
  refine sc_seq ?_
  refine sc_seq ?_
  refine sc_region ?_
  refine st_v (ov_move rfl) rfl ?_
  refine st_v (ov_move rfl) rfl ?_
  refine st_v (ov_lss rfl rfl) rfl ?_
  refine st_nil ?_
  refine pn_then ?_
  refine sc_cond rfl (fun hc => ?_) (fun hc => ?_)
  ·
    have hc := of_decide_eq_true hc
    refine sc_skip ?_
    refine pn_then ?_
    refine sc_seq ?_
    refine sc_block ?_
    refine sc_region ?_
    refine st_v (ov_move rfl) rfl ?_
    refine st_v (ov_move rfl) rfl ?_
    refine st_call pl50 rfl rfl rfl (whole_walk n hn _) ?_
    rintro _ w ⟨g15, rfl, hm15⟩
    refine ⟨_, rfl, ?_⟩
    replace hp := hp.got 15 hm15
    have hc15 := hm15.2
    clear hm15
    refine st_call pl49 rfl rfl rfl (times_walk (powL n i) (wholeL n) _ _ _ _ _ (Rd.own (hp.own 5 _ rfl)) (Rd.own (hp.own 15 _ rfl)) (pow_len n i) rfl (pow_dig hn i) (whole_dig hn) (by rw [pow_len]; omega) (by show 3 ≤ 4096; omega)) ?_
    rintro _ w ⟨g5, rfl, hm5⟩
    refine ⟨_, rfl, ?_⟩
    replace hp := hp.got 5 hm5
    have hc5 := hm5.2
    clear hm5
    rw [show 1 + 3 * i + 3 = 1 + 3 * (i + 1) by omega]
    refine st_v (ov_assign rfl) rfl ?_
    refine st_nil ?_
    refine pn_block ?_
    refine pn_then ?_
    refine sc_region ?_
    refine st_v (ov_move rfl) rfl ?_
    refine st_v (ov_add_n (a := i) (b := 1) rfl rfl (by omega)) rfl ?_
    refine st_v (ov_assign rfl) rfl ?_
    refine st_nil ?_
    refine pn_roundH2 (i + 1) g5 hp (Sub.cons rfl (Sub.cons rfl (Sub.cons rfl (Sub.cons rfl (Sub.nil _))))) ?_ (LSub.cons rfl (LSub.nil _)) ?_
    · omega
    exact ⟨(by first | omega | (simp; done) | (simp; omega) | (simp [*]; omega)), hc5⟩
  ·
    have hc := of_decide_eq_false hc
    refine sc_exit ?_
    refine pe_then ?_
    refine pe_then ?_
    refine pe_hit ?_
    refine pn_then ?_
    refine sc_seq ?_
    refine sc_region ?_
    refine st_v (ov_move rfl) rfl ?_
    refine st_v (ov_assign rfl) rfl ?_
    refine st_nil ?_
    refine pn_then ?_
    refine sc_ret ?_
    refine pr_one rfl rfl ?_
    obtain rfl : i = k := by omega
    exact ⟨g, rfl, hp.gives 5 rfl hcap⟩

set_option maxRecDepth 100000 in
theorem digit_walk (a : List Nat) (i : Nat) {na : Nat} (ao : Option Addr) (ca : Nat) (w0 : World) (h1 : Rd w0 ao (a.map NI)) (hna : a.length = na) :
    Calls Tryd.prog 69 #[.slice ao na ca, .int .i64 (i : Int)] w0 fun e w' => e = .returned (.int .i64 ((a.getD i 0 : Nat) : Int)) ∧ Chg [] w0 w' := by
  refine calls_in Tryd.func69 Tryd.ntmps69 rfl rfl ?_
  have hp := Hp.start w0
  subst hna
  refine sc_seq ?_
  refine sc_region ?_
  refine st_v (ov_assign rfl) rfl ?_
  refine st_nil ?_
  refine pn_then ?_
  refine sc_seq ?_
  refine sc_seq ?_
  refine sc_region ?_
  refine st_v (ov_move rfl) rfl ?_
  refine st_v (ov_move rfl) rfl ?_
  refine st_v (ov_len rfl Tryd.underlying80 rfl) rfl ?_
  refine st_v (ov_lss rfl rfl) rfl ?_
  refine st_nil ?_
  refine pn_then ?_
  refine sc_cond rfl (fun hc => ?_) (fun hc => ?_)
  ·
    have hc := of_decide_eq_true hc
    refine sc_seq ?_
    refine sc_region ?_
    refine st_v (ov_move rfl) rfl ?_
    refine st_v (ov_move rfl) rfl ?_
    obtain ⟨bb1, oo1, hadr1, hcl1⟩ := (h1.chg hp.chg).pos (by simp; omega)
    refine st_v (ov_indexR hadr1 rfl rfl Tryd.underlying80 sz3 (by omega)) rfl ?_
    refine st_v (ov_load1 rfl Tryd.underlying3 rfl (Cells.elem' hcl1 (i) (by first | omega | (simp; omega) | (simp [*]; omega)) 0)) rfl ?_
    refine st_v (ov_assign rfl) rfl ?_
    refine st_nil ?_
    refine pn_then ?_
    refine sc_ret ?_
    refine pr_then ?_
    refine pr_one rfl rfl ?_
    exact ⟨rfl, hp.chg⟩
  ·
    have hc := of_decide_eq_false hc
    refine sc_skip ?_
    refine pn_then ?_
    refine sc_seq ?_
    refine sc_region ?_
    refine st_v (ov_assign rfl) rfl ?_
    refine st_nil ?_
    refine pn_then ?_
    refine sc_ret ?_
    refine pr_one rfl rfl ?_
    exact ⟨by rw [List.getD, List.getElem?_eq_none (by omega)]; rfl, hp.chg⟩

set_option maxRecDepth 100000 in
theorem atmost_walk (a b : List Nat) {na nb : Nat} (ao bo : Option Addr) (ca cb : Nat) (w0 : World) (h1 : Rd w0 ao (a.map NI)) (h2 : Rd w0 bo (b.map NI)) (hna : a.length = na) (hnb : b.length = nb) (hza : a.length ≤ 4096) (hzb : b.length ≤ 4096) :
    Calls Tryd.prog 51 #[.slice ao na ca, .slice bo nb cb] w0 fun e w' => e = .returned (.bool (leL a b)) ∧ Chg [] w0 w' := by
  refine calls_in Tryd.func51 Tryd.ntmps51 rfl rfl ?_
  have hp := Hp.start w0
  subst hna hnb
  refine sc_seq ?_
  refine sc_region ?_
  refine st_v (ov_assign rfl) rfl ?_
  refine st_nil ?_
  refine pn_then ?_
  refine sc_seq ?_
  refine sc_region ?_
  refine st_v (ov_move rfl) rfl ?_
  refine st_v (ov_len rfl Tryd.underlying80 rfl) rfl ?_
  refine st_v (ov_assign rfl) rfl ?_
  refine st_nil ?_
  refine pn_then ?_
  refine sc_seq ?_
  refine sc_seq ?_
  refine sc_region ?_
  refine st_v (ov_move rfl) rfl ?_
  refine st_v (ov_len rfl Tryd.underlying80 rfl) rfl ?_
  refine st_v (ov_move rfl) rfl ?_
  refine st_v (ov_gtr rfl rfl) rfl ?_
  refine st_nil ?_
  refine pn_then ?_
  refine sc_cutH1 (α := Nat) (kv := [(0, _), (1, _)]) (kl := []) (fun n kv => (5, .int .i64 ((n : Nat) : Int)) :: kv) (fun n kl => kl) (fun n => (n = max a.length b.length)) hp (Sub.cons rfl (Sub.cons rfl (Sub.nil _))) (LSub.nil _) ?_ ?_
  ·
    refine sc_cond rfl (fun hc => ?_) (fun hc => ?_)
    ·
      have hc := of_decide_eq_true hc
      refine sc_region ?_
      refine st_v (ov_move rfl) rfl ?_
      refine st_v (ov_len rfl Tryd.underlying80 rfl) rfl ?_
      refine st_v (ov_assign rfl) rfl ?_
      refine st_nil ?_
      refine pn_cutH1 b.length hp (Sub.cons rfl (Sub.cons rfl (Sub.cons rfl (Sub.nil _)))) (LSub.nil _) ?_
      exact (by omega)
    ·
      have hc := of_decide_eq_false hc
      refine sc_skip ?_
      refine pn_cutH1 a.length hp (Sub.cons rfl (Sub.cons rfl (Sub.cons rfl (Sub.nil _)))) (LSub.nil _) ?_
      exact (by omega)
  ·
    intro n w hp hx
    have hn : n = max a.length b.length := hx
    refine pn_then ?_
    refine sc_seq ?_
    refine sc_seq ?_
    refine sc_region ?_
    refine st_v (ov_move rfl) rfl ?_
    refine st_v (ov_sub_i64 rfl rfl (by omega)) rfl ?_
    refine st_v (ov_assign rfl) rfl ?_
    refine st_nil ?_
    refine pn_then ?_
    refine sc_block ?_
    refine sc_loopH1 (α := Nat) (kv := [(0, _), (1, _)]) (kl := []) (fun j kv => (6, .int .i64 (((j : Nat) : Int) - 1)) :: kv) (fun j kl => kl) (fun j => (j ≤ n) ∧ (leL a b = leN a b j)) (fun j => j) n hp (Sub.cons rfl (Sub.cons rfl (Sub.cons rfl (Sub.nil _)))) (LSub.nil _) ?_ ?_
    · exact ⟨(by first | omega | (simp; done) | (simp; omega) | (simp [*]; omega)), (by unfold leL; rw [hn])⟩
    intro j w hp hx
    obtain ⟨hj, hL⟩ := hx
    refine sc_seq ?_
    refine sc_seq ?_
    refine sc_region ?_
    refine st_v (ov_move rfl) rfl ?_
    refine st_v (ov_geq rfl rfl) rfl ?_
    refine st_nil ?_
    refine pn_then ?_
    refine sc_cond rfl (fun hc => ?_) (fun hc => ?_)
    ·
      have hc := of_decide_eq_true hc
      obtain ⟨m, rfl⟩ : ∃ m, j = m + 1 := ⟨j - 1, by omega⟩
      refine sc_skip ?_
      refine pn_then ?_
      refine sc_seq ?_
      refine sc_block ?_
      refine sc_seq ?_
      refine sc_region ?_
      refine st_v (ov_move rfl) rfl ?_
      refine st_v (v := .int .i64 ((m : Nat) : Int)) ((ov_move rfl).is (by congr 1; omega)) rfl ?_
      refine st_call pl69 rfl rfl rfl (digit_walk a m _ _ _ (h1.chg hp.chg) rfl) ?_
      rintro _ w ⟨rfl, hch⟩
      refine ⟨_, rfl, ?_⟩
      replace hp := hp.call hch
      clear hch
      refine st_v (ov_move rfl) rfl ?_
      refine st_v (v := .int .i64 ((m : Nat) : Int)) ((ov_move rfl).is (by congr 1; omega)) rfl ?_
      refine st_call pl69 rfl rfl rfl (digit_walk b m _ _ _ (h2.chg hp.chg) rfl) ?_
      rintro _ w ⟨rfl, hch⟩
      refine ⟨_, rfl, ?_⟩
      replace hp := hp.call hch
      clear hch
      refine st_v (ov_neq rfl rfl) rfl ?_
      refine st_nil ?_
      refine pn_then ?_
      refine sc_cond rfl (fun hc => ?_) (fun hc => ?_)
      ·
        have hc := of_decide_eq_true hc
        refine sc_seq ?_
        refine sc_region ?_
        refine st_v (ov_move rfl) rfl ?_
        refine st_v (v := .int .i64 ((m : Nat) : Int)) ((ov_move rfl).is (by congr 1; omega)) rfl ?_
        refine st_call pl69 rfl rfl rfl (digit_walk a m _ _ _ (h1.chg hp.chg) rfl) ?_
        rintro _ w ⟨rfl, hch⟩
        refine ⟨_, rfl, ?_⟩
        replace hp := hp.call hch
        clear hch
        refine st_v (ov_move rfl) rfl ?_
        refine st_v (v := .int .i64 ((m : Nat) : Int)) ((ov_move rfl).is (by congr 1; omega)) rfl ?_
        refine st_call pl69 rfl rfl rfl (digit_walk b m _ _ _ (h2.chg hp.chg) rfl) ?_
        rintro _ w ⟨rfl, hch⟩
        refine ⟨_, rfl, ?_⟩
        replace hp := hp.call hch
        clear hch
        refine st_v (ov_lss rfl rfl) rfl ?_
        refine st_v (ov_assign rfl) rfl ?_
        refine st_nil ?_
        refine pn_then ?_
        refine sc_ret ?_
        refine pr_block ?_
        refine pr_then ?_
        refine pr_then ?_
        refine pr_block ?_
        refine pr_then ?_
        refine pr_one rfl rfl ?_
        exact ⟨by rw [hL, leN, if_pos (by omega)]; simp, hp.chg⟩
      ·
        have hc := of_decide_eq_false hc
        refine sc_skip ?_
        refine pn_block ?_
        refine pn_then ?_
        refine sc_region ?_
        refine st_v (v := .int .i64 ((m : Nat) : Int)) ((ov_move rfl).is (by congr 1; omega)) rfl ?_
        refine st_v (ov_sub_i64 rfl rfl (by omega)) rfl ?_
        refine st_v (ov_assign rfl) rfl ?_
        refine st_nil ?_
        refine pn_roundH1 m hp (Sub.cons rfl (Sub.cons rfl (Sub.cons rfl (Sub.nil _)))) ?_ (LSub.nil _) ?_
        · omega
        exact ⟨(by first | omega | (simp; done) | (simp; omega) | (simp [*]; omega)), (by rw [hL, leN, if_neg (by omega)])⟩
    ·
      have hc := of_decide_eq_false hc
      refine sc_exit ?_
      refine pe_then ?_
      refine pe_then ?_
      refine pe_hit ?_
      refine pn_then ?_
      refine sc_seq ?_
      refine sc_region ?_
      refine st_v (ov_assign rfl) rfl ?_
      refine st_nil ?_
      refine pn_then ?_
      refine sc_ret ?_
      refine pr_one rfl rfl ?_
      obtain rfl : j = 0 := by omega
      exact ⟨by rw [hL]; rfl, hp.chg⟩

end Go.Proofs.YtcpbfnbfbladoaaDoor
