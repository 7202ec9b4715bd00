/-
  The walks of both Wraps.
-/
import Derived.Test.YthebbenfmoknbaaFacts
import Derived.Test.YthebbenfmoknbaaFrmP
import Derived.Test.YthebbenfmoknbaaListA
namespace Go.Proofs.Ythebbenfmoknbaa
open Go Go.RowKit

set_option maxRecDepth 100000 in
theorem wrap_walk (b : List UInt8) {nb : Nat} (ao : Option Addr) (ca : Nat) (w0 : World) (h1 : Rd w0 ao (b.map B8)) (hb : b.length = nb) (hz : b.length ≤ 140737488351232) :
    Calls Try.prog 16 #[.slice ao nb ca] w0 fun e w' => ∃ g : Gs, e = .returned (.tuple #[.slice (adr g.ob) (wrapL b).length g.cap, .int .i64 (wrapE b)]) ∧ Mk w0 w' 5 1 ((wrapL b).map B8) g := by
  refine calls_in Try.func16 Try.ntmps16 rfl rfl ?_
  have hp := Hp.start w0
  subst hb
  refine sc_seq ?_
  refine sc_region ?_
  refine st_v (ov_assign rfl) rfl ?_
  refine st_v (ov_assign rfl) rfl ?_
  refine st_nil ?_
  refine pn_then ?_
  refine sc_seq ?_
  refine sc_seq ?_
  refine sc_region ?_
  refine st_v (ov_move rfl) rfl ?_
  refine st_v (ov_len rfl Try.underlying26 rfl) rfl ?_
  refine st_v (ov_gtr rfl rfl) rfl ?_
  refine st_nil ?_
  refine pn_then ?_
  refine sc_cond rfl (fun hc => ?_) (fun hc => ?_)
  ·
    have hc := of_decide_eq_true hc
    refine sc_seq ?_
    refine sc_region ?_
    refine st_v (ov_assign rfl) rfl ?_
    refine st_v (ov_assign rfl) rfl ?_
    refine st_nil ?_
    refine pn_then ?_
    refine sc_ret ?_
    refine pr_then ?_
    refine pr_two rfl rfl rfl ?_
    obtain ⟨e1, e2⟩ := wrap_big (b := b) (by omega)
    rw [e1, e2]
    exact ⟨gnil, rfl, hp.gives0 _ _⟩
  ·
    have hc := of_decide_eq_false hc
    refine sc_skip ?_
    refine pn_then ?_
    refine sc_seq ?_
    refine sc_region ?_
    refine st_v (ov_move rfl) rfl ?_
    refine st_v (ov_len rfl Try.underlying26 rfl) rfl ?_
    refine st_v (ov_assign rfl) rfl ?_
    refine st_nil ?_
    refine pn_then ?_
    refine sc_seq ?_
    refine sc_region ?_
    refine st_v (ov_move rfl) rfl ?_
    refine st_v (ov_add_n (a := 4) (b := b.length) rfl rfl (by omega)) rfl ?_
    refine st_make1 13 (l := 0) (c := 4 + b.length) hp rfl rfl rfl Try.underlying26 in5 ⟨by omega, by omega, by omega, by omega, by omega⟩ rfl (fun b13 w hp => ?_)
    refine st_v (ov_assign rfl) rfl ?_
    refine st_nil ?_
    refine pn_then ?_
    refine sc_seq ?_
    refine sc_region ?_
    refine st_v (ov_move rfl) rfl ?_
    refine st_v (ov_move rfl) rfl ?_
    refine st_v (ov_shr_n (a := b.length) (s := 24) rfl rfl ⟨by omega, by show 24 ≤ 64; omega⟩) rfl ?_
    refine st_v (ov_conv_n_8 (a := b.length >>> 24) Try.underlying3 Try.underlying5 rfl) rfl ?_
    refine st_v (ov_move rfl) rfl ?_
    refine st_v (ov_shr_n (a := b.length) (s := 16) rfl rfl ⟨by omega, by show 16 ≤ 64; omega⟩) rfl ?_
    refine st_v (ov_conv_n_8 (a := b.length >>> 16) Try.underlying3 Try.underlying5 rfl) rfl ?_
    refine st_v (ov_move rfl) rfl ?_
    refine st_v (ov_shr_n (a := b.length) (s := 8) rfl rfl ⟨by omega, by show 8 ≤ 64; omega⟩) rfl ?_
    refine st_v (ov_conv_n_8 (a := b.length >>> 8) Try.underlying3 Try.underlying5 rfl) rfl ?_
    refine st_v (ov_move rfl) rfl ?_
    refine st_v (ov_conv_n_8 (a := b.length) Try.underlying3 Try.underlying5 rfl) rfl ?_
    refine st_build 26 (cells := [B8 (UInt8.ofNat (b.length >>> 24)), B8 (UInt8.ofNat (b.length >>> 16)), B8 (UInt8.ofNat (b.length >>> 8)), B8 (UInt8.ofNat b.length)]) hp rfl rfl Try.underlying26 (in2_of in5) (by decide) (by kernel_rfl) (fun b26 w hb26 hp => ?_)
    rw [four_shr] at hp
    refine st_append 13 (⟨some b13, 4 + b.length, List.replicate (4 + b.length) (Value.int .u8 0)⟩ : Gs) (xs := []) (news := (four b.length).map B8) hp rfl rfl rfl rfl rfl Try.underlying26 in5 (by decide) rfl rfl (by simp) ((Rd.of (hp.cells' (t := 26) rfl))) rfl (one_all _) (by omega) (fun g2 w hp hcap hf13 => ?_)
    simp only [List.nil_append] at hp hcap
    refine st_v (ov_assign rfl) rfl ?_
    refine st_nil ?_
    refine pn_then ?_
    refine sc_seq ?_
    refine sc_region ?_
    refine st_v (ov_move rfl) rfl ?_
    refine st_v (ov_move rfl) rfl ?_
    refine st_append 13 g2 (news := b.map B8) hp rfl rfl rfl rfl rfl Try.underlying26 in5 (by decide) rfl rfl hcap (h1.chg hp.chg) (by simp) (one_all _) (by omega) (fun g3 w hp hcap hf13 => ?_)
    refine st_v (ov_assign rfl) rfl ?_
    refine st_v (ov_assign rfl) rfl ?_
    refine st_nil ?_
    refine pn_then ?_
    refine sc_ret ?_
    refine pr_two rfl rfl rfl ?_
    obtain ⟨e1, e2⟩ := wrap_ok (b := b) (by omega)
    rw [e1, e2]
    exact ⟨g3, by rw [List.length_append, four_len], hp.gives 13 (by rw [List.map_append]; rfl) (by rw [List.map_append]; exact hcap)⟩

set_option maxRecDepth 100000 in
theorem wrapr_walk (b : List UInt8) {nb : Nat} (ao : Option Addr) (ca : Nat) (w0 : World) (h1 : Rd w0 ao (b.map B8)) (hb : b.length = nb) (hz : b.length ≤ 140737488351232) :
    Calls Try.prog 17 #[.slice ao nb ca] w0 fun e w' => ∃ g : Gs, e = .returned (.tuple #[.slice (adr g.ob) (wrapL b).length g.cap, .int .i64 (wrapE b)]) ∧ Mk w0 w' 5 1 ((wrapL b).map B8) g := by
  refine calls_in Try.func17 Try.ntmps17 rfl rfl ?_
  have hp := Hp.start w0
  subst hb
  refine sc_seq ?_
  refine sc_region ?_
  refine st_v (ov_assign rfl) rfl ?_
  refine st_v (ov_assign rfl) rfl ?_
  refine st_nil ?_
  refine pn_then ?_
  refine sc_seq ?_
  refine sc_seq ?_
  refine sc_region ?_
  refine st_v (ov_move rfl) rfl ?_
  refine st_v (ov_len rfl Try.underlying26 rfl) rfl ?_
  refine st_v (ov_gtr rfl rfl) rfl ?_
  refine st_nil ?_
  refine pn_then ?_
  refine sc_cond rfl (fun hc => ?_) (fun hc => ?_)
  ·
    have hc := of_decide_eq_true hc
    refine sc_seq ?_
    refine sc_region ?_
    refine st_v (ov_assign rfl) rfl ?_
    refine st_v (ov_assign rfl) rfl ?_
    refine st_nil ?_
    refine pn_then ?_
    refine sc_ret ?_
    refine pr_then ?_
    refine pr_two rfl rfl rfl ?_
    obtain ⟨e1, e2⟩ := wrap_big (b := b) (by omega)
    rw [e1, e2]
    exact ⟨gnil, rfl, hp.gives0 _ _⟩
  ·
    have hc := of_decide_eq_false hc
    refine sc_skip ?_
    refine pn_then ?_
    refine sc_seq ?_
    refine sc_region ?_
    refine st_v (ov_move rfl) rfl ?_
    refine st_v (ov_len rfl Try.underlying26 rfl) rfl ?_
    refine st_v (ov_assign rfl) rfl ?_
    refine st_nil ?_
    refine pn_then ?_
    refine sc_seq ?_
    refine sc_region ?_
    refine st_v (ov_move rfl) rfl ?_
    refine st_v (ov_quo_n (a := b.length) (b := 16777216) rfl rfl (by omega)) rfl ?_
    refine st_v (ov_rem_n (a := b.length / 16777216) (b := 256) rfl rfl (by omega)) rfl ?_
    refine st_v (ov_conv_n_8 (a := (b.length / 16777216) % 256) Try.underlying3 Try.underlying5 rfl) rfl ?_
    refine st_v (ov_move rfl) rfl ?_
    refine st_v (ov_quo_n (a := b.length) (b := 65536) rfl rfl (by omega)) rfl ?_
    refine st_v (ov_rem_n (a := b.length / 65536) (b := 256) rfl rfl (by omega)) rfl ?_
    refine st_v (ov_conv_n_8 (a := (b.length / 65536) % 256) Try.underlying3 Try.underlying5 rfl) rfl ?_
    refine st_v (ov_move rfl) rfl ?_
    refine st_v (ov_quo_n (a := b.length) (b := 256) rfl rfl (by omega)) rfl ?_
    refine st_v (ov_rem_n (a := b.length / 256) (b := 256) rfl rfl (by omega)) rfl ?_
    refine st_v (ov_conv_n_8 (a := (b.length / 256) % 256) Try.underlying3 Try.underlying5 rfl) rfl ?_
    refine st_v (ov_move rfl) rfl ?_
    refine st_v (ov_rem_n (a := b.length) (b := 256) rfl rfl (by omega)) rfl ?_
    refine st_v (ov_conv_n_8 (a := b.length % 256) Try.underlying3 Try.underlying5 rfl) rfl ?_
    refine st_build 26 (cells := [B8 (UInt8.ofNat ((b.length / 16777216) % 256)), B8 (UInt8.ofNat ((b.length / 65536) % 256)), B8 (UInt8.ofNat ((b.length / 256) % 256)), B8 (UInt8.ofNat (b.length % 256))]) hp rfl rfl Try.underlying26 (in2_of in5) (by decide) (by kernel_rfl) (fun b26 w hb26 hp => ?_)
    rw [four_mod] at hp
    refine st_v (ov_assign rfl) rfl ?_
    refine st_nil ?_
    refine pn_then ?_
    refine sc_seq ?_
    refine sc_region ?_
    refine st_v (ov_move rfl) rfl ?_
    refine st_v (ov_move rfl) rfl ?_
    refine st_append 26 (⟨some b26, 4, []⟩ : Gs) (xs := (four b.length).map B8) (news := b.map B8) hp rfl rfl rfl rfl rfl Try.underlying26 in5 (by decide) rfl rfl rfl (h1.chg hp.chg) (by simp) (one_all _) (by omega) (fun g3 w hp hcap hf26 => ?_)
    refine st_v (ov_assign rfl) rfl ?_
    refine st_nil ?_
    refine pn_then ?_
    refine sc_seq ?_
    refine sc_region ?_
    refine st_v (ov_move rfl) rfl ?_
    refine st_v (ov_assign rfl) rfl ?_
    refine st_v (ov_assign rfl) rfl ?_
    refine st_nil ?_
    refine pn_then ?_
    refine sc_ret ?_
    refine pr_two rfl rfl rfl ?_
    obtain ⟨e1, e2⟩ := wrap_ok (b := b) (by omega)
    rw [e1, e2]
    exact ⟨g3, by rw [List.length_append, four_len], hp.gives 26 (by rw [List.map_append]; rfl) (by rw [List.map_append]; exact hcap)⟩

set_option maxRecDepth 100000 in
theorem law_wraps (b : List UInt8) (ao : Option Addr) (ca : Nat) (w0 : World) (h1 : Rd w0 ao (b.map B8)) (hz : b.length ≤ 140737488351232) :
    Calls Try.prog 4 #[.slice ao b.length ca] w0 fun e w' => e = .returned (.bool true) ∧ Chg [] w0 w' := by
  refine calls_in Try.func4 Try.ntmps4 rfl rfl ?_
  have hp := Hp.start w0
  have hwl := wrap_le b
  refine sc_seq ?_
  refine sc_region ?_
  refine st_v (ov_assign rfl) rfl ?_
  refine st_nil ?_
  refine pn_then ?_
  refine sc_seq ?_
  refine sc_region ?_
  refine st_v (ov_move rfl) rfl ?_
  refine st_call pl15 rfl rfl rfl (copied_walk b _ _ _ (h1.chg hp.chg) (by first | rfl | omega | (simp; done) | (simp; omega) | (simp [*]; omega)) (by omega)) ?_
  rintro _ w ⟨g9, rfl, hm9⟩
  refine ⟨_, rfl, ?_⟩
  replace hp := hp.got 9 hm9
  have hc9 := hm9.2
  clear hm9
  refine st_v (ov_assign rfl) rfl ?_
  refine st_nil ?_
  refine pn_then ?_
  refine sc_seq ?_
  refine sc_region ?_
  refine st_v (ov_move rfl) rfl ?_
  refine st_call pl16 rfl rfl rfl (wrap_walk b _ _ _ (Rd.own (hp.own 9 _ rfl)) (by first | rfl | omega | (simp; done)) (by omega)) ?_
  rintro _ w ⟨g12, rfl, hm12⟩
  refine ⟨_, rfl, ?_⟩
  replace hp := hp.got 12 hm12
  have hc12 := hm12.2
  clear hm12
  refine st_v (ov_move rfl) rfl ?_
  refine st_v (ov_extract rfl rfl) rfl ?_
  refine st_v (ov_extract rfl rfl) rfl ?_
  refine st_v (ov_assign rfl) rfl ?_
  refine st_v (ov_assign rfl) rfl ?_
  refine st_nil ?_
  refine pn_then ?_
  refine sc_seq ?_
  refine sc_region ?_
  refine st_v (ov_move rfl) rfl ?_
  refine st_call pl17 rfl rfl rfl (wrapr_walk b _ _ _ (h1.chg hp.chg) (by first | rfl | omega | (simp; done)) (by omega)) ?_
  rintro _ w ⟨g17, rfl, hm17⟩
  refine ⟨_, rfl, ?_⟩
  replace hp := hp.got 17 hm17
  have hc17 := hm17.2
  clear hm17
  refine st_v (ov_move rfl) rfl ?_
  refine st_v (ov_extract rfl rfl) rfl ?_
  refine st_v (ov_extract rfl rfl) rfl ?_
  refine st_v (ov_assign rfl) rfl ?_
  refine st_v (ov_assign rfl) rfl ?_
  refine st_nil ?_
  refine pn_then ?_
  refine sc_seq ?_
  refine sc_region ?_
  refine st_v (ov_move rfl) rfl ?_
  refine st_v (ov_move rfl) rfl ?_
  refine st_v (v := .bool true) ((ov_eql rfl rfl).is ((by simp))) rfl ?_
  refine st_v (ov_move rfl) rfl ?_
  refine st_on (j := 3) rfl rfl ?_
  refine st_v (ov_move rfl) rfl ?_
  refine st_on (j := 3) rfl rfl ?_
  refine st_v (ov_move rfl) rfl ?_
  refine st_on (j := 3) rfl rfl ?_
  refine st_call pl14 rfl rfl rfl (same_walk_eq (wrapL b) _ _ _ _ _ ((Rd.own (hp.own 12 _ rfl))) ((Rd.own (hp.own 17 _ rfl))) (by first | rfl | omega | (simp; done) | (simp; omega) | (simp [*]; omega)) (by first | rfl | omega | (simp; done) | (simp; omega) | (simp [*]; omega)) (by first | omega | (simp; omega))) ?_
  rintro _ w ⟨rfl, hch⟩
  refine ⟨_, rfl, ?_⟩
  replace hp := hp.call hch
  clear hch
  refine st_v (ov_pick_t rfl rfl) rfl ?_
  refine st_v (ov_move rfl) rfl ?_
  refine st_on (j := 8) rfl rfl ?_
  refine st_v (ov_move rfl) rfl ?_
  refine st_on (j := 8) rfl rfl ?_
  refine st_v (ov_move rfl) rfl ?_
  refine st_on (j := 8) rfl rfl ?_
  refine st_call pl14 rfl rfl rfl (same_walk_eq b _ _ _ _ _ (Rd.own (hp.own 9 _ rfl)) (h1.chg hp.chg) (by first | rfl | omega | (simp; done) | (simp; omega) | (simp [*]; omega)) (by first | rfl | omega | (simp; done) | (simp; omega) | (simp [*]; omega)) (by first | omega | (simp; omega))) ?_
  rintro _ w ⟨rfl, hch⟩
  refine ⟨_, rfl, ?_⟩
  replace hp := hp.call hch
  clear hch
  refine st_v (ov_pick_t rfl rfl) rfl ?_
  refine st_v (ov_assign rfl) rfl ?_
  refine st_nil ?_
  refine pn_then ?_
  refine sc_ret ?_
  refine pr_one rfl rfl ?_
  exact ⟨rfl, hp.chg⟩

end Go.Proofs.Ythebbenfmoknbaa
