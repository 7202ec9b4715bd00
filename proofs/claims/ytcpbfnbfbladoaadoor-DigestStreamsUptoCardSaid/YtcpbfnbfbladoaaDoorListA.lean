/-
  The walks of sameBytes and copied, new forms.
-/
import Derived.Test.YtcpbfnbfbladoaaDoorFacts
import Derived.Test.YtcpbfnbfbladoaaDoorListP
namespace Go.Proofs.YtcpbfnbfbladoaaDoor
open Go Go.RowKit

set_option maxRecDepth 100000 in
theorem same2_walk0 (a b : List UInt8) (ao bo : Option Addr) (ca cb : Nat) (w0 : World) (h1 : Rd w0 ao (a.map B8)) (h2 : Rd w0 bo (b.map B8)) (hz : a.length ≤ 281474976710656) :
    Calls Tryd.prog 25 #[.slice ao a.length ca, .slice bo b.length cb] w0 fun e w' => e = .returned (.bool (decide (a = b))) ∧ Chg [] w0 w' := by
  refine calls_in Tryd.func25 Tryd.ntmps25 rfl rfl ?_
  have hp := Hp.start w0
  refine sc_seq ?_
  refine sc_region ?_
  refine st_v (ov_assign rfl) rfl ?_
  refine st_nil ?_
  refine pn_then ?_
  refine sc_seq ?_
  refine sc_seq ?_
  refine sc_region ?_
  refine st_v (ov_move rfl) rfl ?_
  refine st_v (ov_len rfl Tryd.underlying33 rfl) rfl ?_
  refine st_v (ov_move rfl) rfl ?_
  refine st_v (ov_len rfl Tryd.underlying33 rfl) rfl ?_
  refine st_v (ov_neq rfl rfl) rfl ?_
  refine st_nil ?_
  refine pn_then ?_
  refine sc_cond rfl (fun hc => ?_) (fun hc => ?_)
  ·
    have hc := of_decide_eq_true hc
    refine sc_seq ?_
    refine sc_region ?_
    refine st_v (ov_assign rfl) rfl ?_
    refine st_nil ?_
    refine pn_then ?_
    refine sc_ret ?_
    refine pr_then ?_
    refine pr_one rfl rfl ?_
    exact ⟨by rw [decide_eq_false (fun e => by subst e; omega)], hp.chg⟩
  ·
    have hc := of_decide_eq_false hc
    refine sc_skip ?_
    refine pn_then ?_
    refine sc_seq ?_
    refine sc_seq ?_
    refine sc_region ?_
    refine st_v (ov_assign rfl) rfl ?_
    refine st_nil ?_
    refine pn_then ?_
    refine sc_block ?_
    refine sc_loop1 (α := Nat) 0 (fun i => [(5, .int .i64 ((i : Nat) : Int)), (0, .slice ao a.length ca), (1, .slice bo b.length cb)]) (fun i w => Hp w0 [] [] [] w ∧ i ≤ a.length ∧ a.take i = b.take i) (fun i => a.length - i) ?_ ?_ ?_
    · exact (Sub.cons rfl (Sub.cons rfl (Sub.cons rfl (Sub.nil _))))
    · exact ⟨hp, by omega, rfl⟩
    intro i w hw
    obtain ⟨hp, hi, ht⟩ := hw
    refine sc_seq ?_
    refine sc_seq ?_
    refine sc_region ?_
    refine st_v (ov_move rfl) rfl ?_
    refine st_v (ov_move rfl) rfl ?_
    refine st_v (ov_len rfl Tryd.underlying33 rfl) rfl ?_
    refine st_v (ov_lss rfl rfl) rfl ?_
    refine st_nil ?_
    refine pn_then ?_
    refine sc_cond rfl (fun hc => ?_) (fun hc => ?_)
    ·
      have hc := of_decide_eq_true hc
      refine sc_skip ?_
      refine pn_then ?_
      refine sc_seq ?_
      refine sc_block ?_
      refine sc_seq ?_
      refine sc_draws (by kernel_rfl) (by kernel_rfl) ?_
      replace hp := hp.drew
      obtain ⟨_, _, rfl, ha⟩ := (h1.chg hp.chg).pos (by simp; omega)
      obtain ⟨_, _, rfl, hb2⟩ := (h2.chg hp.chg).pos (by simp; omega)
      refine ss_v (ov_move rfl) rfl ?_
      refine ss_v (ov_move rfl) rfl ?_
      refine ss_v (ov_indexS rfl rfl Tryd.underlying33 sz5 (by omega)) rfl ?_
      refine ss_v (ov_load1 rfl Tryd.underlying5 rfl (Cells.elem' ha (i) (by first | omega | (simp; omega) | (simp [*]; omega)) 0)) rfl ?_
      refine ss_v (ov_move rfl) rfl ?_
      refine ss_v (ov_move rfl) rfl ?_
      refine ss_v (ov_indexS rfl rfl Tryd.underlying33 sz5 (by omega)) rfl ?_
      refine ss_v (ov_load1 rfl Tryd.underlying5 rfl (Cells.elem' hb2 (i) (by first | omega | (simp; omega) | (simp [*]; omega)) 0)) rfl ?_
      refine ss_v (ov_neq rfl rfl) rfl ?_
      refine ss_end ?_
      refine pn_then ?_
      refine sc_cond rfl (fun hc => ?_) (fun hc => ?_)
      ·
        have hc := of_decide_eq_true hc
        refine sc_seq ?_
        refine sc_region ?_
        refine st_v (ov_assign rfl) rfl ?_
        refine st_nil ?_
        refine pn_then ?_
        refine sc_ret ?_
        refine pr_block ?_
        refine pr_then ?_
        refine pr_then ?_
        refine pr_block ?_
        refine pr_then ?_
        refine pr_one rfl rfl ?_
        exact ⟨by rw [decide_eq_false (same_ne ‹_›)], hp.chg⟩
      ·
        have hc := of_decide_eq_false hc
        refine sc_skip ?_
        refine pn_block ?_
        refine pn_then ?_
        refine sc_region ?_
        refine st_v (ov_move rfl) rfl ?_
        refine st_v (ov_add_n (a := i) (b := 1) rfl rfl (by omega)) rfl ?_
        refine st_v (ov_assign rfl) rfl ?_
        refine st_nil ?_
        refine pn_round1 (i + 1) ?_ ?_ ?_
        · exact (Sub.cons rfl (Sub.cons rfl (Sub.cons rfl (Sub.nil _))))
        · omega
        ·
          exact ⟨hp, by omega, same_step ht (by omega) (by omega) (by omega)⟩
    ·
      have hc := of_decide_eq_false hc
      refine sc_exit ?_
      refine pe_then ?_
      refine pe_then ?_
      refine pe_hit ?_
      refine pn_then ?_
      refine sc_seq ?_
      refine sc_region ?_
      refine st_v (ov_assign rfl) rfl ?_
      refine st_nil ?_
      refine pn_then ?_
      refine sc_ret ?_
      refine pr_one rfl rfl ?_
      exact ⟨by rw [decide_eq_true (same_done ht (by omega) (by omega))], hp.chg⟩

theorem same2_walk (a b : List UInt8) {na nb : Nat} (ao bo : Option Addr) (ca cb : Nat) (w0 : World) (h1 : Rd w0 ao (a.map B8)) (h2 : Rd w0 bo (b.map B8)) (ha : a.length = na) (hb : b.length = nb) (hz : a.length ≤ 281474976710656) :
    Calls Tryd.prog 25 #[.slice ao na ca, .slice bo nb cb] w0 fun e w' => e = .returned (.bool (decide (a = b))) ∧ Chg [] w0 w' := by
  subst ha hb; exact same2_walk0 a b ao bo ca cb w0 h1 h2 hz
theorem same2_walk_eq (a : List UInt8) {na nb : Nat} (ao bo : Option Addr) (ca cb : Nat) (w0 : World) (h1 : Rd w0 ao (a.map B8)) (h2 : Rd w0 bo (a.map B8)) (ha : a.length = na) (hb : a.length = nb) (hz : a.length ≤ 281474976710656) :
    Calls Tryd.prog 25 #[.slice ao na ca, .slice bo nb cb] w0 fun e w' => e = .returned (.bool true) ∧ Chg [] w0 w' :=
  (same2_walk a a ao bo ca cb w0 h1 h2 ha hb hz).mono fun e w' h => ⟨by rw [h.1]; simp, h.2⟩

set_option maxRecDepth 100000 in
theorem copied2_walk0 (a : List UInt8) (ao : Option Addr) (ca : Nat) (w0 : World) (h1 : Rd w0 ao (a.map B8)) (hz : a.length ≤ 140737488351232) :
    Calls Tryd.prog 18 #[.slice ao a.length ca] w0 fun e w' => ∃ g : Gs, e = .returned (.slice (adr g.ob) a.length g.cap) ∧ Made w0 w' 5 1 (a.map B8) g := by
  refine calls_in Tryd.func18 Tryd.ntmps18 rfl rfl ?_
  have hp := Hp.start w0
  refine sc_seq ?_
  refine sc_region ?_
  refine st_v (ov_assign rfl) rfl ?_
  refine st_nil ?_
  refine pn_then ?_
  refine sc_seq ?_
  refine sc_seq ?_
  refine sc_region ?_
  refine st_v (ov_move rfl) rfl ?_
  refine st_v (ov_eqlS Tryd.underlying33 rfl rfl) rfl ?_
  refine st_nil ?_
  refine pn_then ?_
  refine sc_cond rfl (fun hc => ?_) (fun hc => ?_)
  ·
    obtain rfl : ao = none := by simpa using hc
    have ha0 : a = [] := by simpa using h1.nil_of
    subst ha0
    refine sc_seq ?_
    refine sc_region ?_
    refine st_v (ov_assign rfl) rfl ?_
    refine st_nil ?_
    refine pn_then ?_
    refine sc_ret ?_
    refine pr_then ?_
    refine pr_one rfl rfl ?_
    exact ⟨gnil, rfl, hp.made_nil _ _⟩
  ·
    refine sc_skip ?_
    refine pn_then ?_
    refine sc_seq ?_
    refine sc_region ?_
    refine st_v (ov_move rfl) rfl ?_
    refine st_v (ov_len rfl Tryd.underlying33 rfl) rfl ?_
    refine st_make1 9 (l := 0) (c := a.length) hp rfl rfl rfl Tryd.underlying33 in5 ⟨rfl, rfl, by omega, by omega, by omega⟩ rfl (fun b9 w hp => ?_)
    refine st_v (ov_assign rfl) rfl ?_
    refine st_nil ?_
    refine pn_then ?_
    refine sc_seq ?_
    refine sc_seq ?_
    refine sc_region ?_
    refine st_v (ov_assign rfl) rfl ?_
    refine st_nil ?_
    refine pn_then ?_
    refine sc_block ?_
    refine sc_loop2 (α := Nat) (β := Gs) 0 ⟨some b9, a.length, List.replicate a.length (B8 0)⟩ (fun i g => [(4, .int .i64 ((i : Nat) : Int)), (0, .slice ao a.length ca), (3, .slice (adr g.ob) (i) g.cap)]) (fun i g w => Hp w0 [] [(9, ⟨g.ob, (a.take i).map B8 ++ g.sp, 5⟩)] [] w ∧ ((a.take i).map B8 ++ g.sp).length = g.cap * 1 ∧ i ≤ a.length) (fun i g => a.length - i) ?_ ?_ ?_
    · exact (Sub.cons rfl (Sub.cons rfl (Sub.cons rfl (Sub.nil _))))
    · exact ⟨hp, by simp, by omega⟩
    intro i g w hw
    obtain ⟨hp, hcap, hi⟩ := hw
    refine sc_seq ?_
    refine sc_seq ?_
    refine sc_region ?_
    refine st_v (ov_move rfl) rfl ?_
    refine st_v (ov_move rfl) rfl ?_
    refine st_v (ov_len rfl Tryd.underlying33 rfl) rfl ?_
    refine st_v (ov_lss rfl rfl) rfl ?_
    refine st_nil ?_
    refine pn_then ?_
    refine sc_cond rfl (fun hc => ?_) (fun hc => ?_)
    ·
      have hc := of_decide_eq_true hc
      refine sc_skip ?_
      refine pn_then ?_
      refine sc_seq ?_
      refine sc_block ?_
      obtain ⟨_, _, rfl, ha⟩ := (h1.chg hp.chg).pos (by simp; omega)
      refine sc_region ?_
      refine st_v (ov_move rfl) rfl ?_
      refine st_v (ov_move rfl) rfl ?_
      refine st_v (ov_move rfl) rfl ?_
      refine st_v (ov_indexS rfl rfl Tryd.underlying33 sz5 (by omega)) rfl ?_
      refine st_v (ov_load1 rfl Tryd.underlying5 rfl (Cells.elem' ha (i) (by first | omega | (simp; omega) | (simp [*]; omega)) 0)) rfl ?_
      refine st_app1 9 21 g  hp rfl rfl rfl rfl rfl (by simp) rfl rfl Tryd.underlying33 in5 (by decide) rfl (by simp; omega) hcap rfl rfl (by simp [Value.oneCell']) (by omega) (fun g2 b21 w hp hcap hf9 => ?_)
      refine st_v (ov_assign rfl) rfl ?_
      refine st_nil ?_
      refine pn_block ?_
      refine pn_then ?_
      refine sc_region ?_
      refine st_v (ov_move rfl) rfl ?_
      refine st_v (ov_add_n (a := i) (b := 1) rfl rfl (by omega)) rfl ?_
      refine st_v (ov_assign rfl) rfl ?_
      refine st_nil ?_
      refine pn_round2 (i + 1) g2 ?_ ?_ ?_
      · exact (Sub.cons rfl (Sub.cons rfl (Sub.cons rfl (Sub.nil _))))
      · omega
      ·
        have e2 : (a.take (i + 1)).map B8 = (a.take i).map B8 ++ [B8 (a.getD i 0)] := by
          rw [List.take_add_one, List.map_append, List.getD, List.getElem?_eq_getElem (by omega)]; rfl
        rw [e2]
        exact ⟨hp.sub (lsub_cons rfl (lsub_nil _)), hcap, by omega⟩
    ·
      have hc := of_decide_eq_false hc
      obtain rfl : i = a.length := by omega
      rw [List.take_length] at hp hcap
      refine sc_exit ?_
      refine pe_then ?_
      refine pe_then ?_
      refine pe_hit ?_
      refine pn_then ?_
      refine sc_seq ?_
      refine sc_region ?_
      refine st_v (ov_move rfl) rfl ?_
      refine st_v (ov_assign rfl) rfl ?_
      refine st_nil ?_
      refine pn_then ?_
      refine sc_ret ?_
      refine pr_one rfl rfl ?_
      exact ⟨g, rfl, hp.made (t := 9) rfl hcap⟩

theorem copied2_walk (a : List UInt8) {na : Nat} (ao : Option Addr) (ca : Nat) (w0 : World) (h1 : Rd w0 ao (a.map B8)) (ha : a.length = na) (hz : a.length ≤ 140737488351232) :
    Calls Tryd.prog 18 #[.slice ao na ca] w0 fun e w' => ∃ g : Gs, e = .returned (.slice (adr g.ob) na g.cap) ∧ Mk w0 w' 5 1 (a.map B8) g := by
  subst ha; exact (copied2_walk0 a ao ca w0 h1 hz).mono fun e w' ⟨g, h, hm⟩ => ⟨g, h, Mk.of_made hm⟩

end Go.Proofs.YtcpbfnbfbladoaaDoor
