/-
  The walks of sameBytes and copied.
-/
import Derived.Test.YthebbenfmoknbaaFacts
import Derived.Test.YthebbenfmoknbaaListP
namespace Go.Proofs.Ythebbenfmoknbaa
open Go Go.RowKit

set_option maxRecDepth 100000 in
theorem same_walk0 (a b : List UInt8) (ao bo : Option Addr) (ca cb : Nat) (w0 : World) (h1 : Rd w0 ao (a.map B8)) (h2 : Rd w0 bo (b.map B8)) (hz : a.length ≤ 281474976710656) :
    Calls Try.prog 14 #[.slice ao a.length ca, .slice bo b.length cb] w0 fun e w' => e = .returned (.bool (decide (a = b))) ∧ Chg [] w0 w' := by
  refine calls_in Try.func14 Try.ntmps14 rfl rfl ?_
  have hp := Hp.start w0
  refine sc_seq ?_
  refine sc_region ?_
  refine st_v (ov_assign rfl) rfl ?_
  refine st_nil ?_
  refine pn_then ?_
  refine sc_seq ?_
  refine sc_seq ?_
  refine sc_region ?_
  refine st_v (ov_move rfl) rfl ?_
  refine st_v (ov_len rfl Try.underlying26 rfl) rfl ?_
  refine st_v (ov_move rfl) rfl ?_
  refine st_v (ov_len rfl Try.underlying26 rfl) rfl ?_
  refine st_v (ov_neq rfl rfl) rfl ?_
  refine st_nil ?_
  refine pn_then ?_
  refine sc_cond rfl (fun hc => ?_) (fun hc => ?_)
  ·
    have hc := of_decide_eq_true hc
    refine sc_seq ?_
    refine sc_region ?_
    refine st_v (ov_assign rfl) rfl ?_
    refine st_nil ?_
    refine pn_then ?_
    refine sc_ret ?_
    refine pr_then ?_
    refine pr_one rfl rfl ?_
    exact ⟨by rw [decide_eq_false (fun e => by subst e; omega)], hp.chg⟩
  ·
    have hc := of_decide_eq_false hc
    refine sc_skip ?_
    refine pn_then ?_
    refine sc_seq ?_
    refine sc_seq ?_
    refine sc_region ?_
    refine st_v (ov_assign rfl) rfl ?_
    refine st_nil ?_
    refine pn_then ?_
    refine sc_block ?_
    refine sc_loop1 (α := Nat) 0 (fun i => [(5, .int .i64 ((i : Nat) : Int)), (0, .slice ao a.length ca), (1, .slice bo b.length cb)]) (fun i w => Hp w0 [] [] [] w ∧ i ≤ a.length ∧ a.take i = b.take i) (fun i => a.length - i) ?_ ?_ ?_
    · exact (Sub.cons rfl (Sub.cons rfl (Sub.cons rfl (Sub.nil _))))
    · exact ⟨hp, by omega, rfl⟩
    intro i w hw
    obtain ⟨hp, hi, ht⟩ := hw
    refine sc_seq ?_
    refine sc_seq ?_
    refine sc_region ?_
    refine st_v (ov_move rfl) rfl ?_
    refine st_v (ov_move rfl) rfl ?_
    refine st_v (ov_len rfl Try.underlying26 rfl) rfl ?_
    refine st_v (ov_lss rfl rfl) rfl ?_
    refine st_nil ?_
    refine pn_then ?_
    refine sc_cond rfl (fun hc => ?_) (fun hc => ?_)
    ·
      have hc := of_decide_eq_true hc
      refine sc_skip ?_
      refine pn_then ?_
      refine sc_seq ?_
      refine sc_block ?_
      refine sc_seq ?_
      refine sc_draws (by kernel_rfl) (by kernel_rfl) ?_
      replace hp := hp.drew
      obtain ⟨_, _, rfl, ha⟩ := (h1.chg hp.chg).pos (by simp; omega)
      obtain ⟨_, _, rfl, hb2⟩ := (h2.chg hp.chg).pos (by simp; omega)
      refine ss_v (ov_move rfl) rfl ?_
      refine ss_v (ov_move rfl) rfl ?_
      refine ss_v (ov_indexS rfl rfl Try.underlying26 sz5 (by omega)) rfl ?_
      refine ss_v (ov_load1 rfl Try.underlying5 rfl (Cells.elem' ha (i) (by first | omega | (simp; omega) | (simp [*]; omega)) 0)) rfl ?_
      refine ss_v (ov_move rfl) rfl ?_
      refine ss_v (ov_move rfl) rfl ?_
      refine ss_v (ov_indexS rfl rfl Try.underlying26 sz5 (by omega)) rfl ?_
      refine ss_v (ov_load1 rfl Try.underlying5 rfl (Cells.elem' hb2 (i) (by first | omega | (simp; omega) | (simp [*]; omega)) 0)) rfl ?_
      refine ss_v (ov_neq rfl rfl) rfl ?_
      refine ss_end ?_
      refine pn_then ?_
      refine sc_cond rfl (fun hc => ?_) (fun hc => ?_)
      ·
        have hc := of_decide_eq_true hc
        refine sc_seq ?_
        refine sc_region ?_
        refine st_v (ov_assign rfl) rfl ?_
        refine st_nil ?_
        refine pn_then ?_
        refine sc_ret ?_
        refine pr_block ?_
        refine pr_then ?_
        refine pr_then ?_
        refine pr_block ?_
        refine pr_then ?_
        refine pr_one rfl rfl ?_
        exact ⟨by rw [decide_eq_false (same_ne ‹_›)], hp.chg⟩
      ·
        have hc := of_decide_eq_false hc
        refine sc_skip ?_
        refine pn_block ?_
        refine pn_then ?_
        refine sc_region ?_
        refine st_v (ov_move rfl) rfl ?_
        refine st_v (ov_add_n (a := i) (b := 1) rfl rfl (by omega)) rfl ?_
        refine st_v (ov_assign rfl) rfl ?_
        refine st_nil ?_
        refine pn_round1 (i + 1) ?_ ?_ ?_
        · exact (Sub.cons rfl (Sub.cons rfl (Sub.cons rfl (Sub.nil _))))
        · omega
        ·
          exact ⟨hp, by omega, same_step ht (by omega) (by omega) (by omega)⟩
    ·
      have hc := of_decide_eq_false hc
      refine sc_exit ?_
      refine pe_then ?_
      refine pe_then ?_
      refine pe_hit ?_
      refine pn_then ?_
      refine sc_seq ?_
      refine sc_region ?_
      refine st_v (ov_assign rfl) rfl ?_
      refine st_nil ?_
      refine pn_then ?_
      refine sc_ret ?_
      refine pr_one rfl rfl ?_
      exact ⟨by rw [decide_eq_true (same_done ht (by omega) (by omega))], hp.chg⟩

theorem same_walk (a b : List UInt8) {na nb : Nat} (ao bo : Option Addr) (ca cb : Nat) (w0 : World) (h1 : Rd w0 ao (a.map B8)) (h2 : Rd w0 bo (b.map B8)) (ha : a.length = na) (hb : b.length = nb) (hz : a.length ≤ 281474976710656) :
    Calls Try.prog 14 #[.slice ao na ca, .slice bo nb cb] w0 fun e w' => e = .returned (.bool (decide (a = b))) ∧ Chg [] w0 w' := by
  subst ha hb; exact same_walk0 a b ao bo ca cb w0 h1 h2 hz
theorem same_walk_eq (a : List UInt8) {na nb : Nat} (ao bo : Option Addr) (ca cb : Nat) (w0 : World) (h1 : Rd w0 ao (a.map B8)) (h2 : Rd w0 bo (a.map B8)) (ha : a.length = na) (hb : a.length = nb) (hz : a.length ≤ 281474976710656) :
    Calls Try.prog 14 #[.slice ao na ca, .slice bo nb cb] w0 fun e w' => e = .returned (.bool true) ∧ Chg [] w0 w' :=
  (same_walk a a ao bo ca cb w0 h1 h2 ha hb hz).mono fun e w' h => ⟨by rw [h.1]; simp, h.2⟩

set_option maxRecDepth 100000 in
theorem copied_walk0 (a : List UInt8) (ao : Option Addr) (ca : Nat) (w0 : World) (h1 : Rd w0 ao (a.map B8)) (hz : a.length ≤ 140737488351232) :
    Calls Try.prog 15 #[.slice ao a.length ca] w0 fun e w' => ∃ g : Gs, e = .returned (.slice (adr g.ob) a.length g.cap) ∧ Made w0 w' 5 1 (a.map B8) g := by
  refine calls_in Try.func15 Try.ntmps15 rfl rfl ?_
  have hp := Hp.start w0
  refine sc_seq ?_
  refine sc_region ?_
  refine st_v (ov_assign rfl) rfl ?_
  refine st_nil ?_
  refine pn_then ?_
  refine sc_seq ?_
  refine sc_seq ?_
  refine sc_region ?_
  refine st_v (ov_move rfl) rfl ?_
  refine st_v (ov_eqlS Try.underlying26 rfl rfl) rfl ?_
  refine st_nil ?_
  refine pn_then ?_
  refine sc_cond rfl (fun hc => ?_) (fun hc => ?_)
  ·
    obtain rfl : ao = none := by simpa using hc
    have ha0 : a = [] := by simpa using h1.nil_of
    subst ha0
    refine sc_seq ?_
    refine sc_region ?_
    refine st_v (ov_assign rfl) rfl ?_
    refine st_nil ?_
    refine pn_then ?_
    refine sc_ret ?_
    refine pr_then ?_
    refine pr_one rfl rfl ?_
    exact ⟨gnil, rfl, hp.made_nil _ _⟩
  ·
    refine sc_skip ?_
    refine pn_then ?_
    refine sc_seq ?_
    refine sc_region ?_
    refine st_v (ov_move rfl) rfl ?_
    refine st_v (ov_len rfl Try.underlying26 rfl) rfl ?_
    refine st_make1 9 (l := 0) (c := a.length) hp rfl rfl rfl Try.underlying26 in5 ⟨rfl, rfl, by omega, by omega, by omega⟩ rfl (fun b9 w hp => ?_)
    refine st_v (ov_assign rfl) rfl ?_
    refine st_nil ?_
    refine pn_then ?_
    refine sc_seq ?_
    refine sc_seq ?_
    refine sc_region ?_
    refine st_v (ov_assign rfl) rfl ?_
    refine st_nil ?_
    refine pn_then ?_
    refine sc_block ?_
    refine sc_loop2 (α := Nat) (β := Gs) 0 ⟨some b9, a.length, List.replicate a.length (B8 0)⟩ (fun i g => [(4, .int .i64 ((i : Nat) : Int)), (0, .slice ao a.length ca), (3, .slice (adr g.ob) (i) g.cap)]) (fun i g w => Hp w0 [] [(9, ⟨g.ob, (a.take i).map B8 ++ g.sp, 5⟩)] [] w ∧ ((a.take i).map B8 ++ g.sp).length = g.cap * 1 ∧ i ≤ a.length) (fun i g => a.length - i) ?_ ?_ ?_
    · exact (Sub.cons rfl (Sub.cons rfl (Sub.cons rfl (Sub.nil _))))
    · exact ⟨hp, by simp, by omega⟩
    intro i g w hw
    obtain ⟨hp, hcap, hi⟩ := hw
    refine sc_seq ?_
    refine sc_seq ?_
    refine sc_region ?_
    refine st_v (ov_move rfl) rfl ?_
    refine st_v (ov_move rfl) rfl ?_
    refine st_v (ov_len rfl Try.underlying26 rfl) rfl ?_
    refine st_v (ov_lss rfl rfl) rfl ?_
    refine st_nil ?_
    refine pn_then ?_
    refine sc_cond rfl (fun hc => ?_) (fun hc => ?_)
    ·
      have hc := of_decide_eq_true hc
      refine sc_skip ?_
      refine pn_then ?_
      refine sc_seq ?_
      refine sc_block ?_
      obtain ⟨_, _, rfl, ha⟩ := (h1.chg hp.chg).pos (by simp; omega)
      refine sc_region ?_
      refine st_v (ov_move rfl) rfl ?_
      refine st_v (ov_move rfl) rfl ?_
      refine st_v (ov_move rfl) rfl ?_
      refine st_v (ov_indexS rfl rfl Try.underlying26 sz5 (by omega)) rfl ?_
      refine st_v (ov_load1 rfl Try.underlying5 rfl (Cells.elem' ha (i) (by first | omega | (simp; omega) | (simp [*]; omega)) 0)) rfl ?_
      refine st_app1 9 21 g  hp rfl rfl rfl rfl rfl (by simp) rfl rfl Try.underlying26 in5 (by decide) rfl (by simp; omega) hcap rfl rfl (by simp [Value.oneCell']) (by omega) (fun g2 b21 w hp hcap hf9 => ?_)
      refine st_v (ov_assign rfl) rfl ?_
      refine st_nil ?_
      refine pn_block ?_
      refine pn_then ?_
      refine sc_region ?_
      refine st_v (ov_move rfl) rfl ?_
      refine st_v (ov_add_n (a := i) (b := 1) rfl rfl (by omega)) rfl ?_
      refine st_v (ov_assign rfl) rfl ?_
      refine st_nil ?_
      refine pn_round2 (i + 1) g2 ?_ ?_ ?_
      · exact (Sub.cons rfl (Sub.cons rfl (Sub.cons rfl (Sub.nil _))))
      · omega
      ·
        have e2 : (a.take (i + 1)).map B8 = (a.take i).map B8 ++ [B8 (a.getD i 0)] := by
          rw [List.take_add_one, List.map_append, List.getD, List.getElem?_eq_getElem (by omega)]; rfl
        rw [e2]
        exact ⟨hp.sub (lsub_cons rfl (lsub_nil _)), hcap, by omega⟩
    ·
      have hc := of_decide_eq_false hc
      obtain rfl : i = a.length := by omega
      rw [List.take_length] at hp hcap
      refine sc_exit ?_
      refine pe_then ?_
      refine pe_then ?_
      refine pe_hit ?_
      refine pn_then ?_
      refine sc_seq ?_
      refine sc_region ?_
      refine st_v (ov_move rfl) rfl ?_
      refine st_v (ov_assign rfl) rfl ?_
      refine st_nil ?_
      refine pn_then ?_
      refine sc_ret ?_
      refine pr_one rfl rfl ?_
      exact ⟨g, rfl, hp.made (t := 9) rfl hcap⟩

theorem copied_walk (a : List UInt8) {na : Nat} (ao : Option Addr) (ca : Nat) (w0 : World) (h1 : Rd w0 ao (a.map B8)) (ha : a.length = na) (hz : a.length ≤ 140737488351232) :
    Calls Try.prog 15 #[.slice ao na ca] w0 fun e w' => ∃ g : Gs, e = .returned (.slice (adr g.ob) na g.cap) ∧ Mk w0 w' 5 1 (a.map B8) g := by
  subst ha; exact (copied_walk0 a ao ca w0 h1 hz).mono fun e w' ⟨g, h, hm⟩ => ⟨g, h, Mk.of_made hm⟩

set_option maxRecDepth 100000 in
theorem sameb_walk (l m : List Sl) {nl nm : Nat} (ao bo : Option Addr) (ca cb : Nat) (w0 : World) (h1 : Rd w0 ao (l.map Sl.v)) (h2 : Rd w0 bo (m.map Sl.v)) (a1 : RdAll w0 l) (a2 : RdAll w0 m) (hlm : l.map Sl.bs = m.map Sl.bs) (hl : l.length = nl) (hm : m.length = nm) (hz : ∀ s ∈ l, s.bs.length ≤ 281474976710656) (hz2 : l.length ≤ 281474976710656) :
    Calls Try.prog 22 #[.slice ao nl ca, .slice bo nm cb] w0 fun e w' => e = .returned (.bool true) ∧ Chg [] w0 w' := by
  refine calls_in Try.func22 Try.ntmps22 rfl rfl ?_
  have hp := Hp.start w0
  subst hl hm
  have hll : l.length = m.length := by have := congrArg List.length hlm; simpa using this
  refine sc_seq ?_
  refine sc_region ?_
  refine st_v (ov_assign rfl) rfl ?_
  refine st_nil ?_
  refine pn_then ?_
  refine sc_seq ?_
  refine sc_seq ?_
  refine sc_region ?_
  refine st_v (ov_move rfl) rfl ?_
  refine st_v (ov_len rfl Try.underlying37 rfl) rfl ?_
  refine st_v (ov_move rfl) rfl ?_
  refine st_v (ov_len rfl Try.underlying37 rfl) rfl ?_
  refine st_v (ov_neq rfl rfl) rfl ?_
  refine st_nil ?_
  refine pn_then ?_
  refine sc_cond rfl (fun hc => ?_) (fun hc => ?_)
  · exact absurd hc (by simp; omega)
  skip
  refine sc_skip ?_
  refine pn_then ?_
  refine sc_seq ?_
  refine sc_seq ?_
  refine sc_region ?_
  refine st_v (ov_assign rfl) rfl ?_
  refine st_nil ?_
  refine pn_then ?_
  refine sc_block ?_
  refine sc_loopH1 (α := Nat) (kv := [(0, _), (1, _)]) (kl := []) (fun i kv => (5, .int .i64 ((i : Nat) : Int)) :: kv) (fun i kl => kl) (fun i => (i ≤ l.length)) (fun i => l.length - i) 0 hp (Sub.cons rfl (Sub.cons rfl (Sub.cons rfl (Sub.nil _)))) (LSub.nil _) ?_ ?_
  · exact (by first | omega | (simp; done) | (simp; omega) | (simp [*]; omega))
  intro i w hp hx
  have hi : i ≤ l.length := hx
  refine sc_seq ?_
  refine sc_seq ?_
  refine sc_region ?_
  refine st_v (ov_move rfl) rfl ?_
  refine st_v (ov_move rfl) rfl ?_
  refine st_v (ov_len rfl Try.underlying37 rfl) rfl ?_
  refine st_v (ov_lss rfl rfl) rfl ?_
  refine st_nil ?_
  refine pn_then ?_
  refine sc_cond rfl (fun hc => ?_) (fun hc => ?_)
  ·
    have hc := of_decide_eq_true hc
    refine sc_skip ?_
    refine pn_then ?_
    refine sc_seq ?_
    refine sc_block ?_
    refine sc_seq ?_
    refine sc_draws_tail 8 (by kernel_rfl) (by kernel_rfl) ?_
    replace hp := hp.drew
    simp only [List.take_succ_cons, List.take_zero, List.drop_succ_cons, List.drop_zero]
    refine ss_v (ov_move rfl) rfl ?_
    refine ss_v (ov_move rfl) rfl ?_
    obtain ⟨bb1, oo1, hadr1, hcl1⟩ := (h1.chg hp.chg).pos (by simp; omega)
    refine ss_v (ov_indexR hadr1 rfl rfl Try.underlying37 sz26 (by omega)) rfl ?_
    refine ss_v (ov_load1 rfl Try.underlying26 rfl (Cells.elem' hcl1 (i) (by first | omega | (simp; omega) | (simp [*]; omega)) (⟨none, [], 0⟩ : Sl))) rfl ?_
    refine ss_v (ov_move rfl) rfl ?_
    refine ss_v (ov_move rfl) rfl ?_
    obtain ⟨bb2, oo2, hadr2, hcl2⟩ := (h2.chg hp.chg).pos (by simp; omega)
    refine ss_v (ov_indexR hadr2 rfl rfl Try.underlying37 sz26 (by omega)) rfl ?_
    refine ss_v (ov_load1 rfl Try.underlying26 rfl (Cells.elem' hcl2 (i) (by first | omega | (simp; omega) | (simp [*]; omega)) (⟨none, [], 0⟩ : Sl))) rfl ?_
    refine ss_tail ?_
    refine st_call pl14 rfl rfl rfl (same_walk_eq (l.getD i (⟨none, [], 0⟩ : Sl)).bs _ _ _ _ _ ((a1.chg hp.chg).at (by omega) (⟨none, [], 0⟩ : Sl)) (by rw [map_getD hlm i (⟨none, [], 0⟩ : Sl)]; exact (a2.chg hp.chg).at (by omega) (⟨none, [], 0⟩ : Sl)) rfl (by rw [map_getD hlm i (⟨none, [], 0⟩ : Sl)]) (hz _ (getD_mem (by omega) _))) ?_
    rintro _ w ⟨rfl, hch⟩
    refine ⟨_, rfl, ?_⟩
    replace hp := hp.call hch
    clear hch
    refine st_v (ov_not rfl) rfl ?_
    refine st_nil ?_
    refine pn_then ?_
    refine sc_false rfl ?_
    refine sc_skip ?_
    refine pn_block ?_
    refine pn_then ?_
    refine sc_region ?_
    refine st_v (ov_move rfl) rfl ?_
    refine st_v (ov_add_n (a := i) (b := 1) rfl rfl (by omega)) rfl ?_
    refine st_v (ov_assign rfl) rfl ?_
    refine st_nil ?_
    refine pn_roundH1 (i + 1) hp (Sub.cons rfl (Sub.cons rfl (Sub.cons rfl (Sub.nil _)))) ?_ (LSub.nil _) ?_
    · omega
    exact (by first | omega | (simp; done) | (simp; omega) | (simp [*]; omega))
  ·
    have hc := of_decide_eq_false hc
    refine sc_exit ?_
    refine pe_then ?_
    refine pe_then ?_
    refine pe_hit ?_
    refine pn_then ?_
    refine sc_seq ?_
    refine sc_region ?_
    refine st_v (ov_assign rfl) rfl ?_
    refine st_nil ?_
    refine pn_then ?_
    refine sc_ret ?_
    refine pr_one rfl rfl ?_
    exact ⟨rfl, hp.chg⟩

end Go.Proofs.Ythebbenfmoknbaa
