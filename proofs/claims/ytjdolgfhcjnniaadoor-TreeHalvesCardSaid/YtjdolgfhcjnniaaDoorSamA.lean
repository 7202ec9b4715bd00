/-
  The walks of rowSame, bytesSame, twin, of the law TreeLeaves.
-/
import Derived.Test.YtjdolgfhcjnniaaDoorLeaA
namespace Go.Proofs.YtjdolgfhcjnniaaDoor
open Go Go.RowKit

set_option maxRecDepth 100000 in
theorem rowsame_walk (l : List Hs) {na nb : Nat} (ao bo : Option Addr) (ca cb : Nat) (w0 : World) (h1 : Rd w0 ao (l.flatMap hcs)) (h2 : Rd w0 bo (l.flatMap hcs)) (ha : l.length = na) (hb : l.length = nb) (hz : l.length ≤ 281474976710656) :
    Calls Tryd.prog 19 #[.slice ao na ca, .slice bo nb cb] w0 fun e w' => e = .returned (.bool true) ∧ Chg [] w0 w' := by
  refine calls_in Tryd.func19 Tryd.ntmps19 rfl rfl ?_
  have hp := Hp.start w0
  subst ha hb
  refine sc_seq ?_
  refine sc_region ?_
  refine st_v (ov_assign rfl) rfl ?_
  refine st_nil ?_
  refine pn_then ?_
  refine sc_seq ?_
  refine sc_seq ?_
  refine sc_region ?_
  refine st_v (ov_move rfl) rfl ?_
  refine st_v (ov_len rfl Tryd.underlying26 rfl) rfl ?_
  refine st_v (ov_move rfl) rfl ?_
  refine st_v (ov_len rfl Tryd.underlying26 rfl) rfl ?_
  refine st_v (v := .bool false) ((ov_neq rfl rfl).is ((by simp))) rfl ?_
  refine st_nil ?_
  refine pn_then ?_
  refine sc_false rfl ?_
  refine sc_skip ?_
  refine pn_then ?_
  refine sc_seq ?_
  refine sc_seq ?_
  refine sc_region ?_
  refine st_v (ov_assign rfl) rfl ?_
  refine st_nil ?_
  refine pn_then ?_
  refine sc_block ?_
  refine sc_loopH1 (α := Nat) (kv := [(0, _), (1, _)]) (kl := []) (fun i kv => (5, .int .i64 ((i : Nat) : Int)) :: kv) (fun i kl => kl) (fun i => (i ≤ l.length)) (fun i => l.length - i) 0 hp (Sub.cons rfl (Sub.cons rfl (Sub.cons rfl (Sub.nil _)))) (LSub.nil _) ?_ ?_
  · exact (by first | omega | (simp; done) | (simp; omega) | (simp [*]; omega))
  intro i w hp hx
  have hi : i ≤ l.length := hx
  refine sc_seq ?_
  refine sc_seq ?_
  refine sc_region ?_
  refine st_v (ov_move rfl) rfl ?_
  refine st_v (ov_move rfl) rfl ?_
  refine st_v (ov_len rfl Tryd.underlying26 rfl) rfl ?_
  refine st_v (ov_lss rfl rfl) rfl ?_
  refine st_nil ?_
  refine pn_then ?_
  refine sc_cond rfl (fun hc => ?_) (fun hc => ?_)
  ·
    have hc := of_decide_eq_true hc
    refine sc_skip ?_
    refine pn_then ?_
    refine sc_seq ?_
    refine sc_block ?_
    refine sc_seq ?_
    refine sc_draws (by kernel_rfl) (by kernel_rfl) ?_
    replace hp := hp.drew
    refine ss_v (ov_move rfl) rfl ?_
    refine ss_v (ov_move rfl) rfl ?_
    obtain ⟨bb1, oo1, hadr1, hcl1⟩ := ((h1.chg hp.chg)).pos (by rw [flat_len hcs_len]; omega)
    refine ss_v (ov_indexR hadr1 rfl rfl Tryd.underlying26 sz34 (by omega)) rfl ?_
    refine ss_v (ov_loadN rfl Tryd.underlying34 rfl (sz34.trans (by simp [hcs_len])) (hcl1.elemN hcs_len (i) ⟨by rfl, by omega⟩ hz0)) rfl ?_
    refine ss_v (ov_move rfl) rfl ?_
    refine ss_v (ov_move rfl) rfl ?_
    obtain ⟨bb2, oo2, hadr2, hcl2⟩ := ((h2.chg hp.chg)).pos (by rw [flat_len hcs_len]; omega)
    refine ss_v (ov_indexR hadr2 rfl rfl Tryd.underlying26 sz34 (by omega)) rfl ?_
    refine ss_v (ov_loadN rfl Tryd.underlying34 rfl (sz34.trans (by simp [hcs_len])) (hcl2.elemN hcs_len (i) ⟨by rfl, by omega⟩ hz0)) rfl ?_
    refine ss_v (v := .bool false) ((ov_neqA (k := .u8) (g := fun x : UInt8 => (x.toNat : Int))  inj8 Tryd.underlying34 Tryd.underlying5 sz5 gd34 rfl rfl ⟨Subtype.property (p := fun l : List UInt8 => l.length = 32) _, Subtype.property (p := fun l : List UInt8 => l.length = 32) _⟩).is ((by simp))) rfl ?_
    refine ss_end ?_
    refine pn_then ?_
    refine sc_false rfl ?_
    refine sc_skip ?_
    refine pn_block ?_
    refine pn_then ?_
    refine sc_region ?_
    refine st_v (ov_move rfl) rfl ?_
    refine st_v (ov_add_n (a := i) (b := 1) rfl rfl (by omega)) rfl ?_
    refine st_v (ov_assign rfl) rfl ?_
    refine st_nil ?_
    refine pn_roundH1 (i + 1) hp (Sub.cons rfl (Sub.cons rfl (Sub.cons rfl (Sub.nil _)))) ?_ (LSub.nil _) ?_
    · omega
    exact (by first | omega | (simp; done) | (simp; omega) | (simp [*]; omega))
  ·
    have hc := of_decide_eq_false hc
    refine sc_exit ?_
    refine pe_then ?_
    refine pe_then ?_
    refine pe_hit ?_
    refine pn_then ?_
    refine sc_seq ?_
    refine sc_region ?_
    refine st_v (ov_assign rfl) rfl ?_
    refine st_nil ?_
    refine pn_then ?_
    refine sc_ret ?_
    refine pr_one rfl rfl ?_
    exact ⟨rfl, hp.chg⟩

set_option maxRecDepth 100000 in
theorem same_walk0 (a b : List UInt8) (ao bo : Option Addr) (ca cb : Nat) (w0 : World) (h1 : Rd w0 ao (a.map B8)) (h2 : Rd w0 bo (b.map B8)) (hz : a.length ≤ 281474976710656) :
    Calls Tryd.prog 20 #[.slice ao a.length ca, .slice bo b.length cb] w0 fun e w' => e = .returned (.bool (decide (a = b))) ∧ Chg [] w0 w' := by
  refine calls_in Tryd.func20 Tryd.ntmps20 rfl rfl ?_
  have hp := Hp.start w0
  refine sc_seq ?_
  refine sc_region ?_
  refine st_v (ov_assign rfl) rfl ?_
  refine st_nil ?_
  refine pn_then ?_
  refine sc_seq ?_
  refine sc_seq ?_
  refine sc_region ?_
  refine st_v (ov_move rfl) rfl ?_
  refine st_v (ov_len rfl Tryd.underlying24 rfl) rfl ?_
  refine st_v (ov_move rfl) rfl ?_
  refine st_v (ov_len rfl Tryd.underlying24 rfl) rfl ?_
  refine st_v (ov_neq rfl rfl) rfl ?_
  refine st_nil ?_
  refine pn_then ?_
  refine sc_cond rfl (fun hc => ?_) (fun hc => ?_)
  ·
    have hc := of_decide_eq_true hc
    refine sc_seq ?_
    refine sc_region ?_
    refine st_v (ov_assign rfl) rfl ?_
    refine st_nil ?_
    refine pn_then ?_
    refine sc_ret ?_
    refine pr_then ?_
    refine pr_one rfl rfl ?_
    exact ⟨by rw [decide_eq_false (fun e => by subst e; omega)], hp.chg⟩
  ·
    have hc := of_decide_eq_false hc
    refine sc_skip ?_
    refine pn_then ?_
    refine sc_seq ?_
    refine sc_seq ?_
    refine sc_region ?_
    refine st_v (ov_assign rfl) rfl ?_
    refine st_nil ?_
    refine pn_then ?_
    refine sc_block ?_
    refine sc_loop1 (α := Nat) 0 (fun i => [(5, .int .i64 ((i : Nat) : Int)), (0, .slice ao a.length ca), (1, .slice bo b.length cb)]) (fun i w => Hp w0 [] [] [] w ∧ i ≤ a.length ∧ a.take i = b.take i) (fun i => a.length - i) ?_ ?_ ?_
    · exact (Sub.cons rfl (Sub.cons rfl (Sub.cons rfl (Sub.nil _))))
    · exact ⟨hp, by omega, rfl⟩
    intro i w hw
    obtain ⟨hp, hi, ht⟩ := hw
    refine sc_seq ?_
    refine sc_seq ?_
    refine sc_region ?_
    refine st_v (ov_move rfl) rfl ?_
    refine st_v (ov_move rfl) rfl ?_
    refine st_v (ov_len rfl Tryd.underlying24 rfl) rfl ?_
    refine st_v (ov_lss rfl rfl) rfl ?_
    refine st_nil ?_
    refine pn_then ?_
    refine sc_cond rfl (fun hc => ?_) (fun hc => ?_)
    ·
      have hc := of_decide_eq_true hc
      refine sc_skip ?_
      refine pn_then ?_
      refine sc_seq ?_
      refine sc_block ?_
      refine sc_seq ?_
      refine sc_draws (by kernel_rfl) (by kernel_rfl) ?_
      replace hp := hp.drew
      obtain ⟨_, _, rfl, ha⟩ := (h1.chg hp.chg).pos (by simp; omega)
      obtain ⟨_, _, rfl, hb2⟩ := (h2.chg hp.chg).pos (by simp; omega)
      refine ss_v (ov_move rfl) rfl ?_
      refine ss_v (ov_move rfl) rfl ?_
      refine ss_v (ov_indexS rfl rfl Tryd.underlying24 sz5 (by omega)) rfl ?_
      refine ss_v (ov_load1 rfl Tryd.underlying5 rfl (Cells.elem' ha (i) (by first | omega | (simp; omega) | (simp [*]; omega)) 0)) rfl ?_
      refine ss_v (ov_move rfl) rfl ?_
      refine ss_v (ov_move rfl) rfl ?_
      refine ss_v (ov_indexS rfl rfl Tryd.underlying24 sz5 (by omega)) rfl ?_
      refine ss_v (ov_load1 rfl Tryd.underlying5 rfl (Cells.elem' hb2 (i) (by first | omega | (simp; omega) | (simp [*]; omega)) 0)) rfl ?_
      refine ss_v (ov_neq rfl rfl) rfl ?_
      refine ss_end ?_
      refine pn_then ?_
      refine sc_cond rfl (fun hc => ?_) (fun hc => ?_)
      ·
        have hc := of_decide_eq_true hc
        refine sc_seq ?_
        refine sc_region ?_
        refine st_v (ov_assign rfl) rfl ?_
        refine st_nil ?_
        refine pn_then ?_
        refine sc_ret ?_
        refine pr_block ?_
        refine pr_then ?_
        refine pr_then ?_
        refine pr_block ?_
        refine pr_then ?_
        refine pr_one rfl rfl ?_
        exact ⟨by rw [decide_eq_false (same_ne ‹_›)], hp.chg⟩
      ·
        have hc := of_decide_eq_false hc
        refine sc_skip ?_
        refine pn_block ?_
        refine pn_then ?_
        refine sc_region ?_
        refine st_v (ov_move rfl) rfl ?_
        refine st_v (ov_add_n (a := i) (b := 1) rfl rfl (by omega)) rfl ?_
        refine st_v (ov_assign rfl) rfl ?_
        refine st_nil ?_
        refine pn_round1 (i + 1) ?_ ?_ ?_
        · exact (Sub.cons rfl (Sub.cons rfl (Sub.cons rfl (Sub.nil _))))
        · omega
        ·
          exact ⟨hp, by omega, same_step ht (by omega) (by omega) (by omega)⟩
    ·
      have hc := of_decide_eq_false hc
      refine sc_exit ?_
      refine pe_then ?_
      refine pe_then ?_
      refine pe_hit ?_
      refine pn_then ?_
      refine sc_seq ?_
      refine sc_region ?_
      refine st_v (ov_assign rfl) rfl ?_
      refine st_nil ?_
      refine pn_then ?_
      refine sc_ret ?_
      refine pr_one rfl rfl ?_
      exact ⟨by rw [decide_eq_true (same_done ht (by omega) (by omega))], hp.chg⟩

theorem same_walk (a b : List UInt8) {na nb : Nat} (ao bo : Option Addr) (ca cb : Nat) (w0 : World) (h1 : Rd w0 ao (a.map B8)) (h2 : Rd w0 bo (b.map B8)) (ha : a.length = na) (hb : b.length = nb) (hz : a.length ≤ 281474976710656) :
    Calls Tryd.prog 20 #[.slice ao na ca, .slice bo nb cb] w0 fun e w' => e = .returned (.bool (decide (a = b))) ∧ Chg [] w0 w' := by
  subst ha hb; exact same_walk0 a b ao bo ca cb w0 h1 h2 hz
theorem same_walk_eq (a : List UInt8) {na nb : Nat} (ao bo : Option Addr) (ca cb : Nat) (w0 : World) (h1 : Rd w0 ao (a.map B8)) (h2 : Rd w0 bo (a.map B8)) (ha : a.length = na) (hb : a.length = nb) (hz : a.length ≤ 281474976710656) :
    Calls Tryd.prog 20 #[.slice ao na ca, .slice bo nb cb] w0 fun e w' => e = .returned (.bool true) ∧ Chg [] w0 w' :=
  (same_walk a a ao bo ca cb w0 h1 h2 ha hb hz).mono fun e w' h => ⟨by rw [h.1]; simp, h.2⟩

set_option maxRecDepth 100000 in
theorem twin_walk (a : List UInt8) {na : Nat} (ao : Option Addr) (ca : Nat) (w0 : World) (h1 : Rd w0 ao (a.map B8)) (ha : a.length = na) (hz : a.length ≤ 140737488351232) :
    Calls Tryd.prog 16 #[.slice ao na ca] w0 fun e w' => ∃ g : Gs, e = .returned (.slice (adr g.ob) na g.cap) ∧ Mk w0 w' 5 1 (a.map B8) g := by
  refine calls_in Tryd.func16 Tryd.ntmps16 rfl rfl ?_
  have hp := Hp.start w0
  subst ha
  refine sc_seq ?_
  refine sc_region ?_
  refine st_v (ov_assign rfl) rfl ?_
  refine st_nil ?_
  refine pn_then ?_
  refine sc_seq ?_
  refine sc_region ?_
  refine st_v (ov_assign rfl) rfl ?_
  replace hp := hp.nil 3 5
  refine st_nil ?_
  refine pn_then ?_
  refine sc_seq ?_
  refine sc_region ?_
  refine st_v (ov_move rfl) rfl ?_
  refine st_v (ov_move rfl) rfl ?_
  refine st_append 3 gnil (xs := []) hp rfl rfl rfl rfl rfl Tryd.underlying24 in5 (by decide) rfl rfl (by simp) ((h1.chg hp.chg)) (by simp) (one_all _) (by omega) (fun g2 w hp hc2 hf3 => ?_)
  simp only [List.nil_append] at hp hc2
  rw [Nat.zero_add]
  refine st_v (ov_assign rfl) rfl ?_
  refine st_nil ?_
  refine pn_then ?_
  refine sc_seq ?_
  refine sc_region ?_
  refine st_v (ov_move rfl) rfl ?_
  refine st_v (ov_assign rfl) rfl ?_
  refine st_nil ?_
  refine pn_then ?_
  refine sc_ret ?_
  refine pr_one rfl rfl ?_
  exact ⟨g2, rfl, hp.gives 3 rfl hc2⟩

set_option maxRecDepth 100000 in
theorem twinrow_walk (l : List Hs) {na : Nat} (ao : Option Addr) (ca : Nat) (w0 : World) (h1 : Rd w0 ao (l.flatMap hcs)) (ha : l.length = na) (hz : l.length ≤ 4398046511104) :
    Calls Tryd.prog 25 #[.slice ao na ca] w0 fun e w' => ∃ g : Gs, e = .returned (.slice (adr g.ob) na g.cap) ∧ Mk w0 w' 34 32 (l.flatMap hcs) g := by
  refine calls_in Tryd.func25 Tryd.ntmps25 rfl rfl ?_
  have hp := Hp.start w0
  subst ha
  refine sc_seq ?_
  refine sc_region ?_
  refine st_v (ov_assign rfl) rfl ?_
  refine st_nil ?_
  refine pn_then ?_
  refine sc_seq ?_
  refine sc_region ?_
  refine st_v (ov_assign rfl) rfl ?_
  replace hp := hp.nil 3 34
  refine st_nil ?_
  refine pn_then ?_
  refine sc_seq ?_
  refine sc_region ?_
  refine st_v (ov_move rfl) rfl ?_
  refine st_v (ov_move rfl) rfl ?_
  refine st_appendQ 3 gnil (xs := []) hp rfl rfl rfl rfl rfl Tryd.underlying26 in34 (by decide) rfl rfl (by simp) ((h1.chg hp.chg)) (flat_len hcs_len _) (many_one _) (nil_bd (by omega) (by omega)) (fun g2 w hp hc2 hf3 => ?_)
  simp only [List.nil_append] at hp hc2
  rw [Nat.zero_add]
  refine st_v (ov_assign rfl) rfl ?_
  refine st_nil ?_
  refine pn_then ?_
  refine sc_seq ?_
  refine sc_region ?_
  refine st_v (ov_move rfl) rfl ?_
  refine st_v (ov_assign rfl) rfl ?_
  refine st_nil ?_
  refine pn_then ?_
  refine sc_ret ?_
  refine pr_one rfl rfl ?_
  exact ⟨g2, rfl, hp.gives 3 rfl hc2⟩

set_option maxRecDepth 100000 in
theorem law_leaves (B W : Int) (b : List UInt8) (ao : Option Addr) (ca : Nat) (w0 : World) (h1 : Rd w0 ao (b.map B8)) (hca : b.length ≤ ca) (hz : b.length ≤ 140737488351232) (hk : Cells w0 1 0 (kL.map B32)) (hf : Cells w0 0 0 (fL.map B32)) :
    Calls Tryd.prog 3 #[sca B W, .slice ao b.length ca] w0 fun e w' => e = .returned (.bool true) ∧ Chg [] w0 w' := by
  refine calls_in Tryd.func3 Tryd.ntmps3 rfl rfl ?_
  have hp := Hp.start w0
  refine sc_seq ?_
  refine sc_region ?_
  refine st_box 2 hp rfl rfl rfl (fun b2 w hp => ?_)
  refine st_v (ov_assign rfl) rfl ?_
  refine st_nil ?_
  refine pn_then ?_
  refine sc_seq ?_
  refine sc_region ?_
  refine st_v (ov_move rfl) rfl ?_
  refine st_call pl16 rfl rfl rfl (twin_walk b _ _ _ (h1.chg hp.chg) rfl hz) ?_
  rintro _ w ⟨g11, rfl, hm11⟩
  refine ⟨_, rfl, ?_⟩
  replace hp := hp.got 11 hm11
  have hc11 := hm11.2
  clear hm11
  refine st_v (ov_assign rfl) rfl ?_
  refine st_nil ?_
  refine pn_then ?_
  refine sc_seq ?_
  refine sc_region ?_
  refine st_v (ov_loadN rfl Tryd.underlying23 rfl (sz23.trans rfl) (hp.cells' (t := 2) rfl)) rfl ?_
  refine st_v (ov_move rfl) rfl ?_
  refine st_call pl17 rfl rfl rfl (Leavesr_walk B W b _ _ _ (Rd.own (hp.own 11 _ rfl)) rfl (gcap1 hc11) hz) ?_
  rintro _ w ⟨g15, rfl, hm15⟩
  refine ⟨_, rfl, ?_⟩
  replace hp := hp.got 15 hm15
  have hc15 := hm15.2
  clear hm15
  refine st_v (ov_move rfl) rfl ?_
  refine st_v (ov_extract rfl rfl) rfl ?_
  refine st_v (ov_extract rfl rfl) rfl ?_
  refine st_v (ov_assign rfl) rfl ?_
  refine st_v (ov_assign rfl) rfl ?_
  refine st_nil ?_
  refine pn_then ?_
  refine sc_seq ?_
  refine sc_region ?_
  refine st_v (ov_loadN rfl Tryd.underlying23 rfl (sz23.trans rfl) (hp.cells' (t := 2) rfl)) rfl ?_
  refine st_v (ov_move rfl) rfl ?_
  refine st_call pl18 rfl rfl rfl (Leaves_walk B W b _ _ _ (h1.chg hp.chg) rfl hca hz (hp.old hk (by simp)) (hp.old hf (by simp))) ?_
  rintro _ w ⟨g21, rfl, hm21⟩
  refine ⟨_, rfl, ?_⟩
  replace hp := hp.got 21 hm21
  have hc21 := hm21.2
  clear hm21
  refine st_v (ov_move rfl) rfl ?_
  refine st_v (ov_extract rfl rfl) rfl ?_
  refine st_v (ov_extract rfl rfl) rfl ?_
  refine st_v (ov_assign rfl) rfl ?_
  refine st_v (ov_assign rfl) rfl ?_
  refine st_nil ?_
  refine pn_then ?_
  refine sc_seq ?_
  refine sc_region ?_
  refine st_v (ov_move rfl) rfl ?_
  refine st_v (ov_move rfl) rfl ?_
  refine st_v (v := .bool true) ((ov_eql rfl rfl).is ((by simp))) rfl ?_
  refine st_v (ov_move rfl) rfl ?_
  refine st_on (j := 3) rfl rfl ?_
  refine st_v (ov_move rfl) rfl ?_
  refine st_on (j := 3) rfl rfl ?_
  refine st_v (ov_move rfl) rfl ?_
  refine st_on (j := 3) rfl rfl ?_
  refine st_call pl19 rfl rfl rfl (rowsame_walk (leavesV B W b) _ _ _ _ _ (Rd.own (hp.own 21 _ rfl)) (Rd.own (hp.own 15 _ rfl)) rfl rfl (by have := leavesV_len B W b; omega)) ?_
  rintro _ w ⟨rfl, hch⟩
  refine ⟨_, rfl, ?_⟩
  replace hp := hp.call hch
  clear hch
  refine st_v (ov_pick_t rfl rfl) rfl ?_
  refine st_v (ov_move rfl) rfl ?_
  refine st_on (j := 8) rfl rfl ?_
  refine st_v (ov_move rfl) rfl ?_
  refine st_on (j := 8) rfl rfl ?_
  refine st_v (ov_move rfl) rfl ?_
  refine st_on (j := 8) rfl rfl ?_
  refine st_call pl20 rfl rfl rfl (same_walk_eq b _ _ _ _ _ (h1.chg hp.chg) (Rd.own (hp.own 11 _ rfl)) rfl rfl (by omega)) ?_
  rintro _ w ⟨rfl, hch⟩
  refine ⟨_, rfl, ?_⟩
  replace hp := hp.call hch
  clear hch
  refine st_v (ov_pick_t rfl rfl) rfl ?_
  refine st_v (ov_assign rfl) rfl ?_
  refine st_nil ?_
  refine pn_then ?_
  refine sc_ret ?_
  refine pr_one rfl rfl ?_
  exact ⟨rfl, hp.chg⟩

end Go.Proofs.YtjdolgfhcjnniaaDoor
