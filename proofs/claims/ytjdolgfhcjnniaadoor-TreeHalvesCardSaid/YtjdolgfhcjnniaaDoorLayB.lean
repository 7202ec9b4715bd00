/-
  The walks of Layer, Root, of the law TreeLayers.
-/
import Derived.Test.YtjdolgfhcjnniaaDoorCliA
import Derived.Test.YtjdolgfhcjnniaaDoorSamA
namespace Go.Proofs.YtjdolgfhcjnniaaDoor
open Go Go.RowKit

set_option maxRecDepth 100000 in
theorem fits_walk (B W : Int) (n : Nat) (from_ : Int) (hn : n ≤ 9223372036854775807) (hfr : -9223372036854775808 ≤ from_ ∧ from_ ≤ 9223372036854775807) (w0 : World) :
    Calls Tryd.prog 69 #[sca B W, .int .i64 (n : Int), .int .i64 from_] w0 fun e w' => e = .returned (.int .i64 (rowE B W n from_)) ∧ Chg [] w0 w' := by
  refine calls_in Tryd.func69 Tryd.ntmps69 rfl rfl ?_
  have hp := Hp.start w0
  refine sc_seq ?_
  refine sc_region ?_
  refine st_box 3 hp rfl rfl rfl (fun b3 w hp => ?_)
  refine st_v (ov_assign rfl) rfl ?_
  refine st_nil ?_
  refine pn_then ?_
  refine sc_seq ?_
  refine sc_seq ?_
  refine sc_region ?_
  refine st_v (ov_loadN rfl Tryd.underlying23 rfl (sz23.trans rfl) (hp.cells' (t := 3) rfl)) rfl ?_
  refine st_call pl39 rfl rfl rfl (good_walk B W _) ?_
  rintro _ w ⟨rfl, hch⟩
  refine ⟨_, rfl, ?_⟩
  replace hp := hp.call hch
  clear hch
  refine st_v (ov_assign rfl) rfl ?_
  refine st_nil ?_
  refine pn_then ?_
  refine sc_seq ?_
  refine sc_region ?_
  refine st_v (ov_move rfl) rfl ?_
  refine st_v (ov_neq rfl rfl) rfl ?_
  refine st_nil ?_
  refine pn_then ?_
  refine sc_cond rfl (fun hc => ?_) (fun hc => ?_)
  ·
    have hc := of_decide_eq_true hc
    refine sc_seq ?_
    refine sc_region ?_
    refine st_v (ov_move rfl) rfl ?_
    refine st_v (ov_assign rfl) rfl ?_
    refine st_nil ?_
    refine pn_then ?_
    refine sc_ret ?_
    refine pr_then ?_
    refine pr_one rfl rfl ?_
    exact ⟨by unfold rowE; rw [if_pos (by assumption)], hp.chg⟩
  ·
    have hc := of_decide_eq_false hc
    refine sc_skip ?_
    refine pn_then ?_
    refine sc_seq ?_
    refine sc_block ?_
    refine sc_seq ?_
    refine sc_region ?_
    refine st_v (ov_move rfl) rfl ?_
    refine st_v (ov_eql rfl rfl) rfl ?_
    refine st_v (ov_assign rfl) rfl ?_
    refine st_nil ?_
    refine pn_then ?_
    refine sc_cond rfl (fun hc => ?_) (fun hc => ?_)
    ·
      have hc := of_decide_eq_true hc
      refine sc_seq ?_
      refine sc_region ?_
      refine st_v (ov_assign rfl) rfl ?_
      refine st_nil ?_
      refine pn_then ?_
      refine sc_ret ?_
      refine pr_block ?_
      refine pr_then ?_
      refine pr_one rfl rfl ?_
      exact ⟨by unfold rowE; rw [if_neg (by assumption), if_pos (by omega)], hp.chg⟩
    ·
      have hc := of_decide_eq_false hc
      refine sc_seq ?_
      refine sc_region ?_
      refine st_v (ov_move rfl) rfl ?_
      refine st_v (ov_gtr rfl rfl) rfl ?_
      refine st_v (ov_assign rfl) rfl ?_
      refine st_nil ?_
      refine pn_then ?_
      refine sc_cond rfl (fun hc => ?_) (fun hc => ?_)
      ·
        have hc := of_decide_eq_true hc
        refine sc_seq ?_
        refine sc_region ?_
        refine st_v (ov_assign rfl) rfl ?_
        refine st_nil ?_
        refine pn_then ?_
        refine sc_ret ?_
        refine pr_block ?_
        refine pr_then ?_
        refine pr_one rfl rfl ?_
        exact ⟨by unfold rowE; rw [if_neg (by assumption), if_neg (by omega), if_pos (by omega)], hp.chg⟩
      ·
        have hc := of_decide_eq_false hc
        have hbl := bit_le20 (n := n) (by omega)
        refine sc_seq ?_
        refine sc_region ?_
        refine st_v (ov_move rfl) rfl ?_
        refine st_v (ov_lss rfl rfl) rfl ?_
        refine st_v (ov_move rfl) rfl ?_
        refine st_split (j := 22) rfl (fun hb => ?_) (fun hb => ?_)
        ·
          have hb := of_decide_eq_true hb
          refine st_off (j := 2) rfl rfl rfl rfl ?_
          refine st_off (j := 2) rfl rfl rfl rfl ?_
          refine st_off (j := 2) rfl rfl rfl rfl ?_
          refine st_off (j := 2) rfl rfl rfl rfl ?_
          refine st_off (j := 2) rfl rfl rfl rfl ?_
          refine st_v (ov_pick_t rfl rfl) rfl ?_
          refine st_v (ov_assign rfl) rfl ?_
          refine st_nil ?_
          refine pn_then ?_
          refine sc_true rfl ?_
          refine sc_seq ?_
          refine sc_region ?_
          refine st_v (ov_assign rfl) rfl ?_
          refine st_nil ?_
          refine pn_then ?_
          refine sc_ret ?_
          refine pr_block ?_
          refine pr_then ?_
          refine pr_one rfl rfl ?_
          exact ⟨by unfold rowE; rw [if_neg (by assumption), if_neg (by omega), if_neg (by omega), if_pos (by omega)], hp.chg⟩
        ·
          have hb := of_decide_eq_false hb
          refine st_on (j := 2) rfl rfl ?_
          refine st_v (ov_move rfl) rfl ?_
          refine st_on (j := 2) rfl rfl ?_
          refine st_v (ov_move rfl) rfl ?_
          refine st_on (j := 2) rfl rfl ?_
          refine st_call pl70 rfl rfl rfl (rise_walk n (by omega) _) ?_
          rintro _ w ⟨rfl, hch⟩
          refine ⟨_, rfl, ?_⟩
          replace hp := hp.call hch
          clear hch
          refine st_on (j := 2) rfl rfl ?_
          refine st_v (ov_sub_i64 rfl rfl (by omega)) rfl ?_
          refine st_on (j := 2) rfl rfl ?_
          refine st_v (ov_gtr rfl rfl) rfl ?_
          refine st_v (ov_pick_f rfl rfl) rfl ?_
          refine st_v (ov_assign rfl) rfl ?_
          refine st_nil ?_
          refine pn_then ?_
          refine sc_cond rfl (fun hc => ?_) (fun hc => ?_)
          ·
            have hc := of_decide_eq_true hc
            refine sc_seq ?_
            refine sc_region ?_
            refine st_v (ov_assign rfl) rfl ?_
            refine st_nil ?_
            refine pn_then ?_
            refine sc_ret ?_
            refine pr_block ?_
            refine pr_then ?_
            refine pr_one rfl rfl ?_
            exact ⟨by unfold rowE; rw [if_neg (by assumption), if_neg (by omega), if_neg (by omega), if_pos (by omega)], hp.chg⟩
          ·
            have hc := of_decide_eq_false hc
            refine sc_skip ?_
            refine pn_block ?_
            refine pn_then ?_
            refine sc_seq ?_
            refine sc_region ?_
            refine st_v (ov_assign rfl) rfl ?_
            refine st_nil ?_
            refine pn_then ?_
            refine sc_ret ?_
            refine pr_one rfl rfl ?_
            have hg0 : goodNo B W = 0 := Classical.byContradiction (by assumption)
            exact ⟨by unfold rowE; rw [if_neg (by assumption), if_neg (by omega), if_neg (by omega), if_neg (by omega)], hp.chg⟩

set_option maxRecDepth 100000 in
theorem rowq_walk (B W : Int) (row : List Hs) {n : Nat} (ao : Option Addr) (ca : Nat) (from_ : Int) (hn : n ≤ 9223372036854775807) (hfr : -9223372036854775808 ≤ from_ ∧ from_ ≤ 9223372036854775807) (w0 : World) :
    Calls Tryd.prog 66 #[sca B W, .slice ao n ca, .int .i64 from_] w0 fun e w' => e = .returned (.int .i64 (rowE B W n from_)) ∧ Chg [] w0 w' := by
  refine calls_in Tryd.func66 Tryd.ntmps66 rfl rfl ?_
  have hp := Hp.start w0
  refine sc_seq ?_
  refine sc_region ?_
  refine st_box 3 hp rfl rfl rfl (fun b3 w hp => ?_)
  refine st_v (ov_assign rfl) rfl ?_
  refine st_nil ?_
  refine pn_then ?_
  refine sc_seq ?_
  refine sc_region ?_
  refine st_v (ov_loadN rfl Tryd.underlying23 rfl (sz23.trans rfl) (hp.cells' (t := 3) rfl)) rfl ?_
  refine st_call pl56 rfl rfl rfl (goodr_walk B W _) ?_
  rintro _ w ⟨rfl, hch⟩
  refine ⟨_, rfl, ?_⟩
  replace hp := hp.call hch
  clear hch
  refine st_v (ov_assign rfl) rfl ?_
  refine st_nil ?_
  refine pn_then ?_
  refine sc_seq ?_
  refine sc_block ?_
  refine sc_seq ?_
  refine sc_region ?_
  refine st_v (ov_move rfl) rfl ?_
  refine st_v (ov_neq rfl rfl) rfl ?_
  refine st_v (ov_assign rfl) rfl ?_
  refine st_nil ?_
  refine pn_then ?_
  refine sc_cond rfl (fun hc => ?_) (fun hc => ?_)
  ·
    have hc := of_decide_eq_true hc
    refine sc_seq ?_
    refine sc_region ?_
    refine st_v (ov_move rfl) rfl ?_
    refine st_v (ov_assign rfl) rfl ?_
    refine st_nil ?_
    refine pn_then ?_
    refine sc_ret ?_
    refine pr_block ?_
    refine pr_then ?_
    refine pr_one rfl rfl ?_
    exact ⟨by unfold rowE; rw [if_pos (by assumption)], hp.chg⟩
  ·
    have hc := of_decide_eq_false hc
    refine sc_seq ?_
    refine sc_region ?_
    refine st_v (ov_move rfl) rfl ?_
    refine st_v (ov_len rfl Tryd.underlying26 rfl) rfl ?_
    refine st_v (ov_eql rfl rfl) rfl ?_
    refine st_v (ov_assign rfl) rfl ?_
    refine st_nil ?_
    refine pn_then ?_
    refine sc_cond rfl (fun hc => ?_) (fun hc => ?_)
    ·
      have hc := of_decide_eq_true hc
      refine sc_seq ?_
      refine sc_region ?_
      refine st_v (ov_assign rfl) rfl ?_
      refine st_nil ?_
      refine pn_then ?_
      refine sc_ret ?_
      refine pr_block ?_
      refine pr_then ?_
      refine pr_one rfl rfl ?_
      exact ⟨by unfold rowE; rw [if_neg (by assumption), if_pos (by omega)], hp.chg⟩
    ·
      have hc := of_decide_eq_false hc
      refine sc_seq ?_
      refine sc_region ?_
      refine st_v (ov_move rfl) rfl ?_
      refine st_v (ov_len rfl Tryd.underlying26 rfl) rfl ?_
      refine st_v (ov_gtr rfl rfl) rfl ?_
      refine st_v (ov_assign rfl) rfl ?_
      refine st_nil ?_
      refine pn_then ?_
      refine sc_cond rfl (fun hc => ?_) (fun hc => ?_)
      ·
        have hc := of_decide_eq_true hc
        refine sc_seq ?_
        refine sc_region ?_
        refine st_v (ov_assign rfl) rfl ?_
        refine st_nil ?_
        refine pn_then ?_
        refine sc_ret ?_
        refine pr_block ?_
        refine pr_then ?_
        refine pr_one rfl rfl ?_
        exact ⟨by unfold rowE; rw [if_neg (by assumption), if_neg (by omega), if_pos (by omega)], hp.chg⟩
      ·
        have hc := of_decide_eq_false hc
        have hbl := bit_le20 (n := n) (by omega)
        refine sc_seq ?_
        refine sc_region ?_
        refine st_v (ov_move rfl) rfl ?_
        refine st_v (ov_lss rfl rfl) rfl ?_
        refine st_v (ov_move rfl) rfl ?_
        refine st_split (j := 25) rfl (fun hb => ?_) (fun hb => ?_)
        ·
          have hb := of_decide_eq_true hb
          refine st_off (j := 2) rfl rfl rfl rfl ?_
          refine st_off (j := 2) rfl rfl rfl rfl ?_
          refine st_off (j := 2) rfl rfl rfl rfl ?_
          refine st_off (j := 2) rfl rfl rfl rfl ?_
          refine st_off (j := 2) rfl rfl rfl rfl ?_
          refine st_off (j := 2) rfl rfl rfl rfl ?_
          refine st_v (ov_pick_t rfl rfl) rfl ?_
          refine st_v (ov_assign rfl) rfl ?_
          refine st_nil ?_
          refine pn_then ?_
          refine sc_true rfl ?_
          refine sc_seq ?_
          refine sc_region ?_
          refine st_v (ov_assign rfl) rfl ?_
          refine st_nil ?_
          refine pn_then ?_
          refine sc_ret ?_
          refine pr_block ?_
          refine pr_then ?_
          refine pr_one rfl rfl ?_
          exact ⟨by unfold rowE; rw [if_neg (by assumption), if_neg (by omega), if_neg (by omega), if_pos (by omega)], hp.chg⟩
        ·
          have hb := of_decide_eq_false hb
          refine st_on (j := 2) rfl rfl ?_
          refine st_v (ov_move rfl) rfl ?_
          refine st_on (j := 2) rfl rfl ?_
          refine st_v (ov_move rfl) rfl ?_
          refine st_on (j := 2) rfl rfl ?_
          refine st_v (ov_len rfl Tryd.underlying26 rfl) rfl ?_
          refine st_on (j := 2) rfl rfl ?_
          refine st_call pl67 rfl rfl rfl (riser_walk n (by omega) _) ?_
          rintro _ w ⟨rfl, hch⟩
          refine ⟨_, rfl, ?_⟩
          replace hp := hp.call hch
          clear hch
          refine st_on (j := 2) rfl rfl ?_
          refine st_v (ov_sub_i64 rfl rfl (by omega)) rfl ?_
          refine st_on (j := 2) rfl rfl ?_
          refine st_v (ov_gtr rfl rfl) rfl ?_
          refine st_v (ov_pick_f rfl rfl) rfl ?_
          refine st_v (ov_assign rfl) rfl ?_
          refine st_nil ?_
          refine pn_then ?_
          refine sc_cond rfl (fun hc => ?_) (fun hc => ?_)
          ·
            have hc := of_decide_eq_true hc
            refine sc_seq ?_
            refine sc_region ?_
            refine st_v (ov_assign rfl) rfl ?_
            refine st_nil ?_
            refine pn_then ?_
            refine sc_ret ?_
            refine pr_block ?_
            refine pr_then ?_
            refine pr_one rfl rfl ?_
            exact ⟨by unfold rowE; rw [if_neg (by assumption), if_neg (by omega), if_neg (by omega), if_pos (by omega)], hp.chg⟩
          ·
            have hc := of_decide_eq_false hc
            refine sc_skip ?_
            refine pn_block ?_
            refine pn_then ?_
            refine sc_seq ?_
            refine sc_region ?_
            refine st_v (ov_assign rfl) rfl ?_
            refine st_nil ?_
            refine pn_then ?_
            refine sc_ret ?_
            refine pr_one rfl rfl ?_
            have hg0 : goodNo B W = 0 := Classical.byContradiction (by assumption)
            exact ⟨by unfold rowE; rw [if_neg (by assumption), if_neg (by omega), if_neg (by omega), if_neg (by omega)], hp.chg⟩

set_option maxRecDepth 100000 in
theorem Layer_walk (B W : Int) (row : List Hs) {nr : Nat} (ao : Option Addr) (ca : Nat) (from_ to_ : Int) (w0 : World) (h1 : Rd w0 ao (row.flatMap hcs)) (hr : row.length = nr) (hz : row.length ≤ 281474976710656) (hfr : -9223372036854775808 ≤ from_ ∧ from_ ≤ 9223372036854775807) (hto : -9223372036854775808 ≤ to_ ∧ to_ ≤ 9223372036854775807) (hk : Cells w0 1 0 (kL.map B32)) (hf : Cells w0 0 0 (fL.map B32)) :
    Calls Tryd.prog 27 #[sca B W, .slice ao nr ca, .int .i64 from_, .int .i64 to_] w0 fun e w' => ∃ g : Gs, e = .returned (.tuple #[.slice (adr g.ob) (layV B W row from_ to_).length g.cap, .int .i64 (layE B W row.length from_ to_)]) ∧ Mk w0 w' 34 32 ((layV B W row from_ to_).flatMap hcs) g := by
  refine calls_in Tryd.func27 Tryd.ntmps27 rfl rfl ?_
  have hp := Hp.start w0
  subst hr
  refine sc_seq ?_
  refine sc_region ?_
  refine st_box 4 hp rfl rfl rfl (fun b4 w hp => ?_)
  refine st_v (ov_assign rfl) rfl ?_
  refine st_v (ov_assign rfl) rfl ?_
  refine st_nil ?_
  refine pn_then ?_
  refine sc_seq ?_
  refine sc_seq ?_
  refine sc_region ?_
  refine st_v (ov_loadN rfl Tryd.underlying23 rfl (sz23.trans rfl) (hp.cells' (t := 4) rfl)) rfl ?_
  refine st_v (ov_move rfl) rfl ?_
  refine st_v (ov_len rfl Tryd.underlying26 rfl) rfl ?_
  refine st_v (ov_move rfl) rfl ?_
  refine st_call pl69 rfl rfl rfl (fits_walk B W row.length from_ (by omega) hfr _) ?_
  rintro _ w ⟨rfl, hch⟩
  refine ⟨_, rfl, ?_⟩
  replace hp := hp.call hch
  clear hch
  refine st_v (ov_assign rfl) rfl ?_
  refine st_nil ?_
  refine pn_then ?_
  refine sc_seq ?_
  refine sc_region ?_
  refine st_v (ov_move rfl) rfl ?_
  refine st_v (ov_neq rfl rfl) rfl ?_
  refine st_nil ?_
  refine pn_then ?_
  refine sc_cond rfl (fun hc => ?_) (fun hc => ?_)
  ·
    have hc := of_decide_eq_true hc
    refine sc_seq ?_
    refine sc_region ?_
    refine st_v (ov_move rfl) rfl ?_
    refine st_v (ov_assign rfl) rfl ?_
    refine st_v (ov_assign rfl) rfl ?_
    refine st_nil ?_
    refine pn_then ?_
    refine sc_ret ?_
    refine pr_then ?_
    refine pr_two rfl rfl rfl ?_
    have hE : layE B W row.length from_ to_ = rowE B W row.length from_ := by unfold layE; rw [if_pos (by assumption)]
    have hV := layV_bad (row := row) (from_ := from_) (to_ := to_) (B := B) (W := W) (by rw [hE]; first | assumption | decide)
    exact ⟨gnil, by rw [hE, hV]; rfl, by rw [hV]; exact hp.gives0 _ _⟩
  ·
    have hc := of_decide_eq_false hc
    have hr0 : rowE B W row.length from_ = 0 := Classical.byContradiction (by assumption)
    obtain ⟨hg0, hn1, hn2, f, rfl, hfb⟩ := rowE_ok hr0
    have hbl := bit_le20 (n := row.length) hn2
    refine sc_skip ?_
    refine pn_then ?_
    refine sc_seq ?_
    refine sc_seq ?_
    refine sc_region ?_
    refine st_v (ov_move rfl) rfl ?_
    refine st_v (ov_move rfl) rfl ?_
    refine st_v (ov_lss rfl rfl) rfl ?_
    refine st_v (ov_move rfl) rfl ?_
    refine st_split (j := 22) rfl (fun hb => ?_) (fun hb => ?_)
    ·
      have hb := of_decide_eq_true hb
      refine st_off (j := 3) rfl rfl rfl rfl ?_
      refine st_off (j := 3) rfl rfl rfl rfl ?_
      refine st_off (j := 3) rfl rfl rfl rfl ?_
      refine st_off (j := 3) rfl rfl rfl rfl ?_
      refine st_off (j := 3) rfl rfl rfl rfl ?_
      refine st_off (j := 3) rfl rfl rfl rfl ?_
      refine st_off (j := 3) rfl rfl rfl rfl ?_
      refine st_v (ov_pick_t rfl rfl) rfl ?_
      refine st_nil ?_
      refine pn_then ?_
      refine sc_true rfl ?_
      refine sc_seq ?_
      refine sc_region ?_
      refine st_v (ov_assign rfl) rfl ?_
      refine st_v (ov_assign rfl) rfl ?_
      refine st_nil ?_
      refine pn_then ?_
      refine sc_ret ?_
      refine pr_then ?_
      refine pr_two rfl rfl rfl ?_
      have hE : layE B W row.length (f : Int) to_ = 60 := by unfold layE; rw [if_neg (by assumption), if_pos (by omega)]
      have hV := layV_bad (row := row) (from_ := (f : Int)) (to_ := to_) (B := B) (W := W) (by rw [hE]; first | assumption | decide)
      exact ⟨gnil, by rw [hE, hV]; rfl, by rw [hV]; exact hp.gives0 _ _⟩
    ·
      have hb := of_decide_eq_false hb
      refine st_on (j := 3) rfl rfl ?_
      refine st_v (ov_move rfl) rfl ?_
      refine st_on (j := 3) rfl rfl ?_
      refine st_v (ov_move rfl) rfl ?_
      refine st_on (j := 3) rfl rfl ?_
      refine st_v (ov_move rfl) rfl ?_
      refine st_on (j := 3) rfl rfl ?_
      refine st_v (ov_len rfl Tryd.underlying26 rfl) rfl ?_
      refine st_on (j := 3) rfl rfl ?_
      refine st_call pl70 rfl rfl rfl (rise_walk row.length (by omega) _) ?_
      rintro _ w ⟨rfl, hch⟩
      refine ⟨_, rfl, ?_⟩
      replace hp := hp.call hch
      clear hch
      refine st_on (j := 3) rfl rfl ?_
      refine st_v (ov_add_i64 rfl rfl (by omega)) rfl ?_
      refine st_on (j := 3) rfl rfl ?_
      refine st_v (ov_gtr rfl rfl) rfl ?_
      refine st_v (ov_pick_f rfl rfl) rfl ?_
      refine st_nil ?_
      refine pn_then ?_
      refine sc_cond rfl (fun hc => ?_) (fun hc => ?_)
      ·
        have hc := of_decide_eq_true hc
        refine sc_seq ?_
        refine sc_region ?_
        refine st_v (ov_assign rfl) rfl ?_
        refine st_v (ov_assign rfl) rfl ?_
        refine st_nil ?_
        refine pn_then ?_
        refine sc_ret ?_
        refine pr_then ?_
        refine pr_two rfl rfl rfl ?_
        have hE : layE B W row.length (f : Int) to_ = 60 := by unfold layE; rw [if_neg (by assumption), if_pos (by omega)]
        have hV := layV_bad (row := row) (from_ := (f : Int)) (to_ := to_) (B := B) (W := W) (by rw [hE]; first | assumption | decide)
        exact ⟨gnil, by rw [hE, hV]; rfl, by rw [hV]; exact hp.gives0 _ _⟩
      ·
        have hc := of_decide_eq_false hc
        refine sc_skip ?_
        refine pn_then ?_
        refine sc_seq ?_
        have hE : layE B W row.length (f : Int) to_ = 0 := by unfold layE; rw [if_neg (by assumption), if_neg (by omega)]
        obtain ⟨k, rfl⟩ : ∃ k : Nat, to_ = ((f + k : Nat) : Int) := ⟨(to_ - f).toNat, by omega⟩
        have hV := layV_ok hE
        refine sc_region ?_
        refine st_v (ov_loadN rfl Tryd.underlying23 rfl (sz23.trans rfl) (hp.cells' (t := 4) rfl)) rfl ?_
        refine st_v (ov_move rfl) rfl ?_
        refine st_v (ov_move rfl) rfl ?_
        refine st_v (ov_move rfl) rfl ?_
        refine st_v (ov_move rfl) rfl ?_
        refine st_v (v := .int .i64 ((k : Nat) : Int)) ((ov_sub_i64 rfl rfl (by omega)).is (congrArg (Value.int .i64) (by omega))) rfl ?_
        refine st_call pl71 rfl rfl rfl (climb_walk B W row _ _ f k _ (h1.chg hp.chg) rfl hn2 (by omega) (by omega) (hp.old hk (by simp)) (hp.old hf (by simp))) ?_
        rintro _ w ⟨g37, rfl, hm37⟩
        refine ⟨_, rfl, ?_⟩
        replace hp := hp.got 37 hm37
        have hc37 := hm37.2
        clear hm37
        refine st_v (ov_assign rfl) rfl ?_
        refine st_v (ov_assign rfl) rfl ?_
        refine st_nil ?_
        refine pn_then ?_
        refine sc_ret ?_
        refine pr_two rfl rfl rfl ?_
        exact ⟨g37, by rw [hE, hV], by rw [hV]; exact hp.gives 37 rfl hc37⟩

set_option maxRecDepth 100000 in
theorem Layerr_walk (B W : Int) (row : List Hs) {nr : Nat} (ao : Option Addr) (ca : Nat) (from_ to_ : Int) (w0 : World) (h1 : Rd w0 ao (row.flatMap hcs)) (hr : row.length = nr) (hz : row.length ≤ 281474976710656) (hfr : -9223372036854775808 ≤ from_ ∧ from_ ≤ 9223372036854775807) (hto : -9223372036854775808 ≤ to_ ∧ to_ ≤ 9223372036854775807) :
    Calls Tryd.prog 26 #[sca B W, .slice ao nr ca, .int .i64 from_, .int .i64 to_] w0 fun e w' => ∃ g : Gs, e = .returned (.tuple #[.slice (adr g.ob) (layV B W row from_ to_).length g.cap, .int .i64 (layE B W row.length from_ to_)]) ∧ Mk w0 w' 34 32 ((layV B W row from_ to_).flatMap hcs) g := by
  refine calls_in Tryd.func26 Tryd.ntmps26 rfl rfl ?_
  have hp := Hp.start w0
  subst hr
  refine sc_seq ?_
  refine sc_region ?_
  refine st_box 4 hp rfl rfl rfl (fun b4 w hp => ?_)
  refine st_v (ov_assign rfl) rfl ?_
  refine st_v (ov_assign rfl) rfl ?_
  refine st_nil ?_
  refine pn_then ?_
  refine sc_seq ?_
  refine sc_region ?_
  refine st_v (ov_loadN rfl Tryd.underlying23 rfl (sz23.trans rfl) (hp.cells' (t := 4) rfl)) rfl ?_
  refine st_v (ov_move rfl) rfl ?_
  refine st_v (ov_move rfl) rfl ?_
  refine st_call pl66 rfl rfl rfl (rowq_walk B W row _ _ from_ (by omega) hfr _) ?_
  rintro _ w ⟨rfl, hch⟩
  refine ⟨_, rfl, ?_⟩
  replace hp := hp.call hch
  clear hch
  refine st_v (ov_assign rfl) rfl ?_
  refine st_nil ?_
  refine pn_then ?_
  refine sc_seq ?_
  refine sc_seq ?_
  refine sc_region ?_
  refine st_v (ov_move rfl) rfl ?_
  refine st_v (ov_neq rfl rfl) rfl ?_
  refine st_nil ?_
  refine pn_then ?_
  refine sc_cond rfl (fun hc => ?_) (fun hc => ?_)
  ·
    have hc := of_decide_eq_true hc
    refine sc_seq ?_
    refine sc_region ?_
    refine st_v (ov_move rfl) rfl ?_
    refine st_v (ov_assign rfl) rfl ?_
    refine st_v (ov_assign rfl) rfl ?_
    refine st_nil ?_
    refine pn_then ?_
    refine sc_ret ?_
    refine pr_then ?_
    refine pr_two rfl rfl rfl ?_
    have hE : layE B W row.length from_ to_ = rowE B W row.length from_ := by unfold layE; rw [if_pos (by assumption)]
    have hV := layV_bad (row := row) (from_ := from_) (to_ := to_) (B := B) (W := W) (by rw [hE]; first | assumption | decide)
    exact ⟨gnil, by rw [hE, hV]; rfl, by rw [hV]; exact hp.gives0 _ _⟩
  ·
    have hc := of_decide_eq_false hc
    have hr0 : rowE B W row.length from_ = 0 := Classical.byContradiction (by assumption)
    obtain ⟨hg0, hn1, hn2, f, rfl, hfb⟩ := rowE_ok hr0
    have hbl := bit_le20 (n := row.length) hn2
    refine sc_skip ?_
    refine pn_then ?_
    refine sc_seq ?_
    refine sc_seq ?_
    refine sc_region ?_
    refine st_v (ov_move rfl) rfl ?_
    refine st_v (ov_move rfl) rfl ?_
    refine st_v (ov_lss rfl rfl) rfl ?_
    refine st_v (ov_move rfl) rfl ?_
    refine st_split (j := 21) rfl (fun hb => ?_) (fun hb => ?_)
    ·
      have hb := of_decide_eq_true hb
      refine st_off (j := 3) rfl rfl rfl rfl ?_
      refine st_off (j := 3) rfl rfl rfl rfl ?_
      refine st_off (j := 3) rfl rfl rfl rfl ?_
      refine st_off (j := 3) rfl rfl rfl rfl ?_
      refine st_off (j := 3) rfl rfl rfl rfl ?_
      refine st_off (j := 3) rfl rfl rfl rfl ?_
      refine st_off (j := 3) rfl rfl rfl rfl ?_
      refine st_v (ov_pick_t rfl rfl) rfl ?_
      refine st_nil ?_
      refine pn_then ?_
      refine sc_true rfl ?_
      refine sc_seq ?_
      refine sc_region ?_
      refine st_v (ov_assign rfl) rfl ?_
      refine st_v (ov_assign rfl) rfl ?_
      refine st_nil ?_
      refine pn_then ?_
      refine sc_ret ?_
      refine pr_then ?_
      refine pr_two rfl rfl rfl ?_
      have hE : layE B W row.length (f : Int) to_ = 60 := by unfold layE; rw [if_neg (by assumption), if_pos (by omega)]
      have hV := layV_bad (row := row) (from_ := (f : Int)) (to_ := to_) (B := B) (W := W) (by rw [hE]; first | assumption | decide)
      exact ⟨gnil, by rw [hE, hV]; rfl, by rw [hV]; exact hp.gives0 _ _⟩
    ·
      have hb := of_decide_eq_false hb
      refine st_on (j := 3) rfl rfl ?_
      refine st_v (ov_move rfl) rfl ?_
      refine st_on (j := 3) rfl rfl ?_
      refine st_v (ov_move rfl) rfl ?_
      refine st_on (j := 3) rfl rfl ?_
      refine st_v (ov_move rfl) rfl ?_
      refine st_on (j := 3) rfl rfl ?_
      refine st_v (ov_len rfl Tryd.underlying26 rfl) rfl ?_
      refine st_on (j := 3) rfl rfl ?_
      refine st_call pl67 rfl rfl rfl (riser_walk row.length (by omega) _) ?_
      rintro _ w ⟨rfl, hch⟩
      refine ⟨_, rfl, ?_⟩
      replace hp := hp.call hch
      clear hch
      refine st_on (j := 3) rfl rfl ?_
      refine st_v (ov_add_i64 rfl rfl (by omega)) rfl ?_
      refine st_on (j := 3) rfl rfl ?_
      refine st_v (ov_gtr rfl rfl) rfl ?_
      refine st_v (ov_pick_f rfl rfl) rfl ?_
      refine st_nil ?_
      refine pn_then ?_
      refine sc_cond rfl (fun hc => ?_) (fun hc => ?_)
      ·
        have hc := of_decide_eq_true hc
        refine sc_seq ?_
        refine sc_region ?_
        refine st_v (ov_assign rfl) rfl ?_
        refine st_v (ov_assign rfl) rfl ?_
        refine st_nil ?_
        refine pn_then ?_
        refine sc_ret ?_
        refine pr_then ?_
        refine pr_two rfl rfl rfl ?_
        have hE : layE B W row.length (f : Int) to_ = 60 := by unfold layE; rw [if_neg (by assumption), if_pos (by omega)]
        have hV := layV_bad (row := row) (from_ := (f : Int)) (to_ := to_) (B := B) (W := W) (by rw [hE]; first | assumption | decide)
        exact ⟨gnil, by rw [hE, hV]; rfl, by rw [hV]; exact hp.gives0 _ _⟩
      ·
        have hc := of_decide_eq_false hc
        refine sc_skip ?_
        refine pn_then ?_
        refine sc_seq ?_
        have hE : layE B W row.length (f : Int) to_ = 0 := by unfold layE; rw [if_neg (by assumption), if_neg (by omega)]
        obtain ⟨k, rfl⟩ : ∃ k : Nat, to_ = ((f + k : Nat) : Int) := ⟨(to_ - f).toNat, by omega⟩
        have hV := layV_ok hE
        refine sc_region ?_
        refine st_v (ov_loadN rfl Tryd.underlying23 rfl (sz23.trans rfl) (hp.cells' (t := 4) rfl)) rfl ?_
        refine st_v (ov_move rfl) rfl ?_
        refine st_v (ov_move rfl) rfl ?_
        refine st_v (ov_move rfl) rfl ?_
        refine st_call pl68 rfl rfl rfl (layerq_walk B W row _ _ f k _ (h1.chg hp.chg) rfl hn2 (by omega) (by omega)) ?_
        rintro _ w ⟨g34, rfl, hm34⟩
        refine ⟨_, rfl, ?_⟩
        replace hp := hp.got 34 hm34
        have hc34 := hm34.2
        clear hm34
        refine st_v (ov_assign rfl) rfl ?_
        refine st_v (ov_assign rfl) rfl ?_
        refine st_nil ?_
        refine pn_then ?_
        refine sc_ret ?_
        refine pr_two rfl rfl rfl ?_
        exact ⟨g34, by rw [hE, hV], by rw [hV]; exact hp.gives 34 rfl hc34⟩

set_option maxRecDepth 100000 in
theorem Root_walk (B W : Int) (row : List Hs) {nr : Nat} (ao : Option Addr) (ca : Nat) (from_ : Int) (w0 : World) (h1 : Rd w0 ao (row.flatMap hcs)) (hr : row.length = nr) (hz : row.length ≤ 281474976710656) (hfr : -9223372036854775808 ≤ from_ ∧ from_ ≤ 9223372036854775807) (hk : Cells w0 1 0 (kL.map B32)) (hf : Cells w0 0 0 (fL.map B32)) :
    Calls Tryd.prog 28 #[sca B W, .slice ao nr ca, .int .i64 from_] w0 fun e w' => e = .returned (.tuple #[.agg (hcs (rootV B W row from_)).toArray, .int .i64 (rowE B W row.length from_)]) ∧ Chg [] w0 w' := by
  refine calls_in Tryd.func28 Tryd.ntmps28 rfl rfl ?_
  have hp := Hp.start w0
  subst hr
  refine sc_seq ?_
  refine sc_region ?_
  refine st_box 3 hp rfl rfl rfl (fun b3 w hp => ?_)
  refine st_alloc 6 (hcs hz0) hp rfl zl34 rfl (fun b6 w hp => ?_)
  refine st_v (ov_assign rfl) rfl ?_
  refine st_nil ?_
  refine pn_then ?_
  refine sc_seq ?_
  refine sc_seq ?_
  refine sc_region ?_
  refine st_v (ov_loadN rfl Tryd.underlying23 rfl (sz23.trans rfl) (hp.cells' (t := 3) rfl)) rfl ?_
  refine st_v (ov_move rfl) rfl ?_
  refine st_v (ov_len rfl Tryd.underlying26 rfl) rfl ?_
  refine st_v (ov_move rfl) rfl ?_
  refine st_call pl69 rfl rfl rfl (fits_walk B W row.length from_ (by omega) hfr _) ?_
  rintro _ w ⟨rfl, hch⟩
  refine ⟨_, rfl, ?_⟩
  replace hp := hp.call hch
  clear hch
  refine st_v (ov_assign rfl) rfl ?_
  refine st_nil ?_
  refine pn_then ?_
  refine sc_seq ?_
  refine sc_region ?_
  refine st_v (ov_move rfl) rfl ?_
  refine st_v (ov_neq rfl rfl) rfl ?_
  refine st_nil ?_
  refine pn_then ?_
  refine sc_cond rfl (fun hc => ?_) (fun hc => ?_)
  ·
    have hc := of_decide_eq_true hc
    refine sc_seq ?_
    refine sc_region ?_
    refine st_v (ov_buildA (cells := hcs hz0) rfl Tryd.underlying34 zl34 sz5 (by kernel_rfl)) rfl ?_
    refine st_v (ov_move rfl) rfl ?_
    refine st_storeA 6 hp rfl rfl rfl (by simp [hcs_len]) (sz34.trans (by simp [hcs_len])) (hcs_one _) (fun w hp => ?_)
    refine st_v (ov_assign rfl) rfl ?_
    refine st_nil ?_
    refine pn_then ?_
    refine sc_ret ?_
    refine pr_then ?_
    refine pr_rv2 rfl (rv_cells rfl Tryd.underlying34 rfl (sz34.trans (by simp [hcs_len])) (hp.cells' (t := 6) rfl)) (rv_tmp rfl) ?_
    exact ⟨by unfold rootV; rw [if_neg (by assumption)], hp.chg⟩
  ·
    have hc := of_decide_eq_false hc
    have hr0 : rowE B W row.length from_ = 0 := Classical.byContradiction (by assumption)
    obtain ⟨hg0, hn1, hn2, f, rfl, hfb⟩ := rowE_ok hr0
    have hbl := bit_le20 (n := row.length) hn2
    obtain ⟨k, hk9⟩ : ∃ k, k = bitLen (row.length - 1) := ⟨_, rfl⟩
    have hV : rootV B W row (f : Int) = (layL B W f row k).getD 0 hz0 := by unfold rootV; rw [if_pos hr0, Int.toNat_natCast, ← hk9]
    have hl1 : (layL B W f row k).length = 1 := lay_one B W f row k hn1 (by rw [hk9]; exact bit_pow hn1)
    refine sc_skip ?_
    refine pn_then ?_
    refine sc_seq ?_
    obtain ⟨Hs, hHs⟩ := (hp.sub (L' := [(6, _), (3, _)]) (LSub.cons rfl (LSub.cons rfl (LSub.nil _)))).hs
    refine sc_plan Hs [0, 1, 2, 3, 4, 7, 10] [5] (.load 0 (.take 1 (.take 2 (.take 3 (.take 4 (.one 5 (.one 6 (.take 7 (.one 8 (.one 9 (.take 10 .nil))))))))))) (by kernel_rfl) (by kernel_rfl) (by repeat (first | exact calm_body _ _ _ | refine calm_then ?_ | refine calm_block ?_ | refine calm_jump ?_ | refine calm_ng ?_)) ?_
    replace hp := hp.drew
    refine sp_load rfl ((hHs _).2 (hp.sub (LSub.cons rfl (LSub.cons rfl (LSub.nil _))))) (fun w hs => have hp := (hHs w).1 hs; ov_loadN rfl Tryd.underlying23 rfl (sz23.trans rfl) (hp.cells' (t := 3) rfl)) rfl ?_
    refine sp_take rfl (fun w => ov_move rfl) rfl ?_
    refine sp_take rfl (fun w => ov_move rfl) rfl ?_
    refine sp_take rfl (fun w => ov_move rfl) rfl ?_
    refine sp_take rfl (fun w => ov_len rfl Tryd.underlying26 rfl) rfl ?_
    refine sp_one rfl ?_
    refine st_call pl70 rfl rfl rfl (rise_walk row.length (by omega) _) ?_
    rintro _ w ⟨rfl, hch⟩
    refine ⟨_, rfl, ?_⟩
    replace hp := hp.call hch
    clear hch
    rw [← hk9]
    refine st_nil ?_
    refine sp_next (i := 5) (fun _ => ((hHs _).2 (hp.sub (LSub.cons rfl (LSub.cons rfl (LSub.nil _)))))) ?_
    refine sp_one rfl ?_
    refine st_call pl71 rfl rfl rfl (climb_walk B W row _ _ f k _ (h1.chg hp.chg) rfl hn2 (by omega) (by omega) (hp.old hk (by simp)) (hp.old hf (by simp))) ?_
    rintro _ w ⟨g24, rfl, hm24⟩
    refine ⟨_, rfl, ?_⟩
    replace hp := hp.got 24 hm24
    have hc24 := hm24.2
    clear hm24
    refine st_nil ?_
    refine sp_next (i := 6) (fun h => absurd h (by decide)) ?_
    obtain ⟨bb1, oo1, hadr1, hcl1⟩ := (Rd.own (hp.own 24 _ rfl)).pos (by rw [flat_len hcs_len]; omega)
    refine sp_take rfl (fun w => ov_indexR hadr1 rfl rfl Tryd.underlying26 sz34 (by omega)) rfl ?_
    refine sp_one rfl ?_
    refine st_v (ov_loadN rfl Tryd.underlying34 rfl (sz34.trans (by simp [hcs_len])) (((Rd.own (hp.own 24 _ rfl)).at_adr hadr1 (by rw [flat_len hcs_len]; omega)).elemN hcs_len (0) ⟨by rfl, by omega⟩ hz0)) rfl ?_
    refine st_nil ?_
    refine sp_next (i := 8) (fun h => absurd h (by decide)) ?_
    refine sp_one rfl ?_
    refine st_storeA 6 hp rfl rfl rfl (by simp [hcs_len]) (sz34.trans (by simp [hcs_len])) (hcs_one _) (fun w hp => ?_)
    refine st_nil ?_
    refine sp_next (i := 9) (fun h => absurd h (by decide)) ?_
    refine sp_take rfl (fun w => ov_assign rfl) rfl ?_
    refine sp_nil ?_
    refine pn_then ?_
    refine sc_ret ?_
    refine pr_rv2 rfl (rv_cells rfl Tryd.underlying34 rfl (sz34.trans (by simp [hcs_len])) (hp.cells' (t := 6) rfl)) (rv_tmp rfl) ?_
    exact ⟨by rw [hV, hr0], hp.chg⟩

set_option maxRecDepth 100000 in
theorem Rootr_walk (B W : Int) (row : List Hs) {nr : Nat} (ao : Option Addr) (ca : Nat) (from_ : Int) (w0 : World) (h1 : Rd w0 ao (row.flatMap hcs)) (hr : row.length = nr) (hz : row.length ≤ 281474976710656) (hfr : -9223372036854775808 ≤ from_ ∧ from_ ≤ 9223372036854775807) :
    Calls Tryd.prog 29 #[sca B W, .slice ao nr ca, .int .i64 from_] w0 fun e w' => e = .returned (.tuple #[.agg (hcs (rootV B W row from_)).toArray, .int .i64 (rowE B W row.length from_)]) ∧ Chg [] w0 w' := by
  refine calls_in Tryd.func29 Tryd.ntmps29 rfl rfl ?_
  have hp := Hp.start w0
  subst hr
  refine sc_seq ?_
  refine sc_region ?_
  refine st_box 3 hp rfl rfl rfl (fun b3 w hp => ?_)
  refine st_alloc 6 (hcs hz0) hp rfl zl34 rfl (fun b6 w hp => ?_)
  refine st_v (ov_assign rfl) rfl ?_
  refine st_nil ?_
  refine pn_then ?_
  refine sc_seq ?_
  refine sc_region ?_
  refine st_v (ov_loadN rfl Tryd.underlying23 rfl (sz23.trans rfl) (hp.cells' (t := 3) rfl)) rfl ?_
  refine st_v (ov_move rfl) rfl ?_
  refine st_v (ov_move rfl) rfl ?_
  refine st_call pl66 rfl rfl rfl (rowq_walk B W row _ _ from_ (by omega) hfr _) ?_
  rintro _ w ⟨rfl, hch⟩
  refine ⟨_, rfl, ?_⟩
  replace hp := hp.call hch
  clear hch
  refine st_v (ov_assign rfl) rfl ?_
  refine st_nil ?_
  refine pn_then ?_
  refine sc_seq ?_
  refine sc_seq ?_
  refine sc_region ?_
  refine st_v (ov_move rfl) rfl ?_
  refine st_v (ov_neq rfl rfl) rfl ?_
  refine st_nil ?_
  refine pn_then ?_
  refine sc_cond rfl (fun hc => ?_) (fun hc => ?_)
  ·
    have hc := of_decide_eq_true hc
    refine sc_seq ?_
    refine sc_region ?_
    refine st_v (ov_buildA (cells := hcs hz0) rfl Tryd.underlying34 zl34 sz5 (by kernel_rfl)) rfl ?_
    refine st_v (ov_move rfl) rfl ?_
    refine st_storeA 6 hp rfl rfl rfl (by simp [hcs_len]) (sz34.trans (by simp [hcs_len])) (hcs_one _) (fun w hp => ?_)
    refine st_v (ov_assign rfl) rfl ?_
    refine st_nil ?_
    refine pn_then ?_
    refine sc_ret ?_
    refine pr_then ?_
    refine pr_rv2 rfl (rv_cells rfl Tryd.underlying34 rfl (sz34.trans (by simp [hcs_len])) (hp.cells' (t := 6) rfl)) (rv_tmp rfl) ?_
    exact ⟨by unfold rootV; rw [if_neg (by assumption)], hp.chg⟩
  ·
    have hc := of_decide_eq_false hc
    have hr0 : rowE B W row.length from_ = 0 := Classical.byContradiction (by assumption)
    obtain ⟨hg0, hn1, hn2, f, rfl, hfb⟩ := rowE_ok hr0
    have hbl := bit_le20 (n := row.length) hn2
    obtain ⟨k, hk9⟩ : ∃ k, k = bitLen (row.length - 1) := ⟨_, rfl⟩
    have hV : rootV B W row (f : Int) = (layL B W f row k).getD 0 hz0 := by unfold rootV; rw [if_pos hr0, Int.toNat_natCast, ← hk9]
    have hl1 : (layL B W f row k).length = 1 := lay_one B W f row k hn1 (by rw [hk9]; exact bit_pow hn1)
    have hnl : nodeL B W f row k 0 = (layL B W f row k).getD 0 hz0 := by rw [node_lay, List.getD, List.getD, List.getElem?_eq_getElem (by omega)]; rfl
    refine sc_skip ?_
    refine pn_then ?_
    refine sc_seq ?_
    obtain ⟨Hs, hHs⟩ := (hp.sub (L' := [(6, _), (3, _)]) (LSub.cons rfl (LSub.cons rfl (LSub.nil _)))).hs
    refine sc_plan Hs [0, 1, 2, 3, 4, 5, 7, 10] [6] (.load 0 (.take 1 (.take 2 (.take 3 (.take 4 (.take 5 (.one 6 (.take 7 (.one 8 (.one 9 (.take 10 .nil))))))))))) (by kernel_rfl) (by kernel_rfl) (by repeat (first | exact calm_body _ _ _ | refine calm_then ?_ | refine calm_block ?_ | refine calm_jump ?_ | refine calm_ng ?_)) ?_
    replace hp := hp.drew
    refine sp_load rfl ((hHs _).2 (hp.sub (LSub.cons rfl (LSub.cons rfl (LSub.nil _))))) (fun w hs => have hp := (hHs w).1 hs; ov_loadN rfl Tryd.underlying23 rfl (sz23.trans rfl) (hp.cells' (t := 3) rfl)) rfl ?_
    refine sp_take rfl (fun w => ov_move rfl) rfl ?_
    refine sp_take rfl (fun w => ov_move rfl) rfl ?_
    refine sp_take rfl (fun w => ov_move rfl) rfl ?_
    refine sp_take rfl (fun w => ov_move rfl) rfl ?_
    refine sp_take rfl (fun w => ov_len rfl Tryd.underlying26 rfl) rfl ?_
    refine sp_one rfl ?_
    refine st_call pl67 rfl rfl rfl (riser_walk row.length (by omega) _) ?_
    rintro _ w ⟨rfl, hch⟩
    refine ⟨_, rfl, ?_⟩
    replace hp := hp.call hch
    clear hch
    rw [← hk9]
    refine st_nil ?_
    refine sp_next (i := 6) (fun _ => ((hHs _).2 (hp.sub (LSub.cons rfl (LSub.cons rfl (LSub.nil _)))))) ?_
    refine sp_take rfl (fun w => ov_add_n (a := f) (b := k) rfl rfl (by omega)) rfl ?_
    refine sp_one rfl ?_
    refine st_call pl72 rfl rfl rfl (node_walk B W row _ _ f rfl (by omega) k 0 _ (h1.chg hp.chg) (by omega) (by omega) (by rw [Nat.zero_add, Nat.one_mul]; exact Nat.le_trans (Nat.pow_le_pow_right (by omega) (by omega : k ≤ 20)) (by decide))) ?_
    rintro _ w ⟨rfl, hch⟩
    refine ⟨_, rfl, ?_⟩
    replace hp := hp.call hch
    clear hch
    rw [hnl]
    refine st_nil ?_
    refine sp_next (i := 8) (fun h => absurd h (by decide)) ?_
    refine sp_one rfl ?_
    refine st_storeA 6 hp rfl rfl rfl (by simp [hcs_len]) (sz34.trans (by simp [hcs_len])) (hcs_one _) (fun w hp => ?_)
    refine st_nil ?_
    refine sp_next (i := 9) (fun h => absurd h (by decide)) ?_
    refine sp_take rfl (fun w => ov_assign rfl) rfl ?_
    refine sp_nil ?_
    refine pn_then ?_
    refine sc_ret ?_
    refine pr_rv2 rfl (rv_cells rfl Tryd.underlying34 rfl (sz34.trans (by simp [hcs_len])) (hp.cells' (t := 6) rfl)) (rv_tmp rfl) ?_
    exact ⟨by rw [hV, hr0], hp.chg⟩

set_option maxRecDepth 100000 in
theorem law_layers (B W : Int) (row : List Hs) (ao : Option Addr) (ca : Nat) (from_ to_ : Int) (w0 : World) (h1 : Rd w0 ao (row.flatMap hcs)) (hz : row.length ≤ 4398046511104) (hfr : -9223372036854775808 ≤ from_ ∧ from_ ≤ 9223372036854775807) (hto : -9223372036854775808 ≤ to_ ∧ to_ ≤ 9223372036854775807) (hk : Cells w0 1 0 (kL.map B32)) (hf : Cells w0 0 0 (fL.map B32)) :
    Calls Tryd.prog 5 #[sca B W, .slice ao row.length ca, .int .i64 from_, .int .i64 to_] w0 fun e w' => e = .returned (.bool true) ∧ Chg [] w0 w' := by
  refine calls_in Tryd.func5 Tryd.ntmps5 rfl rfl ?_
  have hp := Hp.start w0
  refine sc_seq ?_
  refine sc_region ?_
  refine st_box 4 hp rfl rfl rfl (fun b4 w hp => ?_)
  refine st_v (ov_assign rfl) rfl ?_
  refine st_nil ?_
  refine pn_then ?_
  refine sc_seq ?_
  refine sc_region ?_
  refine st_v (ov_move rfl) rfl ?_
  refine st_call pl25 rfl rfl rfl (twinrow_walk row _ _ _ (h1.chg hp.chg) rfl hz) ?_
  rintro _ w ⟨g19, rfl, hm19⟩
  refine ⟨_, rfl, ?_⟩
  replace hp := hp.got 19 hm19
  have hc19 := hm19.2
  clear hm19
  refine st_v (ov_assign rfl) rfl ?_
  refine st_nil ?_
  refine pn_then ?_
  refine sc_seq ?_
  refine sc_region ?_
  refine st_v (ov_loadN rfl Tryd.underlying23 rfl (sz23.trans rfl) (hp.cells' (t := 4) rfl)) rfl ?_
  refine st_v (ov_move rfl) rfl ?_
  refine st_v (ov_move rfl) rfl ?_
  refine st_v (ov_move rfl) rfl ?_
  refine st_call pl26 rfl rfl rfl (Layerr_walk B W row _ _ from_ to_ _ (Rd.own (hp.own 19 _ rfl)) rfl (by omega) hfr hto) ?_
  rintro _ w ⟨g25, rfl, hm25⟩
  refine ⟨_, rfl, ?_⟩
  replace hp := hp.got 25 hm25
  have hc25 := hm25.2
  clear hm25
  refine st_v (ov_move rfl) rfl ?_
  refine st_v (ov_extract rfl rfl) rfl ?_
  refine st_v (ov_extract rfl rfl) rfl ?_
  refine st_v (ov_assign rfl) rfl ?_
  refine st_v (ov_assign rfl) rfl ?_
  refine st_nil ?_
  refine pn_then ?_
  refine sc_seq ?_
  refine sc_region ?_
  refine st_v (ov_loadN rfl Tryd.underlying23 rfl (sz23.trans rfl) (hp.cells' (t := 4) rfl)) rfl ?_
  refine st_v (ov_move rfl) rfl ?_
  refine st_v (ov_move rfl) rfl ?_
  refine st_v (ov_move rfl) rfl ?_
  refine st_call pl27 rfl rfl rfl (Layer_walk B W row _ _ from_ to_ _ (h1.chg hp.chg) rfl (by omega) hfr hto (hp.old hk (by simp)) (hp.old hf (by simp))) ?_
  rintro _ w ⟨g33, rfl, hm33⟩
  refine ⟨_, rfl, ?_⟩
  replace hp := hp.got 33 hm33
  have hc33 := hm33.2
  clear hm33
  refine st_v (ov_move rfl) rfl ?_
  refine st_v (ov_extract rfl rfl) rfl ?_
  refine st_v (ov_extract rfl rfl) rfl ?_
  refine st_v (ov_assign rfl) rfl ?_
  refine st_v (ov_assign rfl) rfl ?_
  refine st_nil ?_
  refine pn_then ?_
  refine sc_seq ?_
  refine sc_seq ?_
  refine sc_region ?_
  refine st_v (ov_move rfl) rfl ?_
  refine st_v (ov_move rfl) rfl ?_
  refine st_v (v := .bool false) ((ov_neq rfl rfl).is ((by simp))) rfl ?_
  refine st_v (ov_move rfl) rfl ?_
  refine st_on (j := 3) rfl rfl ?_
  refine st_v (ov_move rfl) rfl ?_
  refine st_on (j := 3) rfl rfl ?_
  refine st_v (ov_move rfl) rfl ?_
  refine st_on (j := 3) rfl rfl ?_
  refine st_call pl19 rfl rfl rfl (rowsame_walk (layV B W row from_ to_) _ _ _ _ _ (Rd.own (hp.own 33 _ rfl)) (Rd.own (hp.own 25 _ rfl)) rfl rfl (by have := layV_len B W row from_ to_; omega)) ?_
  rintro _ w ⟨rfl, hch⟩
  refine ⟨_, rfl, ?_⟩
  replace hp := hp.call hch
  clear hch
  refine st_on (j := 3) rfl rfl ?_
  refine st_v (ov_not rfl) rfl ?_
  refine st_v (ov_pick_f rfl rfl) rfl ?_
  refine st_nil ?_
  refine pn_then ?_
  refine sc_false rfl ?_
  refine sc_skip ?_
  refine pn_then ?_
  refine sc_seq ?_
  refine sc_region ?_
  refine st_v (ov_loadN rfl Tryd.underlying23 rfl (sz23.trans rfl) (hp.cells' (t := 4) rfl)) rfl ?_
  refine st_v (ov_move rfl) rfl ?_
  refine st_v (ov_move rfl) rfl ?_
  refine st_call pl28 rfl rfl rfl (Root_walk B W row _ _ from_ _ (h1.chg hp.chg) rfl (by omega) hfr (hp.old hk (by simp)) (hp.old hf (by simp))) ?_
  rintro _ w ⟨rfl, hch⟩
  refine ⟨_, rfl, ?_⟩
  replace hp := hp.call hch
  clear hch
  refine st_v (ov_move rfl) rfl ?_
  refine st_v (ov_extract rfl rfl) rfl ?_
  refine st_v (ov_extract rfl rfl) rfl ?_
  refine st_alloc 14 (hcs hz0) hp rfl zl34 rfl (fun b14 w hp => ?_)
  refine st_storeA 14 hp rfl rfl rfl (by simp [hcs_len]) (sz34.trans (by simp [hcs_len])) (hcs_one _) (fun w hp => ?_)
  refine st_v (ov_assign rfl) rfl ?_
  refine st_nil ?_
  refine pn_then ?_
  refine sc_seq ?_
  refine sc_region ?_
  refine st_v (ov_loadN rfl Tryd.underlying23 rfl (sz23.trans rfl) (hp.cells' (t := 4) rfl)) rfl ?_
  refine st_v (ov_move rfl) rfl ?_
  refine st_v (ov_move rfl) rfl ?_
  refine st_call pl29 rfl rfl rfl (Rootr_walk B W row _ _ from_ _ (Rd.own (hp.own 19 _ rfl)) rfl (by omega) hfr) ?_
  rintro _ w ⟨rfl, hch⟩
  refine ⟨_, rfl, ?_⟩
  replace hp := hp.call hch
  clear hch
  refine st_v (ov_move rfl) rfl ?_
  refine st_v (ov_extract rfl rfl) rfl ?_
  refine st_v (ov_extract rfl rfl) rfl ?_
  refine st_alloc 16 (hcs hz0) hp rfl zl34 rfl (fun b16 w hp => ?_)
  refine st_storeA 16 hp rfl rfl rfl (by simp [hcs_len]) (sz34.trans (by simp [hcs_len])) (hcs_one _) (fun w hp => ?_)
  refine st_v (ov_assign rfl) rfl ?_
  refine st_nil ?_
  refine pn_then ?_
  refine sc_seq ?_
  refine sc_region ?_
  refine st_v (ov_move rfl) rfl ?_
  refine st_v (ov_move rfl) rfl ?_
  refine st_v (v := .bool true) ((ov_eql rfl rfl).is ((by simp))) rfl ?_
  refine st_v (ov_move rfl) rfl ?_
  refine st_on (j := 3) rfl rfl ?_
  refine st_v (ov_loadN rfl Tryd.underlying34 rfl (sz34.trans (by simp [hcs_len])) (hp.cells' (t := 14) rfl)) rfl ?_
  refine st_on (j := 3) rfl rfl ?_
  refine st_v (ov_loadN rfl Tryd.underlying34 rfl (sz34.trans (by simp [hcs_len])) (hp.cells' (t := 16) rfl)) rfl ?_
  refine st_on (j := 3) rfl rfl ?_
  refine st_v (v := .bool true) ((ov_eqlA (k := .u8) (g := fun x : UInt8 => (x.toNat : Int))  inj8 Tryd.underlying34 Tryd.underlying5 sz5 gd34 rfl rfl ⟨Subtype.property (p := fun l : List UInt8 => l.length = 32) _, Subtype.property (p := fun l : List UInt8 => l.length = 32) _⟩).is ((by simp))) rfl ?_
  refine st_v (ov_pick_t rfl rfl) rfl ?_
  refine st_v (ov_move rfl) rfl ?_
  refine st_on (j := 8) rfl rfl ?_
  refine st_v (ov_move rfl) rfl ?_
  refine st_on (j := 8) rfl rfl ?_
  refine st_v (ov_move rfl) rfl ?_
  refine st_on (j := 8) rfl rfl ?_
  refine st_call pl19 rfl rfl rfl (rowsame_walk row _ _ _ _ _ (h1.chg hp.chg) (Rd.own (hp.own 19 _ rfl)) rfl rfl (by omega)) ?_
  rintro _ w ⟨rfl, hch⟩
  refine ⟨_, rfl, ?_⟩
  replace hp := hp.call hch
  clear hch
  refine st_v (ov_pick_t rfl rfl) rfl ?_
  refine st_v (ov_assign rfl) rfl ?_
  refine st_nil ?_
  refine pn_then ?_
  refine sc_ret ?_
  refine pr_one rfl rfl ?_
  exact ⟨rfl, hp.chg⟩

end Go.Proofs.YtjdolgfhcjnniaaDoor
