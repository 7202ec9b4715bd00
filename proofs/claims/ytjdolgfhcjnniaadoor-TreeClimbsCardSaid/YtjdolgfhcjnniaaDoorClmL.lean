/-
  The walk of the law TreeClimbs.
-/
import Derived.Test.YtjdolgfhcjnniaaDoorAwkA
import Derived.Test.YtjdolgfhcjnniaaDoorOutP
namespace Go.Proofs.YtjdolgfhcjnniaaDoor
open Go Go.RowKit

set_option maxRecDepth 100000 in
theorem law_climbs (B W : Int) (row : List Hs) (ao : Option Addr) (ca : Nat) (from_ mid to_ : Int) (w0 : World) (h1 : Rd w0 ao (row.flatMap hcs)) (hz : row.length ≤ 4398046511104) (hfr : -9223372036854775808 ≤ from_ ∧ from_ ≤ 9223372036854775807) (hmi : -9223372036854775808 ≤ mid ∧ mid ≤ 9223372036854775807) (hto : -9223372036854775808 ≤ to_ ∧ to_ ≤ 9223372036854775807) (hk : Cells w0 1 0 (kL.map B32)) (hf : Cells w0 0 0 (fL.map B32)) :
    Calls Tryd.prog 8 #[sca B W, .slice ao row.length ca, .int .i64 from_, .int .i64 mid, .int .i64 to_] w0 fun e w' => e = .returned (.bool true) ∧ Chg [] w0 w' := by
  refine calls_in Tryd.func8 Tryd.ntmps8 rfl rfl ?_
  have hp := Hp.start w0
  have hll := layV_len B W row from_ mid
  refine sc_seq ?_
  refine sc_region ?_
  refine st_box 5 hp rfl rfl rfl (fun b5 w hp => ?_)
  refine st_v (ov_assign rfl) rfl ?_
  refine st_nil ?_
  refine pn_then ?_
  refine sc_seq ?_
  refine sc_region ?_
  refine st_call pl38 rfl rfl rfl (awake_walk _ (hp.old hk (by simp)) (hp.old hf (by simp))) ?_
  rintro _ w ⟨rfl, hch⟩
  refine ⟨_, rfl, ?_⟩
  replace hp := hp.call hch
  clear hch
  refine st_v (ov_assign rfl) rfl ?_
  refine st_nil ?_
  refine pn_then ?_
  refine sc_seq ?_
  refine sc_seq ?_
  refine sc_region ?_
  refine st_v (ov_move rfl) rfl ?_
  refine st_v (ov_not rfl) rfl ?_
  refine st_nil ?_
  refine pn_then ?_
  refine sc_false rfl ?_
  refine sc_skip ?_
  refine pn_then ?_
  refine sc_seq ?_
  refine sc_region ?_
  refine st_v (ov_loadN rfl Tryd.underlying23 rfl (sz23.trans rfl) (hp.cells' (t := 5) rfl)) rfl ?_
  refine st_v (ov_move rfl) rfl ?_
  refine st_v (ov_move rfl) rfl ?_
  refine st_v (ov_move rfl) rfl ?_
  refine st_call pl27 rfl rfl rfl (Layer_walk B W row _ _ from_ mid _ (h1.chg hp.chg) rfl (by omega) hfr hmi (hp.old hk (by simp)) (hp.old hf (by simp))) ?_
  rintro _ w ⟨g30, rfl, hm30⟩
  refine ⟨_, rfl, ?_⟩
  replace hp := hp.got 30 hm30
  have hc30 := hm30.2
  clear hm30
  refine st_v (ov_move rfl) rfl ?_
  refine st_v (ov_extract rfl rfl) rfl ?_
  refine st_v (ov_extract rfl rfl) rfl ?_
  refine st_v (ov_assign rfl) rfl ?_
  refine st_v (ov_assign rfl) rfl ?_
  refine st_nil ?_
  refine pn_then ?_
  refine sc_seq ?_
  refine sc_seq ?_
  refine sc_region ?_
  refine st_v (ov_move rfl) rfl ?_
  refine st_v (ov_neq rfl rfl) rfl ?_
  refine st_nil ?_
  refine pn_then ?_
  refine sc_cond rfl (fun hc => ?_) (fun hc => ?_)
  ·
    have hc := of_decide_eq_true hc
    refine sc_seq ?_
    refine sc_region ?_
    refine st_v (ov_move rfl) rfl ?_
    refine st_v (ov_len rfl Tryd.underlying26 rfl) rfl ?_
    refine st_v (v := .bool true) ((ov_eql rfl rfl).is (congrArg Value.bool (decide_eq_true (by rw [layV_bad hc]; rfl)))) rfl ?_
    refine st_v (ov_assign rfl) rfl ?_
    refine st_nil ?_
    refine pn_then ?_
    refine sc_ret ?_
    refine pr_then ?_
    refine pr_one rfl rfl ?_
    exact ⟨rfl, hp.chg⟩
  ·
    have hc := of_decide_eq_false hc
    have hE0 : layE B W row.length from_ mid = 0 := Classical.byContradiction hc
    obtain ⟨hr0, hrl, hrt, hA, hB⟩ := climbs hE0
    refine sc_skip ?_
    refine pn_then ?_
    refine sc_seq ?_
    refine sc_region ?_
    refine st_v (ov_loadN rfl Tryd.underlying23 rfl (sz23.trans rfl) (hp.cells' (t := 5) rfl)) rfl ?_
    refine st_v (ov_move rfl) rfl ?_
    refine st_v (ov_move rfl) rfl ?_
    refine st_call pl28 rfl rfl rfl (Root_walk B W row _ _ from_ _ (h1.chg hp.chg) rfl (by omega) hfr (hp.old hk (by simp)) (hp.old hf (by simp))) ?_
    rintro _ w ⟨rfl, hch⟩
    refine ⟨_, rfl, ?_⟩
    replace hp := hp.call hch
    clear hch
    rw [hr0]
    refine st_v (ov_move rfl) rfl ?_
    refine st_v (ov_extract rfl rfl) rfl ?_
    refine st_v (ov_extract rfl rfl) rfl ?_
    refine st_alloc 14 (hcs hz0) hp rfl zl34 rfl (fun b14 w hp => ?_)
    refine st_storeA 14 hp rfl rfl rfl (by simp [hcs_len]) (sz34.trans (by simp [hcs_len])) (hcs_one _) (fun w hp => ?_)
    refine st_v (ov_assign rfl) rfl ?_
    refine st_nil ?_
    refine pn_then ?_
    refine sc_seq ?_
    refine sc_region ?_
    refine st_v (ov_loadN rfl Tryd.underlying23 rfl (sz23.trans rfl) (hp.cells' (t := 5) rfl)) rfl ?_
    refine st_v (ov_move rfl) rfl ?_
    refine st_v (ov_move rfl) rfl ?_
    refine st_call pl28 rfl rfl rfl (Root_walk B W (layV B W row from_ mid) _ _ mid _ (Rd.own (hp.own 30 _ rfl)) rfl (by omega) hmi (hp.old hk (by simp)) (hp.old hf (by simp))) ?_
    rintro _ w ⟨rfl, hch⟩
    refine ⟨_, rfl, ?_⟩
    replace hp := hp.call hch
    clear hch
    rw [hrt, hrl]
    refine st_v (ov_move rfl) rfl ?_
    refine st_v (ov_extract rfl rfl) rfl ?_
    refine st_v (ov_extract rfl rfl) rfl ?_
    refine st_alloc 16 (hcs hz0) hp rfl zl34 rfl (fun b16 w hp => ?_)
    refine st_storeA 16 hp rfl rfl rfl (by simp [hcs_len]) (sz34.trans (by simp [hcs_len])) (hcs_one _) (fun w hp => ?_)
    refine st_v (ov_assign rfl) rfl ?_
    refine st_nil ?_
    refine pn_then ?_
    refine sc_seq ?_
    refine sc_seq ?_
    refine sc_region ?_
    refine st_v (ov_move rfl) rfl ?_
    refine st_v (v := .bool false) ((ov_neq rfl rfl).is ((by simp))) rfl ?_
    refine st_v (ov_move rfl) rfl ?_
    refine st_on (j := 2) rfl rfl ?_
    refine st_v (ov_move rfl) rfl ?_
    refine st_on (j := 2) rfl rfl ?_
    refine st_v (v := .bool false) ((ov_neq rfl rfl).is ((by simp))) rfl ?_
    refine st_v (ov_pick_f rfl rfl) rfl ?_
    refine st_v (ov_move rfl) rfl ?_
    refine st_on (j := 6) rfl rfl ?_
    refine st_v (ov_loadN rfl Tryd.underlying34 rfl (sz34.trans (by simp [hcs_len])) (hp.cells' (t := 14) rfl)) rfl ?_
    refine st_on (j := 6) rfl rfl ?_
    refine st_v (ov_loadN rfl Tryd.underlying34 rfl (sz34.trans (by simp [hcs_len])) (hp.cells' (t := 16) rfl)) rfl ?_
    refine st_on (j := 6) rfl rfl ?_
    refine st_v (v := .bool false) ((ov_neqA (k := .u8) (g := fun x : UInt8 => (x.toNat : Int))  inj8 Tryd.underlying34 Tryd.underlying5 sz5 gd34 rfl rfl ⟨Subtype.property (p := fun l : List UInt8 => l.length = 32) _, Subtype.property (p := fun l : List UInt8 => l.length = 32) _⟩).is ((by simp))) rfl ?_
    refine st_v (ov_pick_f rfl rfl) rfl ?_
    refine st_nil ?_
    refine pn_then ?_
    refine sc_false rfl ?_
    refine sc_skip ?_
    refine pn_then ?_
    refine sc_seq ?_
    refine sc_region ?_
    refine st_v (ov_loadN rfl Tryd.underlying23 rfl (sz23.trans rfl) (hp.cells' (t := 5) rfl)) rfl ?_
    refine st_v (ov_move rfl) rfl ?_
    refine st_v (ov_move rfl) rfl ?_
    refine st_v (ov_move rfl) rfl ?_
    refine st_call pl27 rfl rfl rfl (Layer_walk B W row _ _ from_ to_ _ (h1.chg hp.chg) rfl (by omega) hfr hto (hp.old hk (by simp)) (hp.old hf (by simp))) ?_
    rintro _ w ⟨g68, rfl, hm68⟩
    refine ⟨_, rfl, ?_⟩
    replace hp := hp.got 68 hm68
    have hc68 := hm68.2
    clear hm68
    refine st_v (ov_move rfl) rfl ?_
    refine st_v (ov_extract rfl rfl) rfl ?_
    refine st_v (ov_extract rfl rfl) rfl ?_
    refine st_v (ov_assign rfl) rfl ?_
    refine st_v (ov_assign rfl) rfl ?_
    refine st_nil ?_
    refine pn_then ?_
    refine sc_seq ?_
    refine sc_region ?_
    refine st_v (ov_loadN rfl Tryd.underlying23 rfl (sz23.trans rfl) (hp.cells' (t := 5) rfl)) rfl ?_
    refine st_v (ov_move rfl) rfl ?_
    refine st_v (ov_move rfl) rfl ?_
    refine st_v (ov_move rfl) rfl ?_
    refine st_call pl27 rfl rfl rfl (Layer_walk B W (layV B W row from_ mid) _ _ mid to_ _ (Rd.own (hp.own 30 _ rfl)) rfl (by omega) hmi hto (hp.old hk (by simp)) (hp.old hf (by simp))) ?_
    rintro _ w ⟨g76, rfl, hm76⟩
    refine ⟨_, rfl, ?_⟩
    replace hp := hp.got 76 hm76
    have hc76 := hm76.2
    clear hm76
    refine st_v (ov_move rfl) rfl ?_
    refine st_v (ov_extract rfl rfl) rfl ?_
    refine st_v (ov_extract rfl rfl) rfl ?_
    refine st_v (ov_assign rfl) rfl ?_
    refine st_v (ov_assign rfl) rfl ?_
    refine st_nil ?_
    refine pn_then ?_
    refine sc_seq ?_
    refine sc_seq ?_
    refine sc_region ?_
    refine st_v (ov_move rfl) rfl ?_
    refine st_v (ov_move rfl) rfl ?_
    refine st_v (ov_lss rfl rfl) rfl ?_
    refine st_nil ?_
    refine pn_then ?_
    refine sc_cond rfl (fun hc => ?_) (fun hc => ?_)
    ·
      have hc := of_decide_eq_true hc
      obtain ⟨e1, e2⟩ := hA to_ hc
      rw [e1, e2]
      refine sc_seq ?_
      refine sc_region ?_
      refine st_v (ov_move rfl) rfl ?_
      refine st_v (v := .bool true) ((ov_eql rfl rfl).is ((by simp))) rfl ?_
      refine st_v (ov_move rfl) rfl ?_
      refine st_on (j := 2) rfl rfl ?_
      refine st_v (ov_move rfl) rfl ?_
      refine st_on (j := 2) rfl rfl ?_
      refine st_v (ov_len rfl Tryd.underlying26 rfl) rfl ?_
      refine st_on (j := 2) rfl rfl ?_
      refine st_v (v := .bool true) ((ov_eql rfl rfl).is ((by simp))) rfl ?_
      refine st_v (ov_pick_t rfl rfl) rfl ?_
      refine st_v (ov_assign rfl) rfl ?_
      refine st_nil ?_
      refine pn_then ?_
      refine sc_ret ?_
      refine pr_then ?_
      refine pr_one rfl rfl ?_
      exact ⟨rfl, hp.chg⟩
    ·
      have hc := of_decide_eq_false hc
      obtain ⟨e1, e2⟩ := hB to_ (by omega)
      rw [e1, e2]
      rw [e2] at hp hc76
      refine sc_skip ?_
      refine pn_then ?_
      refine sc_seq ?_
      refine sc_region ?_
      refine st_v (ov_move rfl) rfl ?_
      refine st_v (ov_move rfl) rfl ?_
      refine st_v (v := .bool true) ((ov_eql rfl rfl).is ((by simp))) rfl ?_
      refine st_v (ov_move rfl) rfl ?_
      refine st_on (j := 3) rfl rfl ?_
      refine st_v (ov_move rfl) rfl ?_
      refine st_on (j := 3) rfl rfl ?_
      refine st_v (ov_move rfl) rfl ?_
      refine st_on (j := 3) rfl rfl ?_
      refine st_call pl19 rfl rfl rfl (rowsame_walk (layV B W row from_ to_) _ _ _ _ _ (Rd.own (hp.own 68 _ rfl)) (Rd.own (hp.own 76 _ rfl)) rfl rfl (by have := layV_len B W row from_ to_; omega)) ?_
      rintro _ w ⟨rfl, hch⟩
      refine ⟨_, rfl, ?_⟩
      replace hp := hp.call hch
      clear hch
      refine st_v (ov_pick_t rfl rfl) rfl ?_
      refine st_v (ov_assign rfl) rfl ?_
      refine st_nil ?_
      refine pn_then ?_
      refine sc_ret ?_
      refine pr_one rfl rfl ?_
      exact ⟨rfl, hp.chg⟩

end Go.Proofs.YtjdolgfhcjnniaaDoor
