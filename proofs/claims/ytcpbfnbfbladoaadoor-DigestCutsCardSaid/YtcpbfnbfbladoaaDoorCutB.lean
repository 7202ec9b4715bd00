/-
  The walk of the law DigestCuts.
-/
import Derived.Test.YtcpbfnbfbladoaaDoorCutA
import Derived.Test.YtcpbfnbfbladoaaDoorBytesA
namespace Go.Proofs.YtcpbfnbfbladoaaDoor
open Go Go.RowKit

set_option maxRecDepth 100000 in
theorem law_cuts (B W : Int) (h a : List UInt8) (hh : h.length = 32) (ao : Option Addr) (ca : Nat) (w0 : World) (h1 : Rd w0 ao (a.map B8)) (hca : a.length ≤ ca) (hz : a.length ≤ 140737488351232) (hk : Cells w0 0 0 (kL.map B32)) (hf : Cells w0 1 0 (fL.map B32)) :
    Calls Tryd.prog 6 #[sca B W, .agg (h.map B8).toArray, .slice ao a.length ca] w0 fun e w' => e = .returned (.bool true) ∧ Chg [] w0 w' := by
  refine calls_in Tryd.func6 Tryd.ntmps6 rfl rfl ?_
  have hp := Hp.start w0
  have hcl2 := cutL_len (sumOf_len a) B W
  have hsl := sumOf_len a
  have hcl1 := cutL_len hh B W
  refine sc_seq ?_
  refine sc_region ?_
  refine st_box 3 hp rfl rfl rfl (fun b3 w hp => ?_)
  refine st_box 4 hp rfl rfl rfl (fun b4 w hp => ?_)
  refine st_v (ov_assign rfl) rfl ?_
  refine st_nil ?_
  refine pn_then ?_
  refine sc_seq ?_
  refine sc_seq ?_
  refine sc_region ?_
  refine st_v (ov_move rfl) rfl ?_
  refine st_v (ov_len rfl Tryd.underlying33 rfl) rfl ?_
  refine st_v (ov_gtr rfl rfl) rfl ?_
  refine st_nil ?_
  refine pn_then ?_
  refine sc_cond rfl (fun hc => ?_) (fun hc => ?_)
  · exact absurd hc (by simp; omega)
  skip
  refine sc_skip ?_
  refine pn_then ?_
  refine sc_seq ?_
  refine sc_region ?_
  refine st_v (ov_loadN rfl Tryd.underlying44 rfl (sz44.trans rfl) (hp.cells' (t := 3) rfl)) rfl ?_
  refine st_v (ov_loadN rfl Tryd.underlying39 rfl (sz39.trans (by simp [*])) (hp.cells' (t := 4) rfl)) rfl ?_
  refine st_call pl21 rfl rfl rfl (cutr_walk B W h hh _) ?_
  rintro _ w ⟨rfl, hch⟩
  refine ⟨_, rfl, ?_⟩
  replace hp := hp.call hch
  clear hch
  refine st_v (ov_move rfl) rfl ?_
  refine st_v (ov_extract rfl rfl) rfl ?_
  refine st_v (ov_extract rfl rfl) rfl ?_
  refine st_alloc 7 ((List.replicate 32 (0 : UInt8)).map B8) hp rfl zl39 rfl (fun b7 w hp => ?_)
  refine st_storeA 7 hp rfl rfl rfl (by simp [*]) (sz39.trans (by simp [*])) (one_all _) (fun w hp => ?_)
  refine st_v (ov_assign rfl) rfl ?_
  refine st_nil ?_
  refine pn_then ?_
  refine sc_seq ?_
  refine sc_region ?_
  refine st_v (ov_loadN rfl Tryd.underlying44 rfl (sz44.trans rfl) (hp.cells' (t := 3) rfl)) rfl ?_
  refine st_v (ov_loadN rfl Tryd.underlying39 rfl (sz39.trans (by simp [*])) (hp.cells' (t := 4) rfl)) rfl ?_
  refine st_call pl22 rfl rfl rfl (cut_walk B W h hh _) ?_
  rintro _ w ⟨rfl, hch⟩
  refine ⟨_, rfl, ?_⟩
  replace hp := hp.call hch
  clear hch
  refine st_v (ov_move rfl) rfl ?_
  refine st_v (ov_extract rfl rfl) rfl ?_
  refine st_v (ov_extract rfl rfl) rfl ?_
  refine st_alloc 9 ((List.replicate 32 (0 : UInt8)).map B8) hp rfl zl39 rfl (fun b9 w hp => ?_)
  refine st_storeA 9 hp rfl rfl rfl (by simp [*]) (sz39.trans (by simp [*])) (one_all _) (fun w hp => ?_)
  refine st_v (ov_assign rfl) rfl ?_
  refine st_nil ?_
  refine pn_then ?_
  refine sc_seq ?_
  refine sc_seq ?_
  refine sc_region ?_
  refine st_v (ov_move rfl) rfl ?_
  refine st_v (ov_move rfl) rfl ?_
  refine st_v (ov_neq rfl rfl) rfl ?_
  refine st_v (ov_move rfl) rfl ?_
  refine st_split (j := 30) rfl (fun hb => ?_) (fun hb => ?_)
  ·
    have hb := of_decide_eq_true hb
    refine st_off (j := 3) rfl rfl rfl rfl ?_
    refine st_off (j := 3) rfl rfl rfl rfl ?_
    refine st_off (j := 3) rfl rfl rfl rfl ?_
    refine st_v (ov_pick_t rfl rfl) rfl ?_
    refine st_nil ?_
    refine pn_then ?_
    refine sc_true rfl ?_
    refine sc_seq ?_
    refine sc_region ?_
    refine st_v (ov_assign rfl) rfl ?_
    refine st_nil ?_
    refine pn_then ?_
    refine sc_ret ?_
    refine pr_then ?_
    refine pr_one rfl rfl ?_
    exact absurd rfl hb
  ·
    have hb := of_decide_eq_false hb
    refine st_on (j := 3) rfl rfl ?_
    refine st_v (ov_loadN rfl Tryd.underlying39 rfl (sz39.trans (by simp [*])) (hp.cells' (t := 9) rfl)) rfl ?_
    refine st_on (j := 3) rfl rfl ?_
    refine st_v (ov_loadN rfl Tryd.underlying39 rfl (sz39.trans (by simp [*])) (hp.cells' (t := 7) rfl)) rfl ?_
    refine st_on (j := 3) rfl rfl ?_
    refine st_v (ov_neqA (k := .u8) (g := fun x : UInt8 => (x.toNat : Int)) (xs := cutL B W h) (ys := cutL B W h) inj8 Tryd.underlying39 Tryd.underlying5 sz5 gd39 rfl rfl (by simp [*])) rfl ?_
    refine st_v (ov_pick_f rfl rfl) rfl ?_
    refine st_nil ?_
    refine pn_then ?_
    refine sc_cond rfl (fun hc => ?_) (fun hc => ?_)
    · exact absurd hc (by simp)
    skip
    refine sc_skip ?_
    refine pn_then ?_
    refine sc_seq ?_
    refine sc_region ?_
    refine st_v (ov_move rfl) rfl ?_
    refine st_call pl18 rfl rfl rfl (copied_walk a ao ca _ (h1.chg hp.chg) (by omega)) ?_
    rintro _ w ⟨g11, rfl, hmade⟩
    refine ⟨_, rfl, ?_⟩
    have hcg : a.length ≤ g11.cap := Made.cap hmade
    replace hp := hp.call_made 11 hmade
    clear hmade
    refine st_v (ov_assign rfl) rfl ?_
    refine st_nil ?_
    refine pn_then ?_
    refine sc_seq ?_
    refine sc_region ?_
    refine st_v (ov_loadN rfl Tryd.underlying44 rfl (sz44.trans rfl) (hp.cells' (t := 3) rfl)) rfl ?_
    refine st_v (ov_move rfl) rfl ?_
    refine st_call pl23 rfl rfl rfl (hash_walk B W a _ _ _ (Rd.own (hp.own 11 _ rfl)) hcg hz (hp.old hk (by simp)) (hp.old hf (by simp))) ?_
    rintro _ w ⟨rfl, hch⟩
    refine ⟨_, rfl, ?_⟩
    replace hp := hp.call hch
    clear hch
    refine st_v (ov_move rfl) rfl ?_
    refine st_v (ov_extract rfl rfl) rfl ?_
    refine st_v (ov_extract rfl rfl) rfl ?_
    refine st_storeA 9 hp rfl rfl rfl (by simp [*]) (sz39.trans (by simp [*])) (one_all _) (fun w hp => ?_)
    refine st_v (ov_assign rfl) rfl ?_
    refine st_nil ?_
    refine pn_then ?_
    refine sc_seq ?_
    refine sc_region ?_
    refine st_v (ov_loadN rfl Tryd.underlying44 rfl (sz44.trans rfl) (hp.cells' (t := 3) rfl)) rfl ?_
    refine st_v (ov_move rfl) rfl ?_
    refine st_call pl24 rfl rfl rfl (hashr_walk B W a _ _ _ (h1.chg hp.chg) hca hz) ?_
    rintro _ w ⟨rfl, hch⟩
    refine ⟨_, rfl, ?_⟩
    replace hp := hp.call hch
    clear hch
    refine st_v (ov_move rfl) rfl ?_
    refine st_v (ov_extract rfl rfl) rfl ?_
    refine st_v (ov_extract rfl rfl) rfl ?_
    refine st_storeA 7 hp rfl rfl rfl (by simp [*]) (sz39.trans (by simp [*])) (one_all _) (fun w hp => ?_)
    refine st_v (ov_assign rfl) rfl ?_
    refine st_nil ?_
    refine pn_then ?_
    refine sc_seq ?_
    refine sc_region ?_
    refine st_v (ov_move rfl) rfl ?_
    refine st_v (ov_move rfl) rfl ?_
    refine st_v (ov_eql rfl rfl) rfl ?_
    refine st_v (ov_move rfl) rfl ?_
    refine st_split (j := 52) rfl (fun hb => ?_) (fun hb => ?_)
    ·
      have hb := of_decide_eq_true hb
      refine st_on (j := 3) rfl rfl ?_
      refine st_v (ov_loadN rfl Tryd.underlying39 rfl (sz39.trans (by simp [*])) (hp.cells' (t := 9) rfl)) rfl ?_
      refine st_on (j := 3) rfl rfl ?_
      refine st_v (ov_loadN rfl Tryd.underlying39 rfl (sz39.trans (by simp [*])) (hp.cells' (t := 7) rfl)) rfl ?_
      refine st_on (j := 3) rfl rfl ?_
      refine st_v (ov_eqlA (k := .u8) (g := fun x : UInt8 => (x.toNat : Int)) (xs := cutL B W (sumOf a)) (ys := cutL B W (sumOf a)) inj8 Tryd.underlying39 Tryd.underlying5 sz5 gd39 rfl rfl (by simp [*])) rfl ?_
      refine st_v (ov_pick_t rfl rfl) rfl ?_
      refine st_v (ov_move rfl) rfl ?_
      refine st_split (j := 57) rfl (fun hb => ?_) (fun hb => ?_)
      ·
        have hb := of_decide_eq_true hb
        refine st_on (j := 8) rfl rfl ?_
        refine st_v (ov_move rfl) rfl ?_
        refine st_on (j := 8) rfl rfl ?_
        refine st_v (ov_move rfl) rfl ?_
        refine st_on (j := 8) rfl rfl ?_
        refine st_call pl25 rfl rfl rfl (same_walk a a _ _ _ _ _ (Rd.own (hp.own 11 _ rfl)) (h1.chg hp.chg) (by omega)) ?_
        rintro _ w ⟨rfl, hch⟩
        refine ⟨_, rfl, ?_⟩
        replace hp := hp.call hch
        clear hch
        refine st_v (ov_pick_t rfl rfl) rfl ?_
        refine st_v (ov_assign rfl) rfl ?_
        refine st_nil ?_
        refine pn_then ?_
        refine sc_ret ?_
        refine pr_one rfl rfl ?_
        exact ⟨by simp, hp.chg⟩
      ·
        have hb := of_decide_eq_false hb
        refine st_off (j := 8) rfl rfl rfl rfl ?_
        refine st_off (j := 8) rfl rfl rfl rfl ?_
        refine st_off (j := 8) rfl rfl rfl rfl ?_
        refine st_v (ov_pick_f rfl rfl) rfl ?_
        refine st_v (ov_assign rfl) rfl ?_
        refine st_nil ?_
        refine pn_then ?_
        refine sc_ret ?_
        refine pr_one rfl rfl ?_
        exact absurd rfl hb
    ·
      have hb := of_decide_eq_false hb
      refine st_off (j := 3) rfl rfl rfl rfl ?_
      refine st_off (j := 3) rfl rfl rfl rfl ?_
      refine st_off (j := 3) rfl rfl rfl rfl ?_
      refine st_v (ov_pick_f rfl rfl) rfl ?_
      refine st_v (ov_move rfl) rfl ?_
      refine st_off (j := 8) rfl rfl rfl rfl ?_
      refine st_off (j := 8) rfl rfl rfl rfl ?_
      refine st_off (j := 8) rfl rfl rfl rfl ?_
      refine st_v (ov_pick_f rfl rfl) rfl ?_
      refine st_v (ov_assign rfl) rfl ?_
      refine st_nil ?_
      refine pn_then ?_
      refine sc_ret ?_
      refine pr_one rfl rfl ?_
      exact absurd rfl hb

end Go.Proofs.YtcpbfnbfbladoaaDoor
