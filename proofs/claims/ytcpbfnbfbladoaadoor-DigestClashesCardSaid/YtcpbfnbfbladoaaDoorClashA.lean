/-
  The walks of both Clashes, of the law DigestClashes.
-/
import Derived.Test.YtcpbfnbfbladoaaDoorCutA
import Derived.Test.YtcpbfnbfbladoaaDoorListA
import Derived.Test.YtcpbfnbfbladoaaDoorHexB
namespace Go.Proofs.YtcpbfnbfbladoaaDoor
open Go Go.RowKit

/-- Unlike texts of one digest. -/
def clashL (B W : Int) (a b : List UInt8) : Bool := decide (goodNo B W = 0) && (!decide (a = b) && decide (cutL B W (sumOf a) = cutL B W (sumOf b)))
theorem clash_self (B W : Int) (a : List UInt8) : clashL B W a a = false := by simp [clashL]
theorem clash_comm (B W : Int) (a b : List UInt8) : clashL B W a b = clashL B W b a := by
  unfold clashL
  rw [show decide (a = b) = decide (b = a) from decide_eq_decide.2 eq_comm, show decide (cutL B W (sumOf a) = cutL B W (sumOf b)) = decide (cutL B W (sumOf b) = cutL B W (sumOf a)) from decide_eq_decide.2 eq_comm]

set_option maxRecDepth 100000 in
theorem clashr_walk (B W : Int) (a b : List UInt8) {na nb : Nat} (ao bo : Option Addr) (ca cb : Nat) (w0 : World) (h1 : Rd w0 ao (a.map B8)) (h2 : Rd w0 bo (b.map B8)) (ha : a.length = na) (hb : b.length = nb) (hca : a.length ≤ ca) (hcb : b.length ≤ cb) (hza : a.length ≤ 140737488351232) (hzb : b.length ≤ 140737488351232) :
    Calls Tryd.prog 37 #[sca B W, .slice ao na ca, .slice bo nb cb] w0 fun e w' => e = .returned (.bool (clashL B W a b)) ∧ Chg [] w0 w' := by
  refine calls_in Tryd.func37 Tryd.ntmps37 rfl rfl ?_
  have hp := Hp.start w0
  subst ha hb
  have hla := cutL_len (sumOf_len a) B W
  have hlb := cutL_len (sumOf_len b) B W
  refine sc_seq ?_
  refine sc_region ?_
  refine st_box 3 hp rfl rfl rfl (fun b3 w hp => ?_)
  refine st_v (ov_assign rfl) rfl ?_
  refine st_nil ?_
  refine pn_then ?_
  refine sc_seq ?_
  refine sc_region ?_
  refine st_v (ov_loadN rfl Tryd.underlying44 rfl (sz44.trans rfl) (hp.cells' (t := 3) rfl)) rfl ?_
  refine st_v (ov_move rfl) rfl ?_
  refine st_call pl24 rfl rfl rfl (hashr_walk B W a _ _ _ (h1.chg hp.chg) hca hza) ?_
  rintro _ w ⟨rfl, hch⟩
  refine ⟨_, rfl, ?_⟩
  replace hp := hp.call hch
  clear hch
  refine st_v (ov_move rfl) rfl ?_
  refine st_v (ov_extract rfl rfl) rfl ?_
  refine st_v (ov_extract rfl rfl) rfl ?_
  refine st_alloc 7 ((List.replicate 32 (0 : UInt8)).map B8) hp rfl zl39 rfl (fun b7 w hp => ?_)
  refine st_storeA 7 hp rfl rfl rfl (by simp [hla]) (sz39.trans (by simp [hla])) (one_all _) (fun w hp => ?_)
  refine st_v (ov_assign rfl) rfl ?_
  refine st_nil ?_
  refine pn_then ?_
  refine sc_seq ?_
  refine sc_region ?_
  refine st_v (ov_loadN rfl Tryd.underlying44 rfl (sz44.trans rfl) (hp.cells' (t := 3) rfl)) rfl ?_
  refine st_v (ov_move rfl) rfl ?_
  refine st_call pl24 rfl rfl rfl (hashr_walk B W b _ _ _ (h2.chg hp.chg) hcb hzb) ?_
  rintro _ w ⟨rfl, hch⟩
  refine ⟨_, rfl, ?_⟩
  replace hp := hp.call hch
  clear hch
  refine st_v (ov_move rfl) rfl ?_
  refine st_v (ov_extract rfl rfl) rfl ?_
  refine st_v (ov_extract rfl rfl) rfl ?_
  refine st_alloc 9 ((List.replicate 32 (0 : UInt8)).map B8) hp rfl zl39 rfl (fun b9 w hp => ?_)
  refine st_storeA 9 hp rfl rfl rfl (by simp [hlb]) (sz39.trans (by simp [hlb])) (one_all _) (fun w hp => ?_)
  refine st_v (ov_assign rfl) rfl ?_
  refine st_nil ?_
  refine pn_then ?_
  refine sc_seq ?_
  refine sc_region ?_
  refine st_v (ov_move rfl) rfl ?_
  refine st_v (ov_move rfl) rfl ?_
  refine st_call pl64 rfl rfl rfl (samer_walk a b _ _ _ _ _ (h1.chg hp.chg) (h2.chg hp.chg) (by omega)) ?_
  rintro _ w ⟨rfl, hch⟩
  refine ⟨_, rfl, ?_⟩
  replace hp := hp.call hch
  clear hch
  refine st_v (ov_assign rfl) rfl ?_
  refine st_nil ?_
  refine pn_then ?_
  refine sc_seq ?_
  refine sc_region ?_
  refine st_v (ov_move rfl) rfl ?_
  refine st_v (ov_eql rfl rfl) rfl ?_
  refine st_v (ov_move rfl) rfl ?_
  refine st_split (j := 29) rfl (fun hb => ?_) (fun hb => ?_)
  ·
    have hb := of_decide_eq_true hb
    refine st_on (j := 2) rfl rfl ?_
    refine st_v (ov_move rfl) rfl ?_
    refine st_on (j := 2) rfl rfl ?_
    refine st_v (ov_not rfl) rfl ?_
    refine st_v (ov_pick_t rfl rfl) rfl ?_
    refine st_v (ov_move rfl) rfl ?_
    refine st_split (j := 33) rfl (fun hb => ?_) (fun hb => ?_)
    ·
      refine st_on (j := 6) rfl rfl ?_
      refine st_v (ov_loadN rfl Tryd.underlying39 rfl (sz39.trans (by simp [hla])) (hp.cells' (t := 7) rfl)) rfl ?_
      refine st_on (j := 6) rfl rfl ?_
      refine st_v (ov_loadN rfl Tryd.underlying39 rfl (sz39.trans (by simp [hlb])) (hp.cells' (t := 9) rfl)) rfl ?_
      refine st_on (j := 6) rfl rfl ?_
      refine st_v (ov_eqlA (k := .u8) (g := fun x : UInt8 => (x.toNat : Int))  inj8 Tryd.underlying39 Tryd.underlying5 sz5 gd39 rfl rfl (by simp [hla, hlb])) rfl ?_
      refine st_v (ov_pick_t rfl rfl) rfl ?_
      refine st_v (ov_assign rfl) rfl ?_
      refine st_nil ?_
      refine pn_then ?_
      refine sc_ret ?_
      refine pr_one rfl rfl ?_
      exact ⟨by simp_all [clashL], hp.chg⟩
    ·
      refine st_off (j := 6) rfl rfl rfl rfl ?_
      refine st_off (j := 6) rfl rfl rfl rfl ?_
      refine st_off (j := 6) rfl rfl rfl rfl ?_
      refine st_v (ov_pick_f rfl rfl) rfl ?_
      refine st_v (ov_assign rfl) rfl ?_
      refine st_nil ?_
      refine pn_then ?_
      refine sc_ret ?_
      refine pr_one rfl rfl ?_
      exact ⟨by simp_all [clashL], hp.chg⟩
  ·
    have hb := of_decide_eq_false hb
    refine st_off (j := 2) rfl rfl rfl rfl ?_
    refine st_off (j := 2) rfl rfl rfl rfl ?_
    refine st_v (ov_pick_f rfl rfl) rfl ?_
    refine st_v (ov_move rfl) rfl ?_
    refine st_off (j := 6) rfl rfl rfl rfl ?_
    refine st_off (j := 6) rfl rfl rfl rfl ?_
    refine st_off (j := 6) rfl rfl rfl rfl ?_
    refine st_v (ov_pick_f rfl rfl) rfl ?_
    refine st_v (ov_assign rfl) rfl ?_
    refine st_nil ?_
    refine pn_then ?_
    refine sc_ret ?_
    refine pr_one rfl rfl ?_
    exact ⟨by simp_all [clashL], hp.chg⟩

set_option maxRecDepth 100000 in
theorem clash_walk (B W : Int) (a b : List UInt8) {na nb : Nat} (ao bo : Option Addr) (ca cb : Nat) (w0 : World) (h1 : Rd w0 ao (a.map B8)) (h2 : Rd w0 bo (b.map B8)) (ha : a.length = na) (hb : b.length = nb) (hca : a.length ≤ ca) (hcb : b.length ≤ cb) (hza : a.length ≤ 140737488351232) (hzb : b.length ≤ 140737488351232) (hk : Cells w0 0 0 (kL.map B32)) (hf : Cells w0 1 0 (fL.map B32)) :
    Calls Tryd.prog 38 #[sca B W, .slice ao na ca, .slice bo nb cb] w0 fun e w' => e = .returned (.bool (clashL B W a b)) ∧ Chg [] w0 w' := by
  refine calls_in Tryd.func38 Tryd.ntmps38 rfl rfl ?_
  have hp := Hp.start w0
  subst ha hb
  have hla := cutL_len (sumOf_len a) B W
  have hlb := cutL_len (sumOf_len b) B W
  refine sc_seq ?_
  refine sc_region ?_
  refine st_box 3 hp rfl rfl rfl (fun b3 w hp => ?_)
  refine st_v (ov_assign rfl) rfl ?_
  refine st_nil ?_
  refine pn_then ?_
  refine sc_seq ?_
  refine sc_seq ?_
  refine sc_region ?_
  refine st_v (ov_loadN rfl Tryd.underlying44 rfl (sz44.trans rfl) (hp.cells' (t := 3) rfl)) rfl ?_
  refine st_call pl59 rfl rfl rfl (good_walk _ _ _) ?_
  rintro _ w ⟨rfl, hch⟩
  refine ⟨_, rfl, ?_⟩
  replace hp := hp.call hch
  clear hch
  refine st_v (ov_neq rfl rfl) rfl ?_
  refine st_v (ov_move rfl) rfl ?_
  refine st_split (j := 14) rfl (fun hb => ?_) (fun hb => ?_)
  ·
    have hb := of_decide_eq_true hb
    refine st_off (j := 3) rfl rfl rfl rfl ?_
    refine st_off (j := 3) rfl rfl rfl rfl ?_
    refine st_off (j := 3) rfl rfl rfl rfl ?_
    refine st_off (j := 3) rfl rfl rfl rfl ?_
    refine st_off (j := 3) rfl rfl rfl rfl ?_
    refine st_v (ov_pick_t rfl rfl) rfl ?_
    refine st_nil ?_
    refine pn_then ?_
    refine sc_true rfl ?_
    refine sc_seq ?_
    refine sc_region ?_
    refine st_v (ov_assign rfl) rfl ?_
    refine st_nil ?_
    refine pn_then ?_
    refine sc_ret ?_
    refine pr_then ?_
    refine pr_one rfl rfl ?_
    exact ⟨by simp_all [clashL], hp.chg⟩
  ·
    have hb := of_decide_eq_false hb
    refine st_on (j := 3) rfl rfl ?_
    refine st_v (ov_move rfl) rfl ?_
    refine st_on (j := 3) rfl rfl ?_
    refine st_v (ov_convBS Tryd.underlying33 Tryd.underlying5 Tryd.underlying9 rfl (h1.chg hp.chg) rfl) rfl ?_
    refine st_on (j := 3) rfl rfl ?_
    refine st_v (ov_move rfl) rfl ?_
    refine st_on (j := 3) rfl rfl ?_
    refine st_v (ov_convBS Tryd.underlying33 Tryd.underlying5 Tryd.underlying9 rfl (h2.chg hp.chg) rfl) rfl ?_
    refine st_on (j := 3) rfl rfl ?_
    refine st_v (ov_eqlStr rfl rfl) rfl ?_
    refine st_v (ov_pick_f rfl rfl) rfl ?_
    refine st_nil ?_
    refine pn_then ?_
    refine sc_cond rfl (fun hc => ?_) (fun hc => ?_)
    ·
      have hc := of_decide_eq_true hc
      refine sc_seq ?_
      refine sc_region ?_
      refine st_v (ov_assign rfl) rfl ?_
      refine st_nil ?_
      refine pn_then ?_
      refine sc_ret ?_
      refine pr_then ?_
      refine pr_one rfl rfl ?_
      exact ⟨by simp_all [clashL], hp.chg⟩
    ·
      have hc := of_decide_eq_false hc
      refine sc_skip ?_
      refine pn_then ?_
      refine sc_seq ?_
      refine sc_region ?_
      refine st_v (ov_loadN rfl Tryd.underlying44 rfl (sz44.trans rfl) (hp.cells' (t := 3) rfl)) rfl ?_
      refine st_v (ov_move rfl) rfl ?_
      refine st_call pl23 rfl rfl rfl (hash_walk B W a _ _ _ (h1.chg hp.chg) hca hza (hp.old hk (by simp)) (hp.old hf (by simp))) ?_
      rintro _ w ⟨rfl, hch⟩
      refine ⟨_, rfl, ?_⟩
      replace hp := hp.call hch
      clear hch
      refine st_v (ov_move rfl) rfl ?_
      refine st_v (ov_extract rfl rfl) rfl ?_
      refine st_v (ov_extract rfl rfl) rfl ?_
      refine st_alloc 7 ((List.replicate 32 (0 : UInt8)).map B8) hp rfl zl39 rfl (fun b7 w hp => ?_)
      refine st_storeA 7 hp rfl rfl rfl (by simp [hla]) (sz39.trans (by simp [hla])) (one_all _) (fun w hp => ?_)
      refine st_v (ov_assign rfl) rfl ?_
      refine st_nil ?_
      refine pn_then ?_
      refine sc_seq ?_
      refine sc_region ?_
      refine st_v (ov_loadN rfl Tryd.underlying44 rfl (sz44.trans rfl) (hp.cells' (t := 3) rfl)) rfl ?_
      refine st_v (ov_move rfl) rfl ?_
      refine st_call pl23 rfl rfl rfl (hash_walk B W b _ _ _ (h2.chg hp.chg) hcb hzb (hp.old hk (by simp)) (hp.old hf (by simp))) ?_
      rintro _ w ⟨rfl, hch⟩
      refine ⟨_, rfl, ?_⟩
      replace hp := hp.call hch
      clear hch
      refine st_v (ov_move rfl) rfl ?_
      refine st_v (ov_extract rfl rfl) rfl ?_
      refine st_v (ov_extract rfl rfl) rfl ?_
      refine st_alloc 9 ((List.replicate 32 (0 : UInt8)).map B8) hp rfl zl39 rfl (fun b9 w hp => ?_)
      refine st_storeA 9 hp rfl rfl rfl (by simp [hlb]) (sz39.trans (by simp [hlb])) (one_all _) (fun w hp => ?_)
      refine st_v (ov_assign rfl) rfl ?_
      refine st_nil ?_
      refine pn_then ?_
      refine sc_seq ?_
      refine sc_region ?_
      refine st_v (ov_loadN rfl Tryd.underlying39 rfl (sz39.trans (by simp [hla])) (hp.cells' (t := 7) rfl)) rfl ?_
      refine st_v (ov_loadN rfl Tryd.underlying39 rfl (sz39.trans (by simp [hlb])) (hp.cells' (t := 9) rfl)) rfl ?_
      refine st_v (ov_eqlA (k := .u8) (g := fun x : UInt8 => (x.toNat : Int))  inj8 Tryd.underlying39 Tryd.underlying5 sz5 gd39 rfl rfl (by simp [hla, hlb])) rfl ?_
      refine st_v (ov_assign rfl) rfl ?_
      refine st_nil ?_
      refine pn_then ?_
      refine sc_ret ?_
      refine pr_one rfl rfl ?_
      exact ⟨by simp_all [clashL], hp.chg⟩

set_option maxRecDepth 100000 in
theorem law_clashes (B W : Int) (a b : List UInt8) (ao bo : Option Addr) (ca cb : Nat) (w0 : World) (h1 : Rd w0 ao (a.map B8)) (h2 : Rd w0 bo (b.map B8)) (hca : a.length ≤ ca) (hcb : b.length ≤ cb) (hza : a.length ≤ 140737488351232) (hzb : b.length ≤ 140737488351232) (hk : Cells w0 0 0 (kL.map B32)) (hf : Cells w0 1 0 (fL.map B32)) :
    Calls Tryd.prog 8 #[sca B W, .slice ao a.length ca, .slice bo b.length cb] w0 fun e w' => e = .returned (.bool true) ∧ Chg [] w0 w' := by
  refine calls_in Tryd.func8 Tryd.ntmps8 rfl rfl ?_
  have hp := Hp.start w0
  refine sc_seq ?_
  refine sc_region ?_
  refine st_box 3 hp rfl rfl rfl (fun b3 w hp => ?_)
  refine st_v (ov_assign rfl) rfl ?_
  refine st_nil ?_
  refine pn_then ?_
  refine sc_seq ?_
  refine sc_seq ?_
  refine sc_region ?_
  refine st_v (ov_move rfl) rfl ?_
  refine st_v (ov_len rfl Tryd.underlying33 rfl) rfl ?_
  refine st_v (v := .bool false) ((ov_gtr rfl rfl).is (congrArg Value.bool (decide_eq_false (by omega)))) rfl ?_
  refine st_v (ov_move rfl) rfl ?_
  refine st_on (j := 3) rfl rfl ?_
  refine st_v (ov_move rfl) rfl ?_
  refine st_on (j := 3) rfl rfl ?_
  refine st_v (ov_len rfl Tryd.underlying33 rfl) rfl ?_
  refine st_on (j := 3) rfl rfl ?_
  refine st_v (v := .bool false) ((ov_gtr rfl rfl).is (congrArg Value.bool (decide_eq_false (by omega)))) rfl ?_
  refine st_v (ov_pick_f rfl rfl) rfl ?_
  refine st_nil ?_
  refine pn_then ?_
  refine sc_false rfl ?_
  refine sc_skip ?_
  refine pn_then ?_
  refine sc_seq ?_
  refine sc_region ?_
  refine st_v (ov_loadN rfl Tryd.underlying44 rfl (sz44.trans rfl) (hp.cells' (t := 3) rfl)) rfl ?_
  refine st_v (ov_move rfl) rfl ?_
  refine st_v (ov_move rfl) rfl ?_
  refine st_call pl37 rfl rfl rfl (clashr_walk B W a b _ _ _ _ _ (h1.chg hp.chg) (h2.chg hp.chg) rfl rfl hca hcb (by first | omega | (simp; done)) (by first | omega | (simp; done))) ?_
  rintro _ w ⟨rfl, hch⟩
  refine ⟨_, rfl, ?_⟩
  replace hp := hp.call hch
  clear hch
  refine st_v (ov_assign rfl) rfl ?_
  refine st_nil ?_
  refine pn_then ?_
  refine sc_seq ?_
  refine sc_region ?_
  refine st_v (ov_move rfl) rfl ?_
  refine st_call pl18 rfl rfl rfl (copied2_walk a _ _ _ (h1.chg hp.chg) (by first | rfl | omega | (simp; done) | (simp; omega) | (simp [*]; omega)) (by omega)) ?_
  rintro _ w ⟨g28, rfl, hm28⟩
  refine ⟨_, rfl, ?_⟩
  replace hp := hp.got 28 hm28
  have hc28 := hm28.2
  clear hm28
  refine st_v (ov_assign rfl) rfl ?_
  refine st_nil ?_
  refine pn_then ?_
  refine sc_seq ?_
  refine sc_region ?_
  refine st_v (ov_move rfl) rfl ?_
  refine st_call pl18 rfl rfl rfl (copied2_walk b _ _ _ (h2.chg hp.chg) (by first | rfl | omega | (simp; done) | (simp; omega) | (simp [*]; omega)) (by omega)) ?_
  rintro _ w ⟨g30, rfl, hm30⟩
  refine ⟨_, rfl, ?_⟩
  replace hp := hp.got 30 hm30
  have hc30 := hm30.2
  clear hm30
  refine st_v (ov_assign rfl) rfl ?_
  refine st_nil ?_
  refine pn_then ?_
  refine sc_seq ?_
  refine sc_region ?_
  refine st_v (ov_loadN rfl Tryd.underlying44 rfl (sz44.trans rfl) (hp.cells' (t := 3) rfl)) rfl ?_
  refine st_v (ov_move rfl) rfl ?_
  refine st_v (ov_move rfl) rfl ?_
  refine st_call pl38 rfl rfl rfl (clash_walk B W a b _ _ _ _ _ (Rd.own (hp.own 28 _ rfl)) (Rd.own (hp.own 30 _ rfl)) rfl rfl (gcap1 hc28) (gcap1 hc30) (by first | omega | (simp; done)) (by first | omega | (simp; done)) (hp.old hk (by simp)) (hp.old hf (by simp))) ?_
  rintro _ w ⟨rfl, hch⟩
  refine ⟨_, rfl, ?_⟩
  replace hp := hp.call hch
  clear hch
  refine st_v (ov_assign rfl) rfl ?_
  refine st_nil ?_
  refine pn_then ?_
  refine sc_seq ?_
  refine sc_region ?_
  refine st_v (ov_loadN rfl Tryd.underlying44 rfl (sz44.trans rfl) (hp.cells' (t := 3) rfl)) rfl ?_
  refine st_v (ov_move rfl) rfl ?_
  refine st_v (ov_move rfl) rfl ?_
  refine st_call pl38 rfl rfl rfl (clash_walk B W b a _ _ _ _ _ (Rd.own (hp.own 30 _ rfl)) (Rd.own (hp.own 28 _ rfl)) rfl rfl (gcap1 hc30) (gcap1 hc28) (by first | omega | (simp; done)) (by first | omega | (simp; done)) (hp.old hk (by simp)) (hp.old hf (by simp))) ?_
  rintro _ w ⟨rfl, hch⟩
  refine ⟨_, rfl, ?_⟩
  replace hp := hp.call hch
  clear hch
  rw [clash_comm]
  refine st_v (ov_assign rfl) rfl ?_
  refine st_nil ?_
  refine pn_then ?_
  refine sc_seq ?_
  obtain ⟨Hs, hHs⟩ := (hp.sub (L' := [(30, _), (28, _), (3, _)]) (LSub.cons rfl (LSub.cons rfl (LSub.cons rfl (LSub.nil _))))).hs
  refine sc_plan Hs [0, 1, 2, 4, 5, 6, 7, 10, 11] [8, 9] (.load 0 (.take 1 (.take 2 (.one 3 (.take 4 (.load 5 (.take 6 (.take 7 (.one 8 (.one 9 (.take 10 (.take 11 .nil)))))))))))) (by kernel_rfl) (by kernel_rfl) (by repeat (first | exact calm_body _ _ _ | refine calm_then ?_ | refine calm_block ?_ | refine calm_jump ?_ | refine calm_ng ?_)) ?_
  replace hp := hp.drew
  refine sp_load rfl ((hHs _).2 (hp.sub (LSub.cons rfl (LSub.cons rfl (LSub.cons rfl (LSub.nil _)))))) (fun w hs => have hp := (hHs w).1 hs; ov_loadN rfl Tryd.underlying44 rfl (sz44.trans rfl) (hp.cells' (t := 3) rfl)) rfl ?_
  refine sp_take rfl (fun w => ov_move rfl) rfl ?_
  refine sp_take rfl (fun w => ov_move rfl) rfl ?_
  refine sp_one rfl ?_
  refine st_call pl38 rfl rfl rfl (clash_walk B W a a _ _ _ _ _ (Rd.own (hp.own 28 _ rfl)) (Rd.own (hp.own 28 _ rfl)) rfl rfl (gcap1 hc28) (gcap1 hc28) (by first | omega | (simp; done)) (by first | omega | (simp; done)) (hp.old hk (by simp)) (hp.old hf (by simp))) ?_
  rintro _ w ⟨rfl, hch⟩
  refine ⟨_, rfl, ?_⟩
  replace hp := hp.call hch
  clear hch
  rw [clash_self]
  refine st_nil ?_
  refine sp_next (i := 3) (fun h => absurd h (by decide)) ?_
  refine sp_take rfl (fun w => ov_move rfl) rfl ?_
  refine sp_load_on rfl rfl rfl ((hHs _).2 (hp.sub (LSub.cons rfl (LSub.cons rfl (LSub.cons rfl (LSub.nil _)))))) (fun w hs => have hp := (hHs w).1 hs; ov_loadN rfl Tryd.underlying44 rfl (sz44.trans rfl) (hp.cells' (t := 3) rfl)) rfl ?_
  refine sp_take_on rfl rfl rfl (fun w => ov_move rfl) rfl ?_
  refine sp_take_on rfl rfl rfl (fun w => ov_move rfl) rfl ?_
  refine sp_one rfl ?_
  refine st_on (j := 4) rfl rfl ?_
  refine st_call pl18 rfl rfl rfl (copied2_walk b _ _ _ (h2.chg hp.chg) (by first | rfl | omega | (simp; done) | (simp; omega) | (simp [*]; omega)) (by omega)) ?_
  rintro _ w ⟨g47, rfl, hm47⟩
  refine ⟨_, rfl, ?_⟩
  replace hp := hp.got 47 hm47
  have hc47 := hm47.2
  clear hm47
  refine st_nil ?_
  refine sp_next (i := 8) (fun _ => ((hHs _).2 (hp.sub (LSub.cons rfl (LSub.cons rfl (LSub.cons rfl (LSub.nil _))))))) ?_
  refine sp_one rfl ?_
  refine st_on (j := 4) rfl rfl ?_
  refine st_call pl38 rfl rfl rfl (clash_walk B W b b _ _ _ _ _ (Rd.own (hp.own 30 _ rfl)) (Rd.own (hp.own 47 _ rfl)) rfl rfl (gcap1 hc30) (gcap1 hc47) (by first | omega | (simp; done)) (by first | omega | (simp; done)) (hp.old hk (by simp)) (hp.old hf (by simp))) ?_
  rintro _ w ⟨rfl, hch⟩
  refine ⟨_, rfl, ?_⟩
  replace hp := hp.call hch
  clear hch
  rw [clash_self]
  refine st_nil ?_
  refine sp_next (i := 9) (fun _ => ((hHs _).2 (hp.sub (LSub.cons rfl (LSub.cons rfl (LSub.cons rfl (LSub.nil _))))))) ?_
  refine sp_take rfl (fun w => ov_pick_f rfl rfl) rfl ?_
  refine sp_take rfl (fun w => ov_assign rfl) rfl ?_
  refine sp_nil ?_
  refine pn_then ?_
  refine sc_seq ?_
  refine sc_region ?_
  refine st_v (ov_assign rfl) rfl ?_
  refine st_nil ?_
  refine pn_then ?_
  refine sc_seq ?_
  refine sc_region ?_
  refine st_make1 50 (l := 0) (c := 0) hp rfl rfl rfl Tryd.underlying33 in5 ⟨by omega, by omega, by omega, by omega, by omega⟩ rfl (fun b50 w hp => ?_)
  refine st_v (ov_assign rfl) rfl ?_
  refine st_nil ?_
  refine pn_then ?_
  refine sc_seq ?_
  refine sc_seq ?_
  refine sc_region ?_
  refine st_v (ov_loadN rfl Tryd.underlying44 rfl (sz44.trans rfl) (hp.cells' (t := 3) rfl)) rfl ?_
  refine st_v (ov_move rfl) rfl ?_
  refine st_v (ov_move rfl) rfl ?_
  refine st_call pl38 rfl rfl rfl (clash_walk B W [] [] _ _ _ _ _ (Rd.nil _ _) (Rd.nil _ _) rfl rfl (by simp) (by simp) (by first | omega | (simp; done)) (by first | omega | (simp; done)) (hp.old hk (by simp)) (hp.old hf (by simp))) ?_
  rintro _ w ⟨rfl, hch⟩
  refine ⟨_, rfl, ?_⟩
  replace hp := hp.call hch
  clear hch
  rw [clash_self]
  refine st_v (ov_move rfl) rfl ?_
  refine st_on (j := 4) rfl rfl ?_
  refine st_v (ov_loadN rfl Tryd.underlying44 rfl (sz44.trans rfl) (hp.cells' (t := 3) rfl)) rfl ?_
  refine st_on (j := 4) rfl rfl ?_
  refine st_v (ov_move rfl) rfl ?_
  refine st_on (j := 4) rfl rfl ?_
  refine st_v (ov_move rfl) rfl ?_
  refine st_on (j := 4) rfl rfl ?_
  refine st_call pl38 rfl rfl rfl (clash_walk B W [] [] _ _ _ _ _ (Rd.nil _ _) (Rd.nil _ _) rfl rfl (by simp) (by simp) (by first | omega | (simp; done)) (by first | omega | (simp; done)) (hp.old hk (by simp)) (hp.old hf (by simp))) ?_
  rintro _ w ⟨rfl, hch⟩
  refine ⟨_, rfl, ?_⟩
  replace hp := hp.call hch
  clear hch
  rw [clash_self]
  refine st_v (ov_pick_f rfl rfl) rfl ?_
  refine st_v (ov_move rfl) rfl ?_
  refine st_on (j := 10) rfl rfl ?_
  refine st_v (ov_move rfl) rfl ?_
  refine st_on (j := 10) rfl rfl ?_
  refine st_call pl19 rfl rfl rfl (sumd_walk [] _ _ _ (Rd.nil _ _) (by simp) (by simp) (hp.old hk (by simp)) (hp.old hf (by simp))) ?_
  rintro _ w ⟨rfl, hch⟩
  refine ⟨_, rfl, ?_⟩
  replace hp := hp.call hch
  clear hch
  refine st_on (j := 10) rfl rfl ?_
  refine st_v (ov_move rfl) rfl ?_
  refine st_on (j := 10) rfl rfl ?_
  refine st_call pl19 rfl rfl rfl (sumd_walk [] _ _ _ (Rd.nil _ _) (by simp) (by simp) (hp.old hk (by simp)) (hp.old hf (by simp))) ?_
  rintro _ w ⟨rfl, hch⟩
  refine ⟨_, rfl, ?_⟩
  replace hp := hp.call hch
  clear hch
  refine st_on (j := 10) rfl rfl ?_
  refine st_v (v := .bool false) ((ov_neqA (k := .u8) (g := fun x : UInt8 => (x.toNat : Int))  inj8 Tryd.underlying39 Tryd.underlying5 sz5 gd39 rfl rfl ⟨sumOf_len _, sumOf_len _⟩).is ((by simp))) rfl ?_
  refine st_v (ov_pick_f rfl rfl) rfl ?_
  refine st_v (ov_move rfl) rfl ?_
  refine st_on (j := 17) rfl rfl ?_
  refine st_v (ov_move rfl) rfl ?_
  refine st_on (j := 17) rfl rfl ?_
  refine st_call pl39 rfl rfl rfl (hex_walk [] _ _ _ (Rd.nil _ _) (by simp)) ?_
  rintro _ w ⟨rfl, hch⟩
  refine ⟨_, rfl, ?_⟩
  replace hp := hp.call hch
  clear hch
  refine st_on (j := 17) rfl rfl ?_
  refine st_v (ov_move rfl) rfl ?_
  refine st_on (j := 17) rfl rfl ?_
  refine st_call pl39 rfl rfl rfl (hex_walk [] _ _ _ (Rd.nil _ _) (by simp)) ?_
  rintro _ w ⟨rfl, hch⟩
  refine ⟨_, rfl, ?_⟩
  replace hp := hp.call hch
  clear hch
  refine st_on (j := 17) rfl rfl ?_
  refine st_v (v := .bool false) ((ov_neqStr rfl rfl).is ((by simp))) rfl ?_
  refine st_v (ov_pick_f rfl rfl) rfl ?_
  refine st_nil ?_
  refine pn_then ?_
  refine sc_false rfl ?_
  refine sc_skip ?_
  refine pn_then ?_
  refine sc_seq ?_
  refine sc_region ?_
  refine st_v (ov_move rfl) rfl ?_
  refine st_v (ov_move rfl) rfl ?_
  refine st_v (v := .bool true) ((ov_eqlB Tryd.underlying4 rfl rfl).is ((by simp))) rfl ?_
  refine st_v (ov_move rfl) rfl ?_
  refine st_on (j := 3) rfl rfl ?_
  refine st_v (ov_move rfl) rfl ?_
  refine st_on (j := 3) rfl rfl ?_
  refine st_v (ov_move rfl) rfl ?_
  refine st_on (j := 3) rfl rfl ?_
  refine st_v (v := .bool true) ((ov_eqlB Tryd.underlying4 rfl rfl).is ((by simp))) rfl ?_
  refine st_v (ov_pick_t rfl rfl) rfl ?_
  refine st_v (ov_move rfl) rfl ?_
  refine st_on (j := 8) rfl rfl ?_
  refine st_v (ov_move rfl) rfl ?_
  refine st_on (j := 8) rfl rfl ?_
  refine st_v (ov_not rfl) rfl ?_
  refine st_v (ov_pick_t rfl rfl) rfl ?_
  refine st_v (ov_move rfl) rfl ?_
  refine st_on (j := 12) rfl rfl ?_
  refine st_v (ov_move rfl) rfl ?_
  refine st_on (j := 12) rfl rfl ?_
  refine st_v (ov_move rfl) rfl ?_
  refine st_on (j := 12) rfl rfl ?_
  refine st_call pl25 rfl rfl rfl (same2_walk_eq a _ _ _ _ _ (Rd.own (hp.own 28 _ rfl)) (h1.chg hp.chg) (by first | rfl | omega | (simp; done) | (simp; omega) | (simp [*]; omega)) (by first | rfl | omega | (simp; done) | (simp; omega) | (simp [*]; omega)) (by first | omega | (simp; omega))) ?_
  rintro _ w ⟨rfl, hch⟩
  refine ⟨_, rfl, ?_⟩
  replace hp := hp.call hch
  clear hch
  refine st_v (ov_pick_t rfl rfl) rfl ?_
  refine st_v (ov_move rfl) rfl ?_
  refine st_on (j := 17) rfl rfl ?_
  refine st_v (ov_move rfl) rfl ?_
  refine st_on (j := 17) rfl rfl ?_
  refine st_v (ov_move rfl) rfl ?_
  refine st_on (j := 17) rfl rfl ?_
  refine st_call pl25 rfl rfl rfl (same2_walk_eq b _ _ _ _ _ (Rd.own (hp.own 30 _ rfl)) (h2.chg hp.chg) (by first | rfl | omega | (simp; done) | (simp; omega) | (simp [*]; omega)) (by first | rfl | omega | (simp; done) | (simp; omega) | (simp [*]; omega)) (by first | omega | (simp; omega))) ?_
  rintro _ w ⟨rfl, hch⟩
  refine ⟨_, rfl, ?_⟩
  replace hp := hp.call hch
  clear hch
  refine st_v (ov_pick_t rfl rfl) rfl ?_
  refine st_v (ov_assign rfl) rfl ?_
  refine st_nil ?_
  refine pn_then ?_
  refine sc_ret ?_
  refine pr_one rfl rfl ?_
  exact ⟨rfl, hp.chg⟩

end Go.Proofs.YtcpbfnbfbladoaaDoor
