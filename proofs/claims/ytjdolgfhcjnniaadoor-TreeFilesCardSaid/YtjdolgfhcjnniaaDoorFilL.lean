/-
  The walk of the law TreeFiles.
-/
import Derived.Test.YtjdolgfhcjnniaaDoorFilA
namespace Go.Proofs.YtjdolgfhcjnniaaDoor
open Go Go.RowKit

set_option maxRecDepth 100000 in
theorem law_files (B W p lv : Int) (hpr : -9223372036854775808 ≤ p ∧ p ≤ 9223372036854775807) (hlv : -9223372036854775808 ≤ lv ∧ lv ≤ 9223372036854775807) (b : List UInt8) (ao : Option Addr) (ca : Nat) (w0 : World) (h1 : Rd w0 ao (b.map B8)) (hca : b.length ≤ ca) (hz : b.length ≤ 140737488351232) (hk : Cells w0 1 0 (kL.map B32)) (hf : Cells w0 0 0 (fL.map B32)) :
    Calls Tryd.prog 7 #[sca B W, .int .i64 p, .slice ao b.length ca, .int .i64 lv] w0 fun e w' => e = .returned (.bool true) ∧ Chg [] w0 w' := by
  refine calls_in Tryd.func7 Tryd.ntmps7 rfl rfl ?_
  have hp := Hp.start w0
  refine sc_seq ?_
  refine sc_region ?_
  refine st_box 4 hp rfl rfl rfl (fun b4 w hp => ?_)
  refine st_v (ov_assign rfl) rfl ?_
  refine st_nil ?_
  refine pn_then ?_
  refine sc_seq ?_
  refine sc_region ?_
  refine st_v (ov_move rfl) rfl ?_
  refine st_call pl16 rfl rfl rfl (twin_walk b _ _ _ (h1.chg hp.chg) rfl hz) ?_
  rintro _ w ⟨g23, rfl, hm23⟩
  refine ⟨_, rfl, ?_⟩
  replace hp := hp.got 23 hm23
  have hc23 := hm23.2
  clear hm23
  refine st_v (ov_assign rfl) rfl ?_
  refine st_nil ?_
  refine pn_then ?_
  refine sc_seq ?_
  refine sc_region ?_
  refine st_v (ov_loadN rfl Tryd.underlying23 rfl (sz23.trans rfl) (hp.cells' (t := 4) rfl)) rfl ?_
  refine st_v (ov_move rfl) rfl ?_
  refine st_call pl32 rfl rfl rfl (FileRootr_walk B W b _ _ _ (Rd.own (hp.own 23 _ rfl)) rfl (gcap1 hc23) hz) ?_
  rintro _ w ⟨rfl, hch⟩
  refine ⟨_, rfl, ?_⟩
  replace hp := hp.call hch
  clear hch
  refine st_v (ov_move rfl) rfl ?_
  refine st_v (ov_extract rfl rfl) rfl ?_
  refine st_v (ov_extract rfl rfl) rfl ?_
  refine st_alloc 10 (hcs hz0) hp rfl zl34 rfl (fun b10 w hp => ?_)
  refine st_storeA 10 hp rfl rfl rfl (by simp [hcs_len]) (sz34.trans (by simp [hcs_len])) (hcs_one _) (fun w hp => ?_)
  refine st_v (ov_assign rfl) rfl ?_
  refine st_nil ?_
  refine pn_then ?_
  refine sc_seq ?_
  refine sc_region ?_
  refine st_v (ov_loadN rfl Tryd.underlying23 rfl (sz23.trans rfl) (hp.cells' (t := 4) rfl)) rfl ?_
  refine st_v (ov_move rfl) rfl ?_
  refine st_call pl33 rfl rfl rfl (FileRoot_walk B W b _ _ _ (h1.chg hp.chg) rfl hca hz (hp.old hk (by simp)) (hp.old hf (by simp))) ?_
  rintro _ w ⟨rfl, hch⟩
  refine ⟨_, rfl, ?_⟩
  replace hp := hp.call hch
  clear hch
  refine st_v (ov_move rfl) rfl ?_
  refine st_v (ov_extract rfl rfl) rfl ?_
  refine st_v (ov_extract rfl rfl) rfl ?_
  refine st_alloc 12 (hcs hz0) hp rfl zl34 rfl (fun b12 w hp => ?_)
  refine st_storeA 12 hp rfl rfl rfl (by simp [hcs_len]) (sz34.trans (by simp [hcs_len])) (hcs_one _) (fun w hp => ?_)
  refine st_v (ov_assign rfl) rfl ?_
  refine st_nil ?_
  refine pn_then ?_
  refine sc_seq ?_
  refine sc_seq ?_
  refine sc_region ?_
  refine st_v (ov_move rfl) rfl ?_
  refine st_v (ov_move rfl) rfl ?_
  refine st_v (v := .bool false) ((ov_neq rfl rfl).is ((by simp))) rfl ?_
  refine st_v (ov_move rfl) rfl ?_
  refine st_on (j := 3) rfl rfl ?_
  refine st_v (ov_loadN rfl Tryd.underlying34 rfl (sz34.trans (by simp [hcs_len])) (hp.cells' (t := 12) rfl)) rfl ?_
  refine st_on (j := 3) rfl rfl ?_
  refine st_v (ov_loadN rfl Tryd.underlying34 rfl (sz34.trans (by simp [hcs_len])) (hp.cells' (t := 10) rfl)) rfl ?_
  refine st_on (j := 3) rfl rfl ?_
  refine st_v (v := .bool false) ((ov_neqA (k := .u8) (g := fun x : UInt8 => (x.toNat : Int))  inj8 Tryd.underlying34 Tryd.underlying5 sz5 gd34 rfl rfl ⟨Subtype.property (p := fun l : List UInt8 => l.length = 32) _, Subtype.property (p := fun l : List UInt8 => l.length = 32) _⟩).is ((by simp))) rfl ?_
  refine st_v (ov_pick_f rfl rfl) rfl ?_
  refine st_nil ?_
  refine pn_then ?_
  refine sc_false rfl ?_
  refine sc_skip ?_
  refine pn_then ?_
  refine sc_seq ?_
  refine sc_region ?_
  refine st_v (ov_loadN rfl Tryd.underlying23 rfl (sz23.trans rfl) (hp.cells' (t := 4) rfl)) rfl ?_
  refine st_v (ov_move rfl) rfl ?_
  refine st_v (ov_move rfl) rfl ?_
  refine st_call pl34 rfl rfl rfl (PieceRoot_walk B W b _ _ lv _ (h1.chg hp.chg) rfl hca hz hlv (hp.old hk (by simp)) (hp.old hf (by simp))) ?_
  rintro _ w ⟨rfl, hch⟩
  refine ⟨_, rfl, ?_⟩
  replace hp := hp.call hch
  clear hch
  refine st_v (ov_move rfl) rfl ?_
  refine st_v (ov_extract rfl rfl) rfl ?_
  refine st_v (ov_extract rfl rfl) rfl ?_
  refine st_alloc 14 (hcs hz0) hp rfl zl34 rfl (fun b14 w hp => ?_)
  refine st_storeA 14 hp rfl rfl rfl (by simp [hcs_len]) (sz34.trans (by simp [hcs_len])) (hcs_one _) (fun w hp => ?_)
  refine st_v (ov_assign rfl) rfl ?_
  refine st_nil ?_
  refine pn_then ?_
  refine sc_seq ?_
  refine sc_region ?_
  refine st_v (ov_loadN rfl Tryd.underlying23 rfl (sz23.trans rfl) (hp.cells' (t := 4) rfl)) rfl ?_
  refine st_v (ov_move rfl) rfl ?_
  refine st_v (ov_move rfl) rfl ?_
  refine st_call pl35 rfl rfl rfl (PieceRootr_walk B W b _ _ lv _ (Rd.own (hp.own 23 _ rfl)) rfl (gcap1 hc23) hz hlv) ?_
  rintro _ w ⟨rfl, hch⟩
  refine ⟨_, rfl, ?_⟩
  replace hp := hp.call hch
  clear hch
  refine st_v (ov_move rfl) rfl ?_
  refine st_v (ov_extract rfl rfl) rfl ?_
  refine st_v (ov_extract rfl rfl) rfl ?_
  refine st_alloc 16 (hcs hz0) hp rfl zl34 rfl (fun b16 w hp => ?_)
  refine st_storeA 16 hp rfl rfl rfl (by simp [hcs_len]) (sz34.trans (by simp [hcs_len])) (hcs_one _) (fun w hp => ?_)
  refine st_v (ov_assign rfl) rfl ?_
  refine st_nil ?_
  refine pn_then ?_
  refine sc_seq ?_
  refine sc_seq ?_
  refine sc_region ?_
  refine st_v (ov_move rfl) rfl ?_
  refine st_v (ov_move rfl) rfl ?_
  refine st_v (v := .bool false) ((ov_neq rfl rfl).is ((by simp))) rfl ?_
  refine st_v (ov_move rfl) rfl ?_
  refine st_on (j := 3) rfl rfl ?_
  refine st_v (ov_loadN rfl Tryd.underlying34 rfl (sz34.trans (by simp [hcs_len])) (hp.cells' (t := 14) rfl)) rfl ?_
  refine st_on (j := 3) rfl rfl ?_
  refine st_v (ov_loadN rfl Tryd.underlying34 rfl (sz34.trans (by simp [hcs_len])) (hp.cells' (t := 16) rfl)) rfl ?_
  refine st_on (j := 3) rfl rfl ?_
  refine st_v (v := .bool false) ((ov_neqA (k := .u8) (g := fun x : UInt8 => (x.toNat : Int))  inj8 Tryd.underlying34 Tryd.underlying5 sz5 gd34 rfl rfl ⟨Subtype.property (p := fun l : List UInt8 => l.length = 32) _, Subtype.property (p := fun l : List UInt8 => l.length = 32) _⟩).is ((by simp))) rfl ?_
  refine st_v (ov_pick_f rfl rfl) rfl ?_
  refine st_nil ?_
  refine pn_then ?_
  refine sc_false rfl ?_
  refine sc_skip ?_
  refine pn_then ?_
  refine sc_seq ?_
  refine sc_region ?_
  refine st_v (ov_loadN rfl Tryd.underlying23 rfl (sz23.trans rfl) (hp.cells' (t := 4) rfl)) rfl ?_
  refine st_v (ov_move rfl) rfl ?_
  refine st_v (ov_move rfl) rfl ?_
  refine st_call pl36 rfl rfl rfl (PieceLayer_walk B W p b _ _ _ hpr (h1.chg hp.chg) rfl hca hz (hp.old hk (by simp)) (hp.old hf (by simp))) ?_
  rintro _ w ⟨g70, rfl, hm70⟩
  refine ⟨_, rfl, ?_⟩
  replace hp := hp.got 70 hm70
  have hc70 := hm70.2
  clear hm70
  refine st_v (ov_move rfl) rfl ?_
  refine st_v (ov_extract rfl rfl) rfl ?_
  refine st_v (ov_extract rfl rfl) rfl ?_
  refine st_v (ov_assign rfl) rfl ?_
  refine st_v (ov_assign rfl) rfl ?_
  refine st_nil ?_
  refine pn_then ?_
  refine sc_seq ?_
  refine sc_region ?_
  refine st_v (ov_loadN rfl Tryd.underlying23 rfl (sz23.trans rfl) (hp.cells' (t := 4) rfl)) rfl ?_
  refine st_v (ov_move rfl) rfl ?_
  refine st_v (ov_move rfl) rfl ?_
  refine st_call pl37 rfl rfl rfl (PieceLayerr_walk B W p b _ _ _ hpr (Rd.own (hp.own 23 _ rfl)) rfl (gcap1 hc23) hz) ?_
  rintro _ w ⟨g77, rfl, hm77⟩
  refine ⟨_, rfl, ?_⟩
  replace hp := hp.got 77 hm77
  have hc77 := hm77.2
  clear hm77
  refine st_v (ov_move rfl) rfl ?_
  refine st_v (ov_extract rfl rfl) rfl ?_
  refine st_v (ov_extract rfl rfl) rfl ?_
  refine st_v (ov_assign rfl) rfl ?_
  refine st_v (ov_assign rfl) rfl ?_
  refine st_nil ?_
  refine pn_then ?_
  refine sc_seq ?_
  refine sc_region ?_
  refine st_v (ov_move rfl) rfl ?_
  refine st_v (ov_move rfl) rfl ?_
  refine st_v (v := .bool true) ((ov_eql rfl rfl).is ((by simp))) rfl ?_
  refine st_v (ov_move rfl) rfl ?_
  refine st_on (j := 3) rfl rfl ?_
  refine st_v (ov_move rfl) rfl ?_
  refine st_on (j := 3) rfl rfl ?_
  refine st_v (ov_move rfl) rfl ?_
  refine st_on (j := 3) rfl rfl ?_
  refine st_call pl19 rfl rfl rfl (rowsame_walk (plV B W p b) _ _ _ _ _ (Rd.own (hp.own 70 _ rfl)) (Rd.own (hp.own 77 _ rfl)) rfl rfl (by have := plV_len B W p b; omega)) ?_
  rintro _ w ⟨rfl, hch⟩
  refine ⟨_, rfl, ?_⟩
  replace hp := hp.call hch
  clear hch
  refine st_v (ov_pick_t rfl rfl) rfl ?_
  refine st_v (ov_move rfl) rfl ?_
  refine st_on (j := 8) rfl rfl ?_
  refine st_v (ov_move rfl) rfl ?_
  refine st_on (j := 8) rfl rfl ?_
  refine st_v (ov_move rfl) rfl ?_
  refine st_on (j := 8) rfl rfl ?_
  refine st_call pl20 rfl rfl rfl (same_walk_eq b _ _ _ _ _ (h1.chg hp.chg) (Rd.own (hp.own 23 _ rfl)) rfl rfl (by omega)) ?_
  rintro _ w ⟨rfl, hch⟩
  refine ⟨_, rfl, ?_⟩
  replace hp := hp.call hch
  clear hch
  refine st_v (ov_pick_t rfl rfl) rfl ?_
  refine st_v (ov_assign rfl) rfl ?_
  refine st_nil ?_
  refine pn_then ?_
  refine sc_ret ?_
  refine pr_one rfl rfl ?_
  exact ⟨rfl, hp.chg⟩

end Go.Proofs.YtjdolgfhcjnniaaDoor
