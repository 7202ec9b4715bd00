/-
  The walk of awake.
-/
import Derived.Test.YtjdolgfhcjnniaaDoorFilA
import Derived.Test.YtjdolgfhcjnniaaDoorAwkP
namespace Go.Proofs.YtjdolgfhcjnniaaDoor
open Go Go.RowKit

set_option maxRecDepth 100000 in
theorem awake_walk (w0 : World) (hk : Cells w0 1 0 (kL.map B32)) (hf : Cells w0 0 0 (fL.map B32)) :
    Calls Tryd.prog 38 #[] w0 fun e w' => e = .returned (.bool true) ∧ Chg [] w0 w' := by
  refine calls_in Tryd.func38 Tryd.ntmps38 rfl rfl ?_
  have hp := Hp.start w0
  obtain ⟨h1, hh1⟩ : ∃ h, h = hashL 64 32 [97, 98, 99] := ⟨_, rfl⟩
  obtain ⟨za, hza⟩ : ∃ h, h = hashL 64 32 (List.replicate 64 0) := ⟨_, rfl⟩
  obtain ⟨zb, hzb⟩ : ∃ h, h = hashL 64 32 [0] := ⟨_, rfl⟩
  have e186 : h1.1.getD 0 0 = 186 := by rw [hh1]; exact awk_186
  have e120 : h1.1.getD 1 0 = 120 := by rw [hh1]; exact awk_120
  have eV := awk_V
  rw [← hh1] at eV
  have ePV := awk_PV
  rw [← hza, ← hzb] at ePV
  have ene : za.1 ≠ zb.1 := by rw [hza, hzb]; exact awk_ne
  have eLV := awk_LV za za zb
  have eFV := awk_FV
  rw [ePV] at eFV
  obtain ⟨rt, hrt⟩ : ∃ r, r = rootV 64 32 [za, za, zb] 0 := ⟨_, rfl⟩
  rw [← hrt] at eLV eFV
  clear hh1 hza hzb hrt
  have h3 : [za, za, zb].length = 3 := rfl
  refine sc_seq ?_
  refine sc_region ?_
  refine st_v (ov_assign rfl) rfl ?_
  refine st_nil ?_
  refine pn_then ?_
  refine sc_seq ?_
  refine sc_region ?_
  refine st_v (ov_buildS (pl := #[(0, 1), (1, 1)]) (cells := [Value.int .i64 64, .int .i64 32]) rfl Tryd.underlying23 zl23 (by intro w; kernel_rfl) (by kernel_rfl)) rfl ?_
  refine st_alloc 1 (([Value.int .i64 0]) ++ ([Value.int .i64 0])) hp rfl zl23 rfl (fun b1 w hp => ?_)
  refine st_storeA 1 hp rfl rfl rfl rfl (sz23.trans rfl) (fun u hu => by simp at hu; rcases hu with rfl | rfl <;> rfl) (fun w hp => ?_)
  refine st_nil ?_
  refine pn_then ?_
  refine sc_seq ?_
  refine sc_region ?_
  refine st_v (ov_loadN rfl Tryd.underlying23 rfl (sz23.trans rfl) (hp.cells' (t := 1) rfl)) rfl ?_
  refine st_build 16 (cells := ([97, 98, 99] : List UInt8).map B8) hp rfl rfl Tryd.underlying24 (in2_of in5) (by decide) (by kernel_rfl) (fun b16 w hb16 hp => ?_)
  refine st_mark 16 (L' := [(1, _)]) hp rfl rfl rfl Tryd.underlying24 Tryd.underlying5 (XSub.cons rfl rfl (XSub.nil _ _)) (fun w hp hcm17 => ?_)
  refine st_call pl33 rfl rfl rfl (FileRoot_walk 64 32 [97, 98, 99] _ _ _ (Rd.of hcm17) rfl (by decide) (by decide) (hp.old hk (by simp)) (hp.old hf (by simp))) ?_
  rintro _ w ⟨rfl, hch⟩
  refine ⟨_, rfl, ?_⟩
  replace hp := hp.call hch
  clear hch
  rw [eV, show ([97, 98, 99] : List UInt8).length = 3 from rfl, awk_E]
  refine st_v (ov_move rfl) rfl ?_
  refine st_v (ov_extract rfl rfl) rfl ?_
  refine st_v (ov_extract rfl rfl) rfl ?_
  refine st_alloc 2 (hcs hz0) hp rfl zl34 rfl (fun b2 w hp => ?_)
  refine st_storeA 2 hp rfl rfl rfl (by simp [hcs_len]) (sz34.trans (by simp [hcs_len])) (hcs_one _) (fun w hp => ?_)
  refine st_v (ov_assign rfl) rfl ?_
  refine st_nil ?_
  refine pn_then ?_
  refine sc_seq ?_
  refine sc_region ?_
  refine st_v (ov_loadN rfl Tryd.underlying23 rfl (sz23.trans rfl) (hp.cells' (t := 1) rfl)) rfl ?_
  refine st_build 23 (cells := ([97, 98, 99] : List UInt8).map B8) hp rfl rfl Tryd.underlying24 (in2_of in5) (by decide) (by kernel_rfl) (fun b23 w hb23 hp => ?_)
  refine st_mark 23 (L' := [(1, _), (2, _)]) hp rfl rfl rfl Tryd.underlying24 Tryd.underlying5 (XSub.cons rfl rfl (XSub.cons rfl rfl (XSub.nil _ _))) (fun w hp hcm24 => ?_)
  refine st_call pl40 rfl rfl rfl (hash2_walk 64 32 [97, 98, 99] _ _ _ (Rd.of hcm24) rfl (by decide) (by decide) (hp.old hk (by simp)) (hp.old hf (by simp))) ?_
  rintro _ w ⟨rfl, hch⟩
  refine ⟨_, rfl, ?_⟩
  replace hp := hp.call hch
  clear hch
  rw [← awk_V, eV, awk_g]
  refine st_v (ov_move rfl) rfl ?_
  refine st_v (ov_extract rfl rfl) rfl ?_
  refine st_v (ov_extract rfl rfl) rfl ?_
  refine st_alloc 4 (hcs hz0) hp rfl zl34 rfl (fun b4 w hp => ?_)
  refine st_storeA 4 hp rfl rfl rfl (by simp [hcs_len]) (sz34.trans (by simp [hcs_len])) (hcs_one _) (fun w hp => ?_)
  refine st_v (ov_assign rfl) rfl ?_
  refine st_nil ?_
  refine pn_then ?_
  refine sc_seq ?_
  refine sc_seq ?_
  refine sc_region ?_
  refine st_v (ov_move rfl) rfl ?_
  refine st_v (v := .bool false) ((ov_neq rfl rfl).is ((by simp))) rfl ?_
  refine st_v (ov_move rfl) rfl ?_
  refine st_on (j := 2) rfl rfl ?_
  refine st_v (ov_move rfl) rfl ?_
  refine st_on (j := 2) rfl rfl ?_
  refine st_v (v := .bool false) ((ov_neq rfl rfl).is ((by simp))) rfl ?_
  refine st_v (ov_pick_f rfl rfl) rfl ?_
  refine st_v (ov_move rfl) rfl ?_
  refine st_on (j := 6) rfl rfl ?_
  refine st_v (ov_loadN rfl Tryd.underlying34 rfl (sz34.trans (by simp [hcs_len])) (hp.cells' (t := 2) rfl)) rfl ?_
  refine st_on (j := 6) rfl rfl ?_
  refine st_v (ov_loadN rfl Tryd.underlying34 rfl (sz34.trans (by simp [hcs_len])) (hp.cells' (t := 4) rfl)) rfl ?_
  refine st_on (j := 6) rfl rfl ?_
  refine st_v (v := .bool false) ((ov_neqA (k := .u8) (g := fun x : UInt8 => (x.toNat : Int))  inj8 Tryd.underlying34 Tryd.underlying5 sz5 gd34 rfl rfl ⟨Subtype.property (p := fun l : List UInt8 => l.length = 32) _, Subtype.property (p := fun l : List UInt8 => l.length = 32) _⟩).is ((by simp))) rfl ?_
  refine st_v (ov_pick_f rfl rfl) rfl ?_
  refine st_v (ov_move rfl) rfl ?_
  refine st_on (j := 11) rfl rfl ?_
  refine st_v (ov_indexA rfl rfl Tryd.underlying34 sz5 (by omega)) rfl ?_
  refine st_on (j := 11) rfl rfl ?_
  refine st_v (ov_load1 rfl Tryd.underlying5 rfl (Cells.elem' (hp.cells' (t := 2) rfl) (0) (by first | omega | (simp; omega) | (simp [*]; omega)) 0)) rfl ?_
  refine st_on (j := 11) rfl rfl ?_
  refine st_v (v := .bool false) ((ov_neq rfl rfl).is (congrArg Value.bool (decide_eq_false (by rw [e186]; decide)))) rfl ?_
  refine st_v (ov_pick_f rfl rfl) rfl ?_
  refine st_v (ov_move rfl) rfl ?_
  refine st_on (j := 16) rfl rfl ?_
  refine st_v (ov_indexA rfl rfl Tryd.underlying34 sz5 (by omega)) rfl ?_
  refine st_on (j := 16) rfl rfl ?_
  refine st_v (ov_load1 rfl Tryd.underlying5 rfl (Cells.elem' (hp.cells' (t := 2) rfl) (1) (by first | omega | (simp; omega) | (simp [*]; omega)) 0)) rfl ?_
  refine st_on (j := 16) rfl rfl ?_
  refine st_v (v := .bool false) ((ov_neq rfl rfl).is (congrArg Value.bool (decide_eq_false (by rw [e120]; decide)))) rfl ?_
  refine st_v (ov_pick_f rfl rfl) rfl ?_
  refine st_nil ?_
  refine pn_then ?_
  refine sc_false rfl ?_
  refine sc_skip ?_
  refine pn_then ?_
  refine sc_seq ?_
  refine sc_region ?_
  refine st_alloc 6 (zb129.map B8) hp rfl zl97 rfl (fun b6 w hp => ?_)
  refine st_nil ?_
  refine pn_then ?_
  refine sc_seq ?_
  obtain ⟨Hs, hHs⟩ := (hp.sub (L' := [(6, _), (4, _), (2, _), (1, _)]) (LSub.cons rfl (LSub.cons rfl (LSub.cons rfl (LSub.cons rfl (LSub.nil _)))))).hs
  refine sc_plan Hs [0, 1, 3, 4, 5, 6, 7] [] (.load 0 (.take 1 (.one 2 (.take 3 (.take 4 (.take 5 (.take 6 (.take 7 .nil)))))))) (by kernel_rfl) (by kernel_rfl) (by repeat (first | exact calm_body _ _ _ | refine calm_then ?_ | refine calm_block ?_ | refine calm_jump ?_ | refine calm_ng ?_)) ?_
  replace hp := hp.drew
  refine sp_load rfl ((hHs _).2 (hp.sub (LSub.cons rfl (LSub.cons rfl (LSub.cons rfl (LSub.cons rfl (LSub.nil _))))))) (fun w hs => have hp := (hHs w).1 hs; ov_loadN rfl Tryd.underlying23 rfl (sz23.trans rfl) (hp.cells' (t := 1) rfl)) rfl ?_
  refine sp_take rfl (fun w => ov_sliceA Tryd.underlying97 sz5 rfl) rfl ?_
  refine sp_one rfl ?_
  refine st_call pl36 rfl rfl rfl (PieceLayer_walk 64 32 64 zb129 _ _ _ (by omega) (Rd.of (hp.cells' (t := 6) rfl)) rfl (by decide) (by decide) (hp.old hk (by simp)) (hp.old hf (by simp))) ?_
  rintro _ w ⟨g52, rfl, hm52⟩
  refine ⟨_, rfl, ?_⟩
  replace hp := hp.got 52 hm52
  have hc52 := hm52.2
  clear hm52
  rw [ePV] at hp hc52
  rw [ePV, show zb129.length = 129 from List.length_replicate, awk_PE]
  refine st_nil ?_
  refine sp_next (i := 2) (fun h => absurd h (by decide)) ?_
  refine sp_take rfl (fun w => ov_move rfl) rfl ?_
  refine sp_take rfl (fun w => ov_extract rfl rfl) rfl ?_
  refine sp_take rfl (fun w => ov_extract rfl rfl) rfl ?_
  refine sp_take rfl (fun w => ov_assign rfl) rfl ?_
  refine sp_take rfl (fun w => ov_assign rfl) rfl ?_
  refine sp_nil ?_
  refine pn_then ?_
  refine sc_seq ?_
  refine sc_region ?_
  refine st_v (ov_loadN rfl Tryd.underlying23 rfl (sz23.trans rfl) (hp.cells' (t := 1) rfl)) rfl ?_
  refine st_v (ov_move rfl) rfl ?_
  refine st_call pl31 rfl rfl rfl (LayerRoot_walk 64 32 64 129 (by omega) (by omega) [za, za, zb] _ _ _ (Rd.own (hp.own 52 _ rfl)) rfl (by omega) (hp.old hk (by simp)) (hp.old hf (by simp))) ?_
  rintro _ w ⟨rfl, hch⟩
  refine ⟨_, rfl, ?_⟩
  replace hp := hp.call hch
  clear hch
  rw [eLV, show [za, za, zb].length = 3 from rfl, awk_LE]
  refine st_v (ov_move rfl) rfl ?_
  refine st_v (ov_extract rfl rfl) rfl ?_
  refine st_v (ov_extract rfl rfl) rfl ?_
  refine st_alloc 9 (hcs hz0) hp rfl zl34 rfl (fun b9 w hp => ?_)
  refine st_storeA 9 hp rfl rfl rfl (by simp [hcs_len]) (sz34.trans (by simp [hcs_len])) (hcs_one _) (fun w hp => ?_)
  refine st_v (ov_assign rfl) rfl ?_
  refine st_nil ?_
  refine pn_then ?_
  refine sc_seq ?_
  obtain ⟨Hs, hHs⟩ := (hp.sub (L' := [(9, _), (52, _), (6, _), (4, _), (2, _), (1, _)]) (LSub.cons rfl (LSub.cons rfl (LSub.cons rfl (LSub.cons rfl (LSub.cons rfl (LSub.cons rfl (LSub.nil _)))))))).hs
  refine sc_plan Hs [0, 1, 3, 4, 5, 8] [6] (.load 0 (.take 1 (.two 2 (.take 3 (.take 4 (.take 5 (.one 6 (.one 7 (.take 8 .nil)))))) 6 (.one 2 (.take 3 (.take 4 (.take 5 (.one 7 (.take 8 .nil))))))))) (by kernel_rfl) (by kernel_rfl) (by repeat (first | exact calm_body _ _ _ | refine calm_then ?_ | refine calm_block ?_ | refine calm_jump ?_ | refine calm_ng ?_)) ?_
  replace hp := hp.drew
  refine sp_load rfl ((hHs _).2 (hp.sub (LSub.cons rfl (LSub.cons rfl (LSub.cons rfl (LSub.cons rfl (LSub.cons rfl (LSub.cons rfl (LSub.nil _))))))))) (fun w hs => have hp := (hHs w).1 hs; ov_loadN rfl Tryd.underlying23 rfl (sz23.trans rfl) (hp.cells' (t := 1) rfl)) rfl ?_
  refine sp_take rfl (fun w => ov_sliceA Tryd.underlying97 sz5 rfl) rfl ?_
  refine sp_two ?_ ?_
  ·
    refine sp_one rfl ?_
    refine st_call pl33 rfl rfl rfl (FileRoot_walk 64 32 zb129 _ _ _ (Rd.of (hp.cells' (t := 6) rfl)) rfl (by decide) (by decide) (hp.old hk (by simp)) (hp.old hf (by simp))) ?_
    rintro _ w ⟨rfl, hch⟩
    refine ⟨_, rfl, ?_⟩
    replace hp := hp.call hch
    clear hch
    rw [eFV, show zb129.length = 129 from List.length_replicate, awk_FE]
    refine st_nil ?_
    refine sp_next (i := 2) (fun h => absurd h (by decide)) ?_
    refine sp_take rfl (fun w => ov_move rfl) rfl ?_
    refine sp_take rfl (fun w => ov_extract rfl rfl) rfl ?_
    refine sp_take rfl (fun w => ov_extract rfl rfl) rfl ?_
    refine sp_one rfl ?_
    refine st_alloc 11 (hcs hz0) hp rfl zl34 rfl (fun b11 w hp => ?_)
    refine st_nil ?_
    refine sp_next (i := 6) (fun _ => ((hHs _).2 (hp.sub (LSub.cons rfl (LSub.cons rfl (LSub.cons rfl (LSub.cons rfl (LSub.cons rfl (LSub.cons rfl (LSub.nil _)))))))))) ?_
    refine sp_one rfl ?_
    refine st_storeA 11 hp rfl rfl rfl (by simp [hcs_len]) (sz34.trans (by simp [hcs_len])) (hcs_one _) (fun w hp => ?_)
    refine st_nil ?_
    refine sp_next (i := 7) (fun h => absurd h (by decide)) ?_
    refine sp_take rfl (fun w => ov_assign rfl) rfl ?_
    refine sp_nil ?_
    refine pn_then ?_
    refine sc_seq ?_
    refine sc_draws (by kernel_rfl) (by kernel_rfl) ?_
    replace hp := hp.drew
    refine ss_v (ov_move rfl) rfl ?_
    refine ss_v (v := .bool true) ((ov_eql rfl rfl).is ((by simp))) rfl ?_
    refine ss_v (ov_move rfl) rfl ?_
    refine ss_on (j := 2) rfl rfl ?_
    refine ss_v (ov_move rfl) rfl ?_
    refine ss_on (j := 2) rfl rfl ?_
    refine ss_v (v := .bool true) ((ov_eql rfl rfl).is ((by simp))) rfl ?_
    refine ss_v (ov_pick_t rfl rfl) rfl ?_
    refine ss_v (ov_move rfl) rfl ?_
    refine ss_on (j := 6) rfl rfl ?_
    refine ss_v (ov_move rfl) rfl ?_
    refine ss_on (j := 6) rfl rfl ?_
    refine ss_v (v := .bool true) ((ov_eql rfl rfl).is ((by simp))) rfl ?_
    refine ss_v (ov_pick_t rfl rfl) rfl ?_
    refine ss_v (ov_move rfl) rfl ?_
    refine ss_on (j := 10) rfl rfl ?_
    refine ss_v (ov_move rfl) rfl ?_
    refine ss_on (j := 10) rfl rfl ?_
    refine ss_v (ov_len rfl Tryd.underlying26 rfl) rfl ?_
    refine ss_on (j := 10) rfl rfl ?_
    refine ss_v (v := .bool true) ((ov_eql rfl rfl).is ((by simp))) rfl ?_
    refine ss_v (ov_pick_t rfl rfl) rfl ?_
    refine ss_v (ov_move rfl) rfl ?_
    refine ss_on (j := 15) rfl rfl ?_
    refine ss_v (ov_move rfl) rfl ?_
    refine ss_on (j := 15) rfl rfl ?_
    obtain ⟨bb1, oo1, hadr1, hcl1⟩ := (Rd.own (hp.own 52 _ rfl)).pos (by rw [flat_len hcs_len, h3]; decide)
    refine ss_v (ov_indexR hadr1 rfl rfl Tryd.underlying26 sz34 (by omega)) rfl ?_
    refine ss_on (j := 15) rfl rfl ?_
    refine ss_v (ov_loadN rfl Tryd.underlying34 rfl (sz34.trans (by simp [hcs_len])) (hcl1.elemN hcs_len (0) ⟨by rfl, by omega⟩ hz0)) rfl ?_
    refine ss_on (j := 15) rfl rfl ?_
    refine ss_v (ov_move rfl) rfl ?_
    refine ss_on (j := 15) rfl rfl ?_
    obtain ⟨bb2, oo2, hadr2, hcl2⟩ := (Rd.own (hp.own 52 _ rfl)).pos (by rw [flat_len hcs_len, h3]; decide)
    refine ss_v (ov_indexR hadr2 rfl rfl Tryd.underlying26 sz34 (by omega)) rfl ?_
    refine ss_on (j := 15) rfl rfl ?_
    refine ss_v (ov_loadN rfl Tryd.underlying34 rfl (sz34.trans (by simp [hcs_len])) (hcl2.elemN hcs_len (1) ⟨by rfl, by omega⟩ hz0)) rfl ?_
    refine ss_on (j := 15) rfl rfl ?_
    refine ss_v (v := .bool true) ((ov_eqlA (k := .u8) (g := fun x : UInt8 => (x.toNat : Int))  inj8 Tryd.underlying34 Tryd.underlying5 sz5 gd34 rfl rfl ⟨Subtype.property (p := fun l : List UInt8 => l.length = 32) _, Subtype.property (p := fun l : List UInt8 => l.length = 32) _⟩).is ((by simp))) rfl ?_
    refine ss_v (ov_pick_t rfl rfl) rfl ?_
    refine ss_v (ov_move rfl) rfl ?_
    refine ss_on (j := 24) rfl rfl ?_
    refine ss_v (ov_move rfl) rfl ?_
    refine ss_on (j := 24) rfl rfl ?_
    obtain ⟨bb3, oo3, hadr3, hcl3⟩ := (Rd.own (hp.own 52 _ rfl)).pos (by rw [flat_len hcs_len, h3]; decide)
    refine ss_v (ov_indexR hadr3 rfl rfl Tryd.underlying26 sz34 (by omega)) rfl ?_
    refine ss_on (j := 24) rfl rfl ?_
    refine ss_v (ov_loadN rfl Tryd.underlying34 rfl (sz34.trans (by simp [hcs_len])) (hcl3.elemN hcs_len (0) ⟨by rfl, by omega⟩ hz0)) rfl ?_
    refine ss_on (j := 24) rfl rfl ?_
    refine ss_v (ov_move rfl) rfl ?_
    refine ss_on (j := 24) rfl rfl ?_
    obtain ⟨bb4, oo4, hadr4, hcl4⟩ := (Rd.own (hp.own 52 _ rfl)).pos (by rw [flat_len hcs_len, h3]; decide)
    refine ss_v (ov_indexR hadr4 rfl rfl Tryd.underlying26 sz34 (by omega)) rfl ?_
    refine ss_on (j := 24) rfl rfl ?_
    refine ss_v (ov_loadN rfl Tryd.underlying34 rfl (sz34.trans (by simp [hcs_len])) (hcl4.elemN hcs_len (2) ⟨by rfl, by omega⟩ hz0)) rfl ?_
    refine ss_on (j := 24) rfl rfl ?_
    refine ss_v (v := .bool true) ((ov_neqA (k := .u8) (g := fun x : UInt8 => (x.toNat : Int))  inj8 Tryd.underlying34 Tryd.underlying5 sz5 gd34 rfl rfl ⟨Subtype.property (p := fun l : List UInt8 => l.length = 32) _, Subtype.property (p := fun l : List UInt8 => l.length = 32) _⟩).is (congrArg Value.bool (decide_eq_true (by simpa using ene)))) rfl ?_
    refine ss_v (ov_pick_t rfl rfl) rfl ?_
    refine ss_v (ov_move rfl) rfl ?_
    refine ss_on (j := 33) rfl rfl ?_
    refine ss_v (ov_loadN rfl Tryd.underlying34 rfl (sz34.trans (by simp [hcs_len])) (hp.cells' (t := 9) rfl)) rfl ?_
    refine ss_on (j := 33) rfl rfl ?_
    refine ss_v (ov_loadN rfl Tryd.underlying34 rfl (sz34.trans (by simp [hcs_len])) (hp.cells' (t := 11) rfl)) rfl ?_
    refine ss_on (j := 33) rfl rfl ?_
    refine ss_v (v := .bool true) ((ov_eqlA (k := .u8) (g := fun x : UInt8 => (x.toNat : Int))  inj8 Tryd.underlying34 Tryd.underlying5 sz5 gd34 rfl rfl ⟨Subtype.property (p := fun l : List UInt8 => l.length = 32) _, Subtype.property (p := fun l : List UInt8 => l.length = 32) _⟩).is ((by simp))) rfl ?_
    refine ss_v (ov_pick_t rfl rfl) rfl ?_
    refine ss_v (ov_assign rfl) rfl ?_
    refine ss_end ?_
    refine pn_then ?_
    refine sc_ret ?_
    refine pr_one rfl rfl ?_
    exact ⟨rfl, hp.chg⟩
  ·
    refine sp_one rfl ?_
    refine st_alloc 11 (hcs hz0) hp rfl zl34 rfl (fun b11 w hp => ?_)
    refine st_nil ?_
    refine sp_next (i := 6) (fun _ => ((hHs _).2 (hp.sub (LSub.cons rfl (LSub.cons rfl (LSub.cons rfl (LSub.cons rfl (LSub.cons rfl (LSub.cons rfl (LSub.nil _)))))))))) ?_
    refine sp_one rfl ?_
    refine st_call pl33 rfl rfl rfl (FileRoot_walk 64 32 zb129 _ _ _ (Rd.of (hp.cells' (t := 6) rfl)) rfl (by decide) (by decide) (hp.old hk (by simp)) (hp.old hf (by simp))) ?_
    rintro _ w ⟨rfl, hch⟩
    refine ⟨_, rfl, ?_⟩
    replace hp := hp.call hch
    clear hch
    rw [eFV, show zb129.length = 129 from List.length_replicate, awk_FE]
    refine st_nil ?_
    refine sp_next (i := 2) (fun h => absurd h (by decide)) ?_
    refine sp_take rfl (fun w => ov_move rfl) rfl ?_
    refine sp_take rfl (fun w => ov_extract rfl rfl) rfl ?_
    refine sp_take rfl (fun w => ov_extract rfl rfl) rfl ?_
    refine sp_one rfl ?_
    refine st_storeA 11 hp rfl rfl rfl (by simp [hcs_len]) (sz34.trans (by simp [hcs_len])) (hcs_one _) (fun w hp => ?_)
    refine st_nil ?_
    refine sp_next (i := 7) (fun h => absurd h (by decide)) ?_
    refine sp_take rfl (fun w => ov_assign rfl) rfl ?_
    refine sp_nil ?_
    refine pn_then ?_
    refine sc_seq ?_
    refine sc_draws (by kernel_rfl) (by kernel_rfl) ?_
    replace hp := hp.drew
    refine ss_v (ov_move rfl) rfl ?_
    refine ss_v (v := .bool true) ((ov_eql rfl rfl).is ((by simp))) rfl ?_
    refine ss_v (ov_move rfl) rfl ?_
    refine ss_on (j := 2) rfl rfl ?_
    refine ss_v (ov_move rfl) rfl ?_
    refine ss_on (j := 2) rfl rfl ?_
    refine ss_v (v := .bool true) ((ov_eql rfl rfl).is ((by simp))) rfl ?_
    refine ss_v (ov_pick_t rfl rfl) rfl ?_
    refine ss_v (ov_move rfl) rfl ?_
    refine ss_on (j := 6) rfl rfl ?_
    refine ss_v (ov_move rfl) rfl ?_
    refine ss_on (j := 6) rfl rfl ?_
    refine ss_v (v := .bool true) ((ov_eql rfl rfl).is ((by simp))) rfl ?_
    refine ss_v (ov_pick_t rfl rfl) rfl ?_
    refine ss_v (ov_move rfl) rfl ?_
    refine ss_on (j := 10) rfl rfl ?_
    refine ss_v (ov_move rfl) rfl ?_
    refine ss_on (j := 10) rfl rfl ?_
    refine ss_v (ov_len rfl Tryd.underlying26 rfl) rfl ?_
    refine ss_on (j := 10) rfl rfl ?_
    refine ss_v (v := .bool true) ((ov_eql rfl rfl).is ((by simp))) rfl ?_
    refine ss_v (ov_pick_t rfl rfl) rfl ?_
    refine ss_v (ov_move rfl) rfl ?_
    refine ss_on (j := 15) rfl rfl ?_
    refine ss_v (ov_move rfl) rfl ?_
    refine ss_on (j := 15) rfl rfl ?_
    obtain ⟨bb5, oo5, hadr5, hcl5⟩ := (Rd.own (hp.own 52 _ rfl)).pos (by rw [flat_len hcs_len, h3]; decide)
    refine ss_v (ov_indexR hadr5 rfl rfl Tryd.underlying26 sz34 (by omega)) rfl ?_
    refine ss_on (j := 15) rfl rfl ?_
    refine ss_v (ov_loadN rfl Tryd.underlying34 rfl (sz34.trans (by simp [hcs_len])) (hcl5.elemN hcs_len (0) ⟨by rfl, by omega⟩ hz0)) rfl ?_
    refine ss_on (j := 15) rfl rfl ?_
    refine ss_v (ov_move rfl) rfl ?_
    refine ss_on (j := 15) rfl rfl ?_
    obtain ⟨bb6, oo6, hadr6, hcl6⟩ := (Rd.own (hp.own 52 _ rfl)).pos (by rw [flat_len hcs_len, h3]; decide)
    refine ss_v (ov_indexR hadr6 rfl rfl Tryd.underlying26 sz34 (by omega)) rfl ?_
    refine ss_on (j := 15) rfl rfl ?_
    refine ss_v (ov_loadN rfl Tryd.underlying34 rfl (sz34.trans (by simp [hcs_len])) (hcl6.elemN hcs_len (1) ⟨by rfl, by omega⟩ hz0)) rfl ?_
    refine ss_on (j := 15) rfl rfl ?_
    refine ss_v (v := .bool true) ((ov_eqlA (k := .u8) (g := fun x : UInt8 => (x.toNat : Int))  inj8 Tryd.underlying34 Tryd.underlying5 sz5 gd34 rfl rfl ⟨Subtype.property (p := fun l : List UInt8 => l.length = 32) _, Subtype.property (p := fun l : List UInt8 => l.length = 32) _⟩).is ((by simp))) rfl ?_
    refine ss_v (ov_pick_t rfl rfl) rfl ?_
    refine ss_v (ov_move rfl) rfl ?_
    refine ss_on (j := 24) rfl rfl ?_
    refine ss_v (ov_move rfl) rfl ?_
    refine ss_on (j := 24) rfl rfl ?_
    obtain ⟨bb7, oo7, hadr7, hcl7⟩ := (Rd.own (hp.own 52 _ rfl)).pos (by rw [flat_len hcs_len, h3]; decide)
    refine ss_v (ov_indexR hadr7 rfl rfl Tryd.underlying26 sz34 (by omega)) rfl ?_
    refine ss_on (j := 24) rfl rfl ?_
    refine ss_v (ov_loadN rfl Tryd.underlying34 rfl (sz34.trans (by simp [hcs_len])) (hcl7.elemN hcs_len (0) ⟨by rfl, by omega⟩ hz0)) rfl ?_
    refine ss_on (j := 24) rfl rfl ?_
    refine ss_v (ov_move rfl) rfl ?_
    refine ss_on (j := 24) rfl rfl ?_
    obtain ⟨bb8, oo8, hadr8, hcl8⟩ := (Rd.own (hp.own 52 _ rfl)).pos (by rw [flat_len hcs_len, h3]; decide)
    refine ss_v (ov_indexR hadr8 rfl rfl Tryd.underlying26 sz34 (by omega)) rfl ?_
    refine ss_on (j := 24) rfl rfl ?_
    refine ss_v (ov_loadN rfl Tryd.underlying34 rfl (sz34.trans (by simp [hcs_len])) (hcl8.elemN hcs_len (2) ⟨by rfl, by omega⟩ hz0)) rfl ?_
    refine ss_on (j := 24) rfl rfl ?_
    refine ss_v (v := .bool true) ((ov_neqA (k := .u8) (g := fun x : UInt8 => (x.toNat : Int))  inj8 Tryd.underlying34 Tryd.underlying5 sz5 gd34 rfl rfl ⟨Subtype.property (p := fun l : List UInt8 => l.length = 32) _, Subtype.property (p := fun l : List UInt8 => l.length = 32) _⟩).is (congrArg Value.bool (decide_eq_true (by simpa using ene)))) rfl ?_
    refine ss_v (ov_pick_t rfl rfl) rfl ?_
    refine ss_v (ov_move rfl) rfl ?_
    refine ss_on (j := 33) rfl rfl ?_
    refine ss_v (ov_loadN rfl Tryd.underlying34 rfl (sz34.trans (by simp [hcs_len])) (hp.cells' (t := 9) rfl)) rfl ?_
    refine ss_on (j := 33) rfl rfl ?_
    refine ss_v (ov_loadN rfl Tryd.underlying34 rfl (sz34.trans (by simp [hcs_len])) (hp.cells' (t := 11) rfl)) rfl ?_
    refine ss_on (j := 33) rfl rfl ?_
    refine ss_v (v := .bool true) ((ov_eqlA (k := .u8) (g := fun x : UInt8 => (x.toNat : Int))  inj8 Tryd.underlying34 Tryd.underlying5 sz5 gd34 rfl rfl ⟨Subtype.property (p := fun l : List UInt8 => l.length = 32) _, Subtype.property (p := fun l : List UInt8 => l.length = 32) _⟩).is ((by simp))) rfl ?_
    refine ss_v (ov_pick_t rfl rfl) rfl ?_
    refine ss_v (ov_assign rfl) rfl ?_
    refine ss_end ?_
    refine pn_then ?_
    refine sc_ret ?_
    refine pr_one rfl rfl ?_
    exact ⟨rfl, hp.chg⟩

end Go.Proofs.YtjdolgfhcjnniaaDoor
