/-
  The walks of Table and of the law DigestTables.
-/
import Derived.Test.YtcpbfnbfbladoaaDoorTabB
namespace Go.Proofs.YtcpbfnbfbladoaaDoor
open Go Go.RowKit

theorem fl_len : fL.length = 8 := rfl

set_option maxRecDepth 100000 in
theorem table_walk (w0 : World) (hk : Cells w0 0 0 (kL.map B32)) (hf : Cells w0 1 0 (fL.map B32)) :
    Calls Tryd.prog 12 #[] w0 fun e w' => e = .returned (.tuple #[.agg (kL.map B32).toArray, .agg (fL.map B32).toArray]) ∧ Chg [] w0 w' := by
  refine calls_in Tryd.func12 Tryd.ntmps12 rfl rfl ?_
  have hp := Hp.start w0
  refine sc_seq ?_
  refine sc_region ?_
  refine st_alloc 0 ((List.replicate 64 (0 : UInt32)).map B32) hp rfl zl23 rfl (fun b0 w hp => ?_)
  refine st_alloc 1 ((List.replicate 8 (0 : UInt32)).map B32) hp rfl zl24 rfl (fun b1 w hp => ?_)
  refine st_nil ?_
  refine pn_then ?_
  refine sc_seq ?_
  obtain ⟨Hs, hHs⟩ := (hp.sub (L' := []) (LSub.nil _)).hs
  refine sc_plan Hs [0, 1] [2] (.load 0 (.load 1 (.one 2 (.one 3 .nil)))) (by kernel_rfl) (by kernel_rfl) (by repeat (first | exact calm_body _ _ _ | refine calm_then ?_ | refine calm_block ?_ | refine calm_jump ?_ | refine calm_ng ?_)) ?_
  replace hp := hp.drew
  refine sp_load rfl ((hHs _).2 (hp.sub (LSub.nil _))) (fun w hs => have hp := (hHs w).1 hs; ov_loadN rfl Tryd.underlying23 rfl (sz23.trans (by simp [kL_len])) (hp.old hk (by simp))) rfl ?_
  refine sp_load rfl ((hHs _).2 (hp.sub (LSub.nil _))) (fun w hs => have hp := (hHs w).1 hs; ov_loadN rfl Tryd.underlying24 rfl (sz24.trans (by simp; rfl)) (hp.old hf (by simp))) rfl ?_
  refine sp_one rfl ?_
  refine st_storeA 0 hp rfl rfl rfl rfl (sz23.trans (by simp [kL_len])) (one_all _) (fun w hp => ?_)
  refine st_nil ?_
  refine sp_next (i := 2) (fun _ => ((hHs _).2 (hp.sub (LSub.nil _)))) ?_
  refine sp_one rfl ?_
  refine st_storeA 1 hp rfl rfl rfl rfl (sz24.trans (by simp; rfl)) (one_all _) (fun w hp => ?_)
  refine st_nil ?_
  refine sp_next (i := 3) (fun h => absurd h (by decide)) ?_
  refine sp_nil ?_
  refine pn_then ?_
  refine sc_ret ?_
  refine pr_rv2 rfl (rv_cells rfl Tryd.underlying23 rfl (sz23.trans (by simp [*, kL_len, fl_len])) (hp.cells' (t := 0) rfl)) (rv_cells rfl Tryd.underlying24 rfl (sz24.trans (by simp [*, kL_len, fl_len])) (hp.cells' (t := 1) rfl)) ?_
  exact ⟨rfl, hp.chg⟩

end Go.Proofs.YtcpbfnbfbladoaaDoor
