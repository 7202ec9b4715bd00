/-
  The walks of both Compress.
-/
import Derived.Test.YtjdolgfhcjnniaaDoorFacts
import Derived.Test.YtjdolgfhcjnniaaDoorCompP
import Derived.Test.YtjdolgfhcjnniaaDoorExpA
namespace Go.Proofs.YtjdolgfhcjnniaaDoor
open Go Go.RowKit

set_option maxRecDepth 100000 in
theorem rounds_walk (w0 : World) : Calls Tryd.prog 111 #[] w0 fun e w' => e = .returned (.agg (kL.map B32).toArray) ∧ Chg [] w0 w' := by
  refine calls_in Tryd.func111 Tryd.ntmps111 rfl rfl ?_
  have hp := Hp.start w0
  refine sc_seq ?_
  refine sc_region ?_
  refine st_alloc 0 ((List.replicate 64 (0 : UInt32)).map B32) hp rfl zl138 rfl (fun b0 w hp => ?_)
  refine st_nil ?_
  refine pn_then ?_
  refine sc_seq ?_
  refine sc_region ?_
  refine st_v (ov_buildA (cells := kL.map B32) rfl Tryd.underlying138 zl138 sz121 (by kernel_rfl)) rfl ?_
  refine st_storeA 0 hp rfl rfl rfl (by rfl) (sz138.trans rfl) (one_all _) (fun w hp => ?_)
  refine st_nil ?_
  refine pn_then ?_
  refine sc_ret ?_
  refine pr_rv1 rfl (rv_cells rfl Tryd.underlying138 rfl (sz138.trans rfl) (hp.cells' (t := 0) rfl)) ?_
  exact ⟨rfl, hp.chg⟩

set_option maxRecDepth 100000 in
theorem first_walk (w0 : World) : Calls Tryd.prog 104 #[] w0 fun e w' => e = .returned (.agg (fL.map B32).toArray) ∧ Chg [] w0 w' := by
  refine calls_in Tryd.func104 Tryd.ntmps104 rfl rfl ?_
  have hp := Hp.start w0
  refine sc_seq ?_
  refine sc_region ?_
  refine st_alloc 0 ((List.replicate 8 (0 : UInt32)).map B32) hp rfl zl122 rfl (fun b0 w hp => ?_)
  refine st_nil ?_
  refine pn_then ?_
  refine sc_seq ?_
  refine sc_region ?_
  refine st_v (ov_buildA (cells := fL.map B32) rfl Tryd.underlying122 zl122 sz121 (by kernel_rfl)) rfl ?_
  refine st_storeA 0 hp rfl rfl rfl (by rfl) (sz122.trans rfl) (one_all _) (fun w hp => ?_)
  refine st_nil ?_
  refine pn_then ?_
  refine sc_ret ?_
  refine pr_rv1 rfl (rv_cells rfl Tryd.underlying122 rfl (sz122.trans rfl) (hp.cells' (t := 0) rfl)) ?_
  exact ⟨rfl, hp.chg⟩

set_option maxRecDepth 100000 in
theorem comp_walk (st : List UInt32) (blk : List UInt8) (hst : st.length = 8) (hb : blk.length = 64) (w0 : World) (hk : Cells w0 1 0 (kL.map B32)) :
    Calls Tryd.prog 101 #[.agg (st.map B32).toArray, .agg (blk.map B8).toArray] w0 fun e w' => e = .returned (.agg ((compress st blk).map B32).toArray) ∧ Chg [] w0 w' := by
  refine calls_in Tryd.func101 Tryd.ntmps101 rfl rfl ?_
  have hp := Hp.start w0
  obtain ⟨wl, hE⟩ : ∃ wl, wl = expand blk := ⟨_, rfl⟩
  have hwl : wl.length = 64 := by rw [hE]; exact expand_len blk
  have hex : ∀ w, Calls Tryd.prog 105 #[.agg (blk.map B8).toArray] w fun e w' => e = .returned (.agg (wl.map B32).toArray) ∧ Chg [] w w' := fun w => by rw [hE]; exact expand_walk blk hb w
  refine sc_seq ?_
  refine sc_region ?_
  refine st_box 2 hp rfl rfl rfl (fun b2 w hp => ?_)
  refine st_box 3 hp rfl rfl rfl (fun b3 w hp => ?_)
  refine st_alloc 4 ((List.replicate 8 (0 : UInt32)).map B32) hp rfl zl122 rfl (fun b4 w hp => ?_)
  refine st_nil ?_
  refine pn_then ?_
  refine sc_seq ?_
  refine sc_cut2 (α := Nat) (β := Nat) (fun b5 b6 => [(2, .pointer (some ⟨b2, 0, none⟩)), (4, .pointer (some ⟨b4, 0, none⟩)), (5, .pointer (some ⟨b5, 0, none⟩)), (6, .pointer (some ⟨b6, 0, none⟩))]) (fun b5 b6 w => Hp w0 [] [(2, ⟨some b2, st.map B32, 122⟩), (4, ⟨some b4, z32 8, 122⟩), (5, ⟨some b5, wl.map B32, 138⟩), (6, ⟨some b6, kL.map B32, 138⟩)] [] w) ?_ ?_
  ·
    refine sc_plan (fun w => Hp w0 [] [(3, ⟨some b3, blk.map B8, 118⟩)] [] w) [0, 2] [1, 3, 4, 5] (.load 0 (.load 2 (.three 1 (.two 3 (.one 4 (.one 5 (.one 6 .nil))) 4 (.one 3 (.one 5 (.one 6 .nil)))) 3 (.two 1 (.one 4 (.one 5 (.one 6 .nil))) 4 (.one 1 (.one 5 (.one 6 .nil)))) 4 (.two 1 (.one 3 (.one 5 (.one 6 .nil))) 3 (.one 1 (.one 5 (.one 6 .nil))))))) (by kernel_rfl) (by kernel_rfl) (by repeat (first | exact calm_body _ _ _ | refine calm_then ?_ | refine calm_block ?_)) ?_
    replace hp := hp.drew
    refine sp_load rfl (hp.sub (lsub_cons rfl (lsub_nil _))) (fun w hp => ov_loadN rfl Tryd.underlying118 rfl (sz118.trans (by simp [hb])) (hp.cells' (t := 3) rfl)) rfl ?_
    refine sp_load rfl (hp.sub (lsub_cons rfl (lsub_nil _))) (fun w hp => ov_loadN rfl Tryd.underlying138 rfl (sz138.trans rfl) (hp.old hk (by simp))) rfl ?_
    refine sp_three ?_ ?_ ?_
    ·
      refine sp_one rfl ?_
      refine st_call pl105 rfl rfl rfl (hex _) ?_
      rintro _ w ⟨rfl, hch⟩
      refine ⟨_, rfl, ?_⟩
      replace hp := hp.call hch
      clear hch
      refine st_nil ?_
      refine sp_next (i := 1) (fun _ => (hp.sub (lsub_cons rfl (lsub_nil _)))) ?_
      refine sp_two ?_ ?_
      ·
        refine sp_one rfl ?_
        refine st_alloc 5 ((List.replicate 64 (0 : UInt32)).map B32) hp rfl zl138 rfl (fun b5 w hp => ?_)
        refine st_nil ?_
        refine sp_next (i := 3) (fun _ => (hp.sub (lsub_cons rfl (lsub_nil _)))) ?_
        refine sp_one rfl ?_
        refine st_alloc 6 ((List.replicate 64 (0 : UInt32)).map B32) hp rfl zl138 rfl (fun b6 w hp => ?_)
        refine st_nil ?_
        refine sp_next (i := 4) (fun _ => (hp.sub (lsub_cons rfl (lsub_nil _)))) ?_
        refine sp_one rfl ?_
        refine st_storeA 5 hp rfl rfl rfl (by simp [hwl]) (sz138.trans (by simp [hwl])) (one_all _) (fun w hp => ?_)
        refine st_nil ?_
        refine sp_next (i := 5) (fun _ => (hp.sub (lsub_cons rfl (lsub_nil _)))) ?_
        refine sp_one rfl ?_
        refine st_storeA 6 hp rfl rfl rfl (by rfl) (sz138.trans rfl) (one_all _) (fun w hp => ?_)
        refine st_nil ?_
        refine sp_next (i := 6) (fun h => absurd h (by decide)) ?_
        refine sp_nil ?_
        refine pn_cut2 b5 b6 ?_ ?_
        · exact (Sub.cons rfl (Sub.cons rfl (Sub.cons rfl (Sub.cons rfl (Sub.nil _)))))
        ·
          exact hp.sub (lsub_cons rfl (lsub_cons rfl (lsub_cons rfl (lsub_cons rfl (lsub_nil _)))))
      ·
        refine sp_one rfl ?_
        refine st_alloc 6 ((List.replicate 64 (0 : UInt32)).map B32) hp rfl zl138 rfl (fun b6 w hp => ?_)
        refine st_nil ?_
        refine sp_next (i := 4) (fun _ => (hp.sub (lsub_cons rfl (lsub_nil _)))) ?_
        refine sp_one rfl ?_
        refine st_alloc 5 ((List.replicate 64 (0 : UInt32)).map B32) hp rfl zl138 rfl (fun b5 w hp => ?_)
        refine st_nil ?_
        refine sp_next (i := 3) (fun _ => (hp.sub (lsub_cons rfl (lsub_nil _)))) ?_
        refine sp_one rfl ?_
        refine st_storeA 5 hp rfl rfl rfl (by simp [hwl]) (sz138.trans (by simp [hwl])) (one_all _) (fun w hp => ?_)
        refine st_nil ?_
        refine sp_next (i := 5) (fun _ => (hp.sub (lsub_cons rfl (lsub_nil _)))) ?_
        refine sp_one rfl ?_
        refine st_storeA 6 hp rfl rfl rfl (by rfl) (sz138.trans rfl) (one_all _) (fun w hp => ?_)
        refine st_nil ?_
        refine sp_next (i := 6) (fun h => absurd h (by decide)) ?_
        refine sp_nil ?_
        refine pn_cut2 b5 b6 ?_ ?_
        · exact (Sub.cons rfl (Sub.cons rfl (Sub.cons rfl (Sub.cons rfl (Sub.nil _)))))
        ·
          exact hp.sub (lsub_cons rfl (lsub_cons rfl (lsub_cons rfl (lsub_cons rfl (lsub_nil _)))))
    ·
      refine sp_one rfl ?_
      refine st_alloc 5 ((List.replicate 64 (0 : UInt32)).map B32) hp rfl zl138 rfl (fun b5 w hp => ?_)
      refine st_nil ?_
      refine sp_next (i := 3) (fun _ => (hp.sub (lsub_cons rfl (lsub_nil _)))) ?_
      refine sp_two ?_ ?_
      ·
        refine sp_one rfl ?_
        refine st_call pl105 rfl rfl rfl (hex _) ?_
        rintro _ w ⟨rfl, hch⟩
        refine ⟨_, rfl, ?_⟩
        replace hp := hp.call hch
        clear hch
        refine st_nil ?_
        refine sp_next (i := 1) (fun _ => (hp.sub (lsub_cons rfl (lsub_nil _)))) ?_
        refine sp_one rfl ?_
        refine st_alloc 6 ((List.replicate 64 (0 : UInt32)).map B32) hp rfl zl138 rfl (fun b6 w hp => ?_)
        refine st_nil ?_
        refine sp_next (i := 4) (fun _ => (hp.sub (lsub_cons rfl (lsub_nil _)))) ?_
        refine sp_one rfl ?_
        refine st_storeA 5 hp rfl rfl rfl (by simp [hwl]) (sz138.trans (by simp [hwl])) (one_all _) (fun w hp => ?_)
        refine st_nil ?_
        refine sp_next (i := 5) (fun _ => (hp.sub (lsub_cons rfl (lsub_nil _)))) ?_
        refine sp_one rfl ?_
        refine st_storeA 6 hp rfl rfl rfl (by rfl) (sz138.trans rfl) (one_all _) (fun w hp => ?_)
        refine st_nil ?_
        refine sp_next (i := 6) (fun h => absurd h (by decide)) ?_
        refine sp_nil ?_
        refine pn_cut2 b5 b6 ?_ ?_
        · exact (Sub.cons rfl (Sub.cons rfl (Sub.cons rfl (Sub.cons rfl (Sub.nil _)))))
        ·
          exact hp.sub (lsub_cons rfl (lsub_cons rfl (lsub_cons rfl (lsub_cons rfl (lsub_nil _)))))
      ·
        refine sp_one rfl ?_
        refine st_alloc 6 ((List.replicate 64 (0 : UInt32)).map B32) hp rfl zl138 rfl (fun b6 w hp => ?_)
        refine st_nil ?_
        refine sp_next (i := 4) (fun _ => (hp.sub (lsub_cons rfl (lsub_nil _)))) ?_
        refine sp_one rfl ?_
        refine st_call pl105 rfl rfl rfl (hex _) ?_
        rintro _ w ⟨rfl, hch⟩
        refine ⟨_, rfl, ?_⟩
        replace hp := hp.call hch
        clear hch
        refine st_nil ?_
        refine sp_next (i := 1) (fun _ => (hp.sub (lsub_cons rfl (lsub_nil _)))) ?_
        refine sp_one rfl ?_
        refine st_storeA 5 hp rfl rfl rfl (by simp [hwl]) (sz138.trans (by simp [hwl])) (one_all _) (fun w hp => ?_)
        refine st_nil ?_
        refine sp_next (i := 5) (fun _ => (hp.sub (lsub_cons rfl (lsub_nil _)))) ?_
        refine sp_one rfl ?_
        refine st_storeA 6 hp rfl rfl rfl (by rfl) (sz138.trans rfl) (one_all _) (fun w hp => ?_)
        refine st_nil ?_
        refine sp_next (i := 6) (fun h => absurd h (by decide)) ?_
        refine sp_nil ?_
        refine pn_cut2 b5 b6 ?_ ?_
        · exact (Sub.cons rfl (Sub.cons rfl (Sub.cons rfl (Sub.cons rfl (Sub.nil _)))))
        ·
          exact hp.sub (lsub_cons rfl (lsub_cons rfl (lsub_cons rfl (lsub_cons rfl (lsub_nil _)))))
    ·
      refine sp_one rfl ?_
      refine st_alloc 6 ((List.replicate 64 (0 : UInt32)).map B32) hp rfl zl138 rfl (fun b6 w hp => ?_)
      refine st_nil ?_
      refine sp_next (i := 4) (fun _ => (hp.sub (lsub_cons rfl (lsub_nil _)))) ?_
      refine sp_two ?_ ?_
      ·
        refine sp_one rfl ?_
        refine st_call pl105 rfl rfl rfl (hex _) ?_
        rintro _ w ⟨rfl, hch⟩
        refine ⟨_, rfl, ?_⟩
        replace hp := hp.call hch
        clear hch
        refine st_nil ?_
        refine sp_next (i := 1) (fun _ => (hp.sub (lsub_cons rfl (lsub_nil _)))) ?_
        refine sp_one rfl ?_
        refine st_alloc 5 ((List.replicate 64 (0 : UInt32)).map B32) hp rfl zl138 rfl (fun b5 w hp => ?_)
        refine st_nil ?_
        refine sp_next (i := 3) (fun _ => (hp.sub (lsub_cons rfl (lsub_nil _)))) ?_
        refine sp_one rfl ?_
        refine st_storeA 5 hp rfl rfl rfl (by simp [hwl]) (sz138.trans (by simp [hwl])) (one_all _) (fun w hp => ?_)
        refine st_nil ?_
        refine sp_next (i := 5) (fun _ => (hp.sub (lsub_cons rfl (lsub_nil _)))) ?_
        refine sp_one rfl ?_
        refine st_storeA 6 hp rfl rfl rfl (by rfl) (sz138.trans rfl) (one_all _) (fun w hp => ?_)
        refine st_nil ?_
        refine sp_next (i := 6) (fun h => absurd h (by decide)) ?_
        refine sp_nil ?_
        refine pn_cut2 b5 b6 ?_ ?_
        · exact (Sub.cons rfl (Sub.cons rfl (Sub.cons rfl (Sub.cons rfl (Sub.nil _)))))
        ·
          exact hp.sub (lsub_cons rfl (lsub_cons rfl (lsub_cons rfl (lsub_cons rfl (lsub_nil _)))))
      ·
        refine sp_one rfl ?_
        refine st_alloc 5 ((List.replicate 64 (0 : UInt32)).map B32) hp rfl zl138 rfl (fun b5 w hp => ?_)
        refine st_nil ?_
        refine sp_next (i := 3) (fun _ => (hp.sub (lsub_cons rfl (lsub_nil _)))) ?_
        refine sp_one rfl ?_
        refine st_call pl105 rfl rfl rfl (hex _) ?_
        rintro _ w ⟨rfl, hch⟩
        refine ⟨_, rfl, ?_⟩
        replace hp := hp.call hch
        clear hch
        refine st_nil ?_
        refine sp_next (i := 1) (fun _ => (hp.sub (lsub_cons rfl (lsub_nil _)))) ?_
        refine sp_one rfl ?_
        refine st_storeA 5 hp rfl rfl rfl (by simp [hwl]) (sz138.trans (by simp [hwl])) (one_all _) (fun w hp => ?_)
        refine st_nil ?_
        refine sp_next (i := 5) (fun _ => (hp.sub (lsub_cons rfl (lsub_nil _)))) ?_
        refine sp_one rfl ?_
        refine st_storeA 6 hp rfl rfl rfl (by rfl) (sz138.trans rfl) (one_all _) (fun w hp => ?_)
        refine st_nil ?_
        refine sp_next (i := 6) (fun h => absurd h (by decide)) ?_
        refine sp_nil ?_
        refine pn_cut2 b5 b6 ?_ ?_
        · exact (Sub.cons rfl (Sub.cons rfl (Sub.cons rfl (Sub.cons rfl (Sub.nil _)))))
        ·
          exact hp.sub (lsub_cons rfl (lsub_cons rfl (lsub_cons rfl (lsub_cons rfl (lsub_nil _)))))
  ·
    intro b5 b6 w hw
    have hp := hw
    refine pn_then ?_
    refine sc_seq ?_
    refine sc_draws (by kernel_rfl) (by kernel_rfl) ?_
    replace hp := hp.drew
    refine ss_v (ov_indexA rfl rfl Tryd.underlying122 sz121 (by omega)) rfl ?_
    refine ss_v (ov_load1 rfl Tryd.underlying121 rfl (Cells.elem' (hp.cells' (t := 2) rfl) (0) (by omega) 0)) rfl ?_
    refine ss_v (ov_indexA rfl rfl Tryd.underlying122 sz121 (by omega)) rfl ?_
    refine ss_v (ov_load1 rfl Tryd.underlying121 rfl (Cells.elem' (hp.cells' (t := 2) rfl) (1) (by omega) 0)) rfl ?_
    refine ss_v (ov_indexA rfl rfl Tryd.underlying122 sz121 (by omega)) rfl ?_
    refine ss_v (ov_load1 rfl Tryd.underlying121 rfl (Cells.elem' (hp.cells' (t := 2) rfl) (2) (by omega) 0)) rfl ?_
    refine ss_v (ov_indexA rfl rfl Tryd.underlying122 sz121 (by omega)) rfl ?_
    refine ss_v (ov_load1 rfl Tryd.underlying121 rfl (Cells.elem' (hp.cells' (t := 2) rfl) (3) (by omega) 0)) rfl ?_
    refine ss_v (ov_indexA rfl rfl Tryd.underlying122 sz121 (by omega)) rfl ?_
    refine ss_v (ov_load1 rfl Tryd.underlying121 rfl (Cells.elem' (hp.cells' (t := 2) rfl) (4) (by omega) 0)) rfl ?_
    refine ss_v (ov_indexA rfl rfl Tryd.underlying122 sz121 (by omega)) rfl ?_
    refine ss_v (ov_load1 rfl Tryd.underlying121 rfl (Cells.elem' (hp.cells' (t := 2) rfl) (5) (by omega) 0)) rfl ?_
    refine ss_v (ov_indexA rfl rfl Tryd.underlying122 sz121 (by omega)) rfl ?_
    refine ss_v (ov_load1 rfl Tryd.underlying121 rfl (Cells.elem' (hp.cells' (t := 2) rfl) (6) (by omega) 0)) rfl ?_
    refine ss_v (ov_indexA rfl rfl Tryd.underlying122 sz121 (by omega)) rfl ?_
    refine ss_v (ov_load1 rfl Tryd.underlying121 rfl (Cells.elem' (hp.cells' (t := 2) rfl) (7) (by omega) 0)) rfl ?_
    refine ss_v (ov_assign rfl) rfl ?_
    refine ss_v (ov_assign rfl) rfl ?_
    refine ss_v (ov_assign rfl) rfl ?_
    refine ss_v (ov_assign rfl) rfl ?_
    refine ss_v (ov_assign rfl) rfl ?_
    refine ss_v (ov_assign rfl) rfl ?_
    refine ss_v (ov_assign rfl) rfl ?_
    refine ss_v (ov_assign rfl) rfl ?_
    refine ss_end ?_
    refine pn_then ?_
    refine sc_seq ?_
    refine sc_seq ?_
    refine sc_region ?_
    refine st_v (ov_move rfl) rfl ?_
    refine st_nil ?_
    refine pn_then ?_
    refine sc_block ?_
    refine sc_loop1 (α := Nat) 0 (fun t => [(41, .int .i64 ((t : Nat) : Int)), (2, .pointer (some ⟨b2, 0, none⟩)), (4, .pointer (some ⟨b4, 0, none⟩)), (5, .pointer (some ⟨b5, 0, none⟩)), (6, .pointer (some ⟨b6, 0, none⟩)), (7, B32 (runs st wl t).a), (8, B32 (runs st wl t).b), (9, B32 (runs st wl t).c), (10, B32 (runs st wl t).d), (11, B32 (runs st wl t).e), (12, B32 (runs st wl t).f), (13, B32 (runs st wl t).g), (14, B32 (runs st wl t).h)]) (fun t w => Hp w0 [] [(2, ⟨some b2, st.map B32, 122⟩), (4, ⟨some b4, z32 8, 122⟩), (5, ⟨some b5, wl.map B32, 138⟩), (6, ⟨some b6, kL.map B32, 138⟩)] [] w ∧ t ≤ 64) (fun t => 64 - t) ?_ ?_ ?_
    · exact (Sub.cons rfl (Sub.cons rfl (Sub.cons rfl (Sub.cons rfl (Sub.cons rfl (Sub.cons rfl (Sub.cons rfl (Sub.cons rfl (Sub.cons rfl (Sub.cons rfl (Sub.cons rfl (Sub.cons rfl (Sub.cons rfl (Sub.nil _))))))))))))))
    · exact ⟨hp, by omega⟩
    intro t w hw
    obtain ⟨hp, ht⟩ := hw
    have hl := hwl
    have hkl := kL_len
    refine sc_seq ?_
    refine sc_region ?_
    refine st_v (ov_lss rfl rfl) rfl ?_
    refine st_nil ?_
    refine pn_then ?_
    refine sc_seq ?_
    refine sc_cond rfl (fun hc => ?_) (fun hc => ?_)
    ·
      have hc := of_decide_eq_true hc
      refine sc_skip ?_
      refine pn_then ?_
      refine sc_seq ?_
      refine sc_block ?_
      refine sc_seq ?_
      refine sc_region ?_
      refine st_v (ov_move rfl) rfl ?_
      refine st_v (ov_assign rfl) rfl ?_
      refine st_nil ?_
      refine pn_then ?_
      refine sc_seq ?_
      refine sc_region ?_
      refine st_v (ov_move rfl) rfl ?_
      refine st_call pl106 rfl rfl rfl (rot_walk _ (-6) 26 rfl rfl (by decide) _) ?_
      rintro _ _ ⟨rfl, rfl⟩
      refine ⟨_, rfl, ?_⟩
      refine st_v (ov_move rfl) rfl ?_
      refine st_call pl106 rfl rfl rfl (rot_walk _ (-11) 21 rfl rfl (by decide) _) ?_
      rintro _ _ ⟨rfl, rfl⟩
      refine ⟨_, rfl, ?_⟩
      refine st_v (ov_xor_u32 rfl rfl) rfl ?_
      refine st_v (ov_move rfl) rfl ?_
      refine st_call pl106 rfl rfl rfl (rot_walk _ (-25) 7 rfl rfl (by decide) _) ?_
      rintro _ _ ⟨rfl, rfl⟩
      refine ⟨_, rfl, ?_⟩
      refine st_v (ov_xor_u32 rfl rfl) rfl ?_
      refine st_v (ov_assign rfl) rfl ?_
      refine st_nil ?_
      refine pn_then ?_
      refine sc_seq ?_
      refine sc_draws (by kernel_rfl) (by kernel_rfl) ?_
      replace hp := hp.drew
      refine ss_v (ov_move rfl) rfl ?_
      refine ss_v (ov_move rfl) rfl ?_
      refine ss_v (ov_add_u32 rfl rfl) rfl ?_
      refine ss_v (ov_move rfl) rfl ?_
      refine ss_v (ov_move rfl) rfl ?_
      refine ss_v (ov_and_u32 rfl rfl) rfl ?_
      refine ss_v (ov_move rfl) rfl ?_
      refine ss_v (ov_com_u32 rfl) rfl ?_
      refine ss_v (ov_move rfl) rfl ?_
      refine ss_v (ov_and_u32 rfl rfl) rfl ?_
      refine ss_v (ov_xor_u32 rfl rfl) rfl ?_
      refine ss_v (ov_add_u32 rfl rfl) rfl ?_
      refine ss_v (ov_move rfl) rfl ?_
      refine ss_v (ov_indexA rfl rfl Tryd.underlying138 sz121 (by omega)) rfl ?_
      refine ss_v (ov_load1 rfl Tryd.underlying121 rfl (Cells.elem' (hp.cells' (t := 6) rfl) (t) (by omega) 0)) rfl ?_
      refine ss_v (ov_add_u32 rfl rfl) rfl ?_
      refine ss_v (ov_move rfl) rfl ?_
      refine ss_v (ov_indexA rfl rfl Tryd.underlying138 sz121 (by omega)) rfl ?_
      refine ss_v (ov_load1 rfl Tryd.underlying121 rfl (Cells.elem' (hp.cells' (t := 5) rfl) (t) (by omega) 0)) rfl ?_
      refine ss_v (ov_add_u32 rfl rfl) rfl ?_
      refine ss_v (ov_assign rfl) rfl ?_
      refine ss_end ?_
      refine pn_then ?_
      refine sc_seq ?_
      refine sc_region ?_
      refine st_v (ov_move rfl) rfl ?_
      refine st_call pl106 rfl rfl rfl (rot_walk _ (-2) 30 rfl rfl (by decide) _) ?_
      rintro _ _ ⟨rfl, rfl⟩
      refine ⟨_, rfl, ?_⟩
      refine st_v (ov_move rfl) rfl ?_
      refine st_call pl106 rfl rfl rfl (rot_walk _ (-13) 19 rfl rfl (by decide) _) ?_
      rintro _ _ ⟨rfl, rfl⟩
      refine ⟨_, rfl, ?_⟩
      refine st_v (ov_xor_u32 rfl rfl) rfl ?_
      refine st_v (ov_move rfl) rfl ?_
      refine st_call pl106 rfl rfl rfl (rot_walk _ (-22) 10 rfl rfl (by decide) _) ?_
      rintro _ _ ⟨rfl, rfl⟩
      refine ⟨_, rfl, ?_⟩
      refine st_v (ov_xor_u32 rfl rfl) rfl ?_
      refine st_v (ov_assign rfl) rfl ?_
      refine st_nil ?_
      refine pn_then ?_
      refine sc_seq ?_
      refine sc_region ?_
      refine st_v (ov_move rfl) rfl ?_
      refine st_v (ov_move rfl) rfl ?_
      refine st_v (ov_move rfl) rfl ?_
      refine st_v (ov_and_u32 rfl rfl) rfl ?_
      refine st_v (ov_move rfl) rfl ?_
      refine st_v (ov_move rfl) rfl ?_
      refine st_v (ov_and_u32 rfl rfl) rfl ?_
      refine st_v (ov_xor_u32 rfl rfl) rfl ?_
      refine st_v (ov_move rfl) rfl ?_
      refine st_v (ov_move rfl) rfl ?_
      refine st_v (ov_and_u32 rfl rfl) rfl ?_
      refine st_v (ov_xor_u32 rfl rfl) rfl ?_
      refine st_v (ov_add_u32 rfl rfl) rfl ?_
      refine st_v (ov_assign rfl) rfl ?_
      refine st_nil ?_
      refine pn_then ?_
      refine sc_region ?_
      refine st_v (ov_move rfl) rfl ?_
      refine st_v (ov_move rfl) rfl ?_
      refine st_v (ov_move rfl) rfl ?_
      refine st_v (ov_move rfl) rfl ?_
      refine st_v (ov_move rfl) rfl ?_
      refine st_v (ov_add_u32 rfl rfl) rfl ?_
      refine st_v (ov_move rfl) rfl ?_
      refine st_v (ov_move rfl) rfl ?_
      refine st_v (ov_move rfl) rfl ?_
      refine st_v (ov_move rfl) rfl ?_
      refine st_v (ov_move rfl) rfl ?_
      refine st_v (ov_add_u32 rfl rfl) rfl ?_
      refine st_v (ov_assign rfl) rfl ?_
      refine st_v (ov_assign rfl) rfl ?_
      refine st_v (ov_assign rfl) rfl ?_
      refine st_v (ov_assign rfl) rfl ?_
      refine st_v (ov_assign rfl) rfl ?_
      refine st_v (ov_assign rfl) rfl ?_
      refine st_v (ov_assign rfl) rfl ?_
      refine st_v (ov_assign rfl) rfl ?_
      refine st_nil ?_
      refine pn_block ?_
      refine pn_then ?_
      refine sc_region ?_
      refine st_v (ov_add_i64 rfl rfl (by omega)) rfl ?_
      refine st_v (ov_move rfl) rfl ?_
      refine st_nil ?_
      refine pn_round1 (t + 1) ?_ ?_ ?_
      · exact (Sub.cons rfl (Sub.cons rfl (Sub.cons rfl (Sub.cons rfl (Sub.cons rfl (Sub.cons rfl (Sub.cons rfl (Sub.cons rfl (Sub.cons rfl (Sub.cons rfl (Sub.cons rfl (Sub.cons rfl (Sub.cons rfl (Sub.nil _))))))))))))))
      · omega
      ·
        exact ⟨hp, by omega⟩
    ·
      have hc := of_decide_eq_false hc
      obtain rfl : t = 64 := by omega
      generalize hr : runs st wl 64 = r
      refine sc_exit ?_
      refine pe_then ?_
      refine pe_then ?_
      refine pe_hit ?_
      refine pn_then ?_
      refine sc_seq ?_
      refine sc_region ?_
      refine st_v (ov_move rfl) rfl ?_
      refine st_v (ov_move rfl) rfl ?_
      refine st_v (ov_move rfl) rfl ?_
      refine st_v (ov_move rfl) rfl ?_
      refine st_v (ov_move rfl) rfl ?_
      refine st_v (ov_move rfl) rfl ?_
      refine st_v (ov_move rfl) rfl ?_
      refine st_v (ov_move rfl) rfl ?_
      refine st_v (ov_buildA (cells := [r.a, r.b, r.c, r.d, r.e, r.f, r.g, r.h].map B32) rfl Tryd.underlying122 zl122 sz121 (by kernel_rfl)) rfl ?_
      refine st_alloc 20 ((List.replicate 8 (0 : UInt32)).map B32) hp rfl zl122 rfl (fun b20 w hp => ?_)
      refine st_storeA 20 hp rfl rfl rfl (by simp) (sz122.trans (by simp)) (one_all _) (fun w hp => ?_)
      refine st_nil ?_
      refine pn_then ?_
      refine sc_seq ?_
      refine sc_seq ?_
      refine sc_region ?_
      refine st_v (ov_move rfl) rfl ?_
      refine st_nil ?_
      refine pn_then ?_
      refine sc_block ?_
      refine sc_loop1 (α := Nat) 0 (fun i => [(115, .int .i64 ((i : Nat) : Int)), (2, .pointer (some ⟨b2, 0, none⟩)), (4, .pointer (some ⟨b4, 0, none⟩)), (20, .pointer (some ⟨b20, 0, none⟩))]) (fun i w => Hp w0 [] [(2, ⟨some b2, (accN st [r.a, r.b, r.c, r.d, r.e, r.f, r.g, r.h] i).map B32, 122⟩), (4, ⟨some b4, z32 8, 122⟩), (20, ⟨some b20, [r.a, r.b, r.c, r.d, r.e, r.f, r.g, r.h].map B32, 122⟩)] [] w ∧ i ≤ 8) (fun i => 8 - i) ?_ ?_ ?_
      · exact (Sub.cons rfl (Sub.cons rfl (Sub.cons rfl (Sub.cons rfl (Sub.nil _)))))
      · exact ⟨hp.sub (lsub_cons rfl (lsub_cons rfl (lsub_cons rfl (lsub_nil _)))), by omega⟩
      intro i w hw
      obtain ⟨hp, hi⟩ := hw
      have hl := accN_len st [r.a, r.b, r.c, r.d, r.e, r.f, r.g, r.h] i
      refine sc_seq ?_
      refine sc_region ?_
      refine st_v (ov_lss rfl rfl) rfl ?_
      refine st_nil ?_
      refine pn_then ?_
      refine sc_seq ?_
      refine sc_cond rfl (fun hc => ?_) (fun hc => ?_)
      ·
        have hc := of_decide_eq_true hc
        refine sc_skip ?_
        refine pn_then ?_
        refine sc_seq ?_
        refine sc_block ?_
        refine sc_seq ?_
        refine sc_region ?_
        refine st_v (ov_move rfl) rfl ?_
        refine st_v (ov_assign rfl) rfl ?_
        refine st_nil ?_
        refine pn_then ?_
        refine sc_draws_tail 8 (by kernel_rfl) (by kernel_rfl) ?_
        replace hp := hp.drew
        simp only [List.take_succ_cons, List.take_zero, List.drop_succ_cons, List.drop_zero]
        refine ss_v (ov_move rfl) rfl ?_
        refine ss_v (ov_indexA rfl rfl Tryd.underlying122 sz121 (by omega)) rfl ?_
        refine ss_v (ov_load1 rfl Tryd.underlying121 rfl (Cells.elem' (hp.cells' (t := 2) rfl) (i) (by omega) 0)) rfl ?_
        refine ss_v (ov_move rfl) rfl ?_
        refine ss_v (ov_indexA rfl rfl Tryd.underlying122 sz121 (by omega)) rfl ?_
        refine ss_v (ov_load1 rfl Tryd.underlying121 rfl (Cells.elem' (hp.cells' (t := 20) rfl) (i) (by simp; omega) 0)) rfl ?_
        refine ss_v (ov_add_u32 rfl rfl) rfl ?_
        refine ss_v (ov_indexA rfl rfl Tryd.underlying122 sz121 (by omega)) rfl ?_
        refine ss_tail ?_
        refine st_storeE 2 hp rfl rfl rfl (i) (by omega) rfl sz121 (fun w hp => ?_)
        refine st_nil ?_
        refine pn_block ?_
        refine pn_then ?_
        refine sc_region ?_
        refine st_v (ov_add_i64 rfl rfl (by omega)) rfl ?_
        refine st_v (ov_move rfl) rfl ?_
        refine st_nil ?_
        refine pn_round1 (i + 1) ?_ ?_ ?_
        · exact (Sub.cons rfl (Sub.cons rfl (Sub.cons rfl (Sub.cons rfl (Sub.nil _)))))
        · omega
        ·
          exact ⟨hp.sub (lsub_cons rfl (lsub_cons rfl (lsub_cons rfl (lsub_nil _)))), by omega⟩
      ·
        have hc := of_decide_eq_false hc
        obtain rfl : i = 8 := by omega
        rw [acc_end st hst] at hp
        refine sc_exit ?_
        refine pe_then ?_
        refine pe_then ?_
        refine pe_hit ?_
        refine pn_then ?_
        refine sc_seq ?_
        refine sc_region ?_
        refine st_v (ov_loadN rfl Tryd.underlying122 rfl (sz122.trans (by simp)) (hp.cells' (t := 2) rfl)) rfl ?_
        refine st_storeA 4 hp rfl rfl rfl (by simp) (sz122.trans (by simp)) (one_all _) (fun w hp => ?_)
        refine st_nil ?_
        refine pn_then ?_
        refine sc_ret ?_
        refine pr_rv1 rfl (rv_cells rfl Tryd.underlying122 rfl (sz122.trans (by simp)) (hp.cells' (t := 4) rfl)) ?_
        exact ⟨by unfold compress; rw [← hE, hr], hp.chg⟩

end Go.Proofs.YtjdolgfhcjnniaaDoor
