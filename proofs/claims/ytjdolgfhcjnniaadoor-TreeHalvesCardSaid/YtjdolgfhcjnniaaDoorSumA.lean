/-
  The walks of Sum.
-/
import Derived.Test.YtjdolgfhcjnniaaDoorTakeA
namespace Go.Proofs.YtjdolgfhcjnniaaDoor
open Go Go.RowKit

set_option maxRecDepth 100000 in
theorem sums_walk (bs bf : Nat) (st0 st : List UInt32) (tl text : List UInt8) (w0 : World) (hst0 : st0.length = 8) (hS : Stands st0 text st tl) (hbf : bf % 64 = 0) (hB : Blk w0 ⟨some bs, strm st (bf + text.length) tl, 124⟩)
    (hz : bf + text.length ≤ 2305843009213693951) (hk : Cells w0 1 0 (kL.map B32)) :
    Calls Tryd.prog 93 #[.pointer (some ⟨bs, 0, none⟩)] w0 fun e w' => e = .returned (.agg ((endOf st0 bf text).map B8).toArray) ∧ Chg [] w0 w' := by
  refine calls_in Tryd.func93 Tryd.ntmps93 rfl rfl ?_
  have hp := Hp.start w0
  have hstl : st.length = 8 := by rw [hS.state]; exact foldB_len _ _ hst0 _
  have htl := hS.len
  obtain ⟨epl, epe⟩ := padL_good (bf + text.length) hz
  have hpl := padL_len ((bf + text.length : Nat) : Int)
  rw [epl] at hpl
  have hsz0 : 1 < w0.heap.size := hk.lt (by simp [kL])
  refine sc_seq ?_
  refine sc_region ?_
  refine st_alloc 2 ((List.replicate 32 (0 : UInt8)).map B8) hp rfl zl34 rfl (fun b2 w hp => ?_)
  refine st_nil ?_
  refine pn_then ?_
  refine sc_seq ?_
  refine sc_region ?_
  refine st_alloc 3 ((List.replicate 32 (0 : UInt8)).map B8) hp rfl zl34 rfl (fun b3 w hp => ?_)
  refine st_nil ?_
  refine pn_then ?_
  refine sc_seq ?_
  refine sc_seq ?_
  refine sc_region ?_
  refine st_v (ov_move rfl) rfl ?_
  refine st_v (ov_eqlP Tryd.underlying132 rfl rfl) rfl ?_
  refine st_nil ?_
  refine pn_then ?_
  refine sc_cond rfl (fun hc => ?_) (fun hc => ?_)
  · exact absurd hc (by simp)
  skip
  refine sc_skip ?_
  refine pn_then ?_
  refine sc_seq ?_
  refine sc_region ?_
  refine st_v (ov_move rfl) rfl ?_
  refine st_v (ov_nilCheck rfl) rfl ?_
  refine st_v (ov_loadN rfl Tryd.underlying124 rfl (sz124.trans (by rw [strm_len hstl htl])) (hp.old hB.cells (by simp))) rfl ?_
  refine st_alloc 4 (((List.replicate 8 (0 : UInt32)).map B32) ++ (([Value.int .i64 0]) ++ ((List.replicate 64 (0 : UInt8)).map B8))) hp rfl zl124 rfl (fun b4 w hp => ?_)
  refine st_storeA 4 hp rfl rfl rfl (by rw [strm_len hstl htl]; simp) (sz124.trans (by rw [strm_len hstl htl])) (strm_one _ _ _) (fun w hp => ?_)
  refine st_nil ?_
  refine pn_then ?_
  refine sc_seq ?_
  refine sc_region ?_
  refine st_v (ov_field (q := 8) rfl Tryd.underlying124 rfl sz3 rfl) rfl ?_
  refine st_v (ov_load1 rfl Tryd.underlying3 rfl (strm_done (hp.cells' (t := 4) rfl) hstl)) rfl ?_
  have hcall := pad_walk2 ((bf + text.length : Nat) : Int) w (by omega)
  refine st_call pl102 rfl rfl rfl hcall ?_
  rintro _ w ⟨g7, rfl, hmade⟩
  refine ⟨_, rfl, ?_⟩
  have hp7c := hmade.2.2.2
  replace hp := hp.call_made 7 hmade
  clear hmade hcall
  rw [epl] at hp hp7c ⊢
  refine st_v (ov_move rfl) rfl ?_
  refine st_v (ov_extract rfl rfl) rfl ?_
  refine st_v (ov_extract rfl rfl) rfl ?_
  refine st_v (ov_assign rfl) rfl ?_
  refine st_v (ov_assign rfl) rfl ?_
  refine st_nil ?_
  refine pn_then ?_
  refine sc_seq ?_
  refine sc_region ?_
  refine st_v (ov_move rfl) rfl ?_
  have hcap7 : (padOf (bf + text.length)).length ≤ g7.cap := by
    have h9 := hp7c; rw [List.length_append, List.length_map] at h9; omega
  refine st_call pl92 rfl rfl rfl (take_walk b4 (bf + text.length) st0 st tl text (padOf (bf + text.length)) _ _ _ hst0 hS (by omega) (hp.own 4 _ rfl) (Rd.own (hp.own 7 _ rfl)) hcap7 (hp.off (t := 4) (t' := 7) rfl rfl (by decide)) (by omega) (hp.old hk (by simp)) (fun e => by rcases hp.mine 4 _ b4 rfl rfl with h | h; omega; simp at h)) ?_
  rintro _ w ⟨rfl, hch, st', tl', hB', hS'⟩
  refine ⟨_, rfl, ?_⟩
  replace hp := hp.upd (t := 4) rfl hch hB'
  have hst' : st'.length = 8 := by rw [hS'.state]; exact foldB_len _ _ hst0 _
  have hend := end_whole hS'
  clear hch hB' hS'
  refine st_nil ?_
  refine pn_then ?_
  refine sc_seq ?_
  refine sc_seq ?_
  refine sc_region ?_
  refine st_v (ov_field (q := 0) rfl Tryd.underlying124 rfl sz122 rfl) rfl ?_
  refine st_v (ov_loadN rfl Tryd.underlying122 rfl (sz122.trans (by simp [hst'])) (hp.cells' (t := 4) rfl).left) rfl ?_
  refine st_v (ov_move rfl) rfl ?_
  refine st_nil ?_
  refine pn_then ?_
  refine sc_block ?_
  refine sc_loop1 (α := Nat) 0 (fun i => [(25, .int .i64 ((i : Nat) : Int)), (24, (.agg (st'.map B32).toArray)), (2, .pointer (some ⟨b2, 0, none⟩)), (3, .pointer (some ⟨b3, 0, none⟩))]) (fun i w => Hp w0 [] [(3, ⟨some b3, (hashN st' (4 * i)).map B8, 34⟩), (2, ⟨some b2, (List.replicate 32 (0 : UInt8)).map B8, 34⟩)] [] w ∧ i ≤ 8) (fun i => 8 - i) ?_ ?_ ?_
  · exact (Sub.cons rfl (Sub.cons rfl (Sub.cons rfl (Sub.cons rfl (Sub.nil _)))))
  · exact ⟨hp.sub (lsub_cons rfl (lsub_cons rfl (lsub_nil _))), by omega⟩
  intro i w hw
  obtain ⟨hp, hi⟩ := hw
  have hhl := hashN_len st' (4 * i)
  refine sc_seq ?_
  refine sc_region ?_
  refine st_v (ov_lss rfl rfl) rfl ?_
  refine st_nil ?_
  refine pn_then ?_
  refine sc_seq ?_
  refine sc_cond rfl (fun hc => ?_) (fun hc => ?_)
  ·
    have hc := of_decide_eq_true hc
    refine sc_skip ?_
    refine pn_then ?_
    refine sc_seq ?_
    refine sc_block ?_
    refine sc_seq ?_
    refine sc_region ?_
    refine st_v (ov_move rfl) rfl ?_
    refine st_v (ov_indexV rfl rfl Tryd.underlying122 sz121 Tryd.underlying121 rfl (by omega) (v := B32 (st'.getD i 0)) (by rw [Int.toNat_natCast, List.getElem?_map, List.getD, List.getElem?_eq_getElem (by omega)]; rfl)) rfl ?_
    refine st_v (ov_assign rfl) rfl ?_
    refine st_v (ov_assign rfl) rfl ?_
    refine st_nil ?_
    refine pn_then ?_
    refine sc_seq ?_
    refine sc_region ?_
    refine st_v (ov_move rfl) rfl ?_
    refine st_v (ov_mul_i64 rfl rfl (by omega)) rfl ?_
    refine st_v (ov_move rfl) rfl ?_
    refine st_v (ov_shr_n (a := (st'.getD i 0).toNat) (s := 24) rfl rfl ⟨rfl, by decide⟩) rfl ?_
    refine st_v (ov_conv_u32_u8 Tryd.underlying121 Tryd.underlying5 rfl) rfl ?_
    refine st_v (ov_indexA rfl rfl Tryd.underlying34 sz5 (by omega)) rfl ?_
    refine st_storeE 3 hp rfl rfl rfl (4 * i) (by simp; omega) rfl sz5 (fun w hp => ?_)
    refine st_nil ?_
    refine pn_then ?_
    refine sc_seq ?_
    refine sc_region ?_
    refine st_v (ov_move rfl) rfl ?_
    refine st_v (ov_mul_i64 rfl rfl (by omega)) rfl ?_
    refine st_v (ov_add_i64 rfl rfl (by omega)) rfl ?_
    refine st_v (ov_move rfl) rfl ?_
    refine st_v (ov_shr_n (a := (st'.getD i 0).toNat) (s := 16) rfl rfl ⟨rfl, by decide⟩) rfl ?_
    refine st_v (ov_conv_u32_u8 Tryd.underlying121 Tryd.underlying5 rfl) rfl ?_
    refine st_v (ov_indexA rfl rfl Tryd.underlying34 sz5 (by omega)) rfl ?_
    refine st_storeE 3 hp rfl rfl rfl ((4 * i) + 1) (by simp; omega) rfl sz5 (fun w hp => ?_)
    refine st_nil ?_
    refine pn_then ?_
    refine sc_seq ?_
    refine sc_region ?_
    refine st_v (ov_move rfl) rfl ?_
    refine st_v (ov_mul_i64 rfl rfl (by omega)) rfl ?_
    refine st_v (ov_add_i64 rfl rfl (by omega)) rfl ?_
    refine st_v (ov_move rfl) rfl ?_
    refine st_v (ov_shr_n (a := (st'.getD i 0).toNat) (s := 8) rfl rfl ⟨rfl, by decide⟩) rfl ?_
    refine st_v (ov_conv_u32_u8 Tryd.underlying121 Tryd.underlying5 rfl) rfl ?_
    refine st_v (ov_indexA rfl rfl Tryd.underlying34 sz5 (by omega)) rfl ?_
    refine st_storeE 3 hp rfl rfl rfl ((4 * i) + 2) (by simp; omega) rfl sz5 (fun w hp => ?_)
    refine st_nil ?_
    refine pn_then ?_
    refine sc_region ?_
    refine st_v (ov_move rfl) rfl ?_
    refine st_v (ov_mul_i64 rfl rfl (by omega)) rfl ?_
    refine st_v (ov_add_i64 rfl rfl (by omega)) rfl ?_
    refine st_v (ov_move rfl) rfl ?_
    refine st_v (ov_conv_u32_u8 (a := (st'.getD i 0).toNat) Tryd.underlying121 Tryd.underlying5 rfl) rfl ?_
    refine st_v (ov_indexA rfl rfl Tryd.underlying34 sz5 (by omega)) rfl ?_
    refine st_storeE 3 hp rfl rfl rfl ((4 * i) + 3) (by simp; omega) rfl sz5 (fun w hp => ?_)
    refine st_nil ?_
    refine pn_block ?_
    refine pn_then ?_
    refine sc_region ?_
    refine st_v (ov_add_i64 rfl rfl (by omega)) rfl ?_
    refine st_v (ov_move rfl) rfl ?_
    refine st_nil ?_
    refine pn_round1 (i + 1) ?_ ?_ ?_
    · exact (Sub.cons rfl (Sub.cons rfl (Sub.cons rfl (Sub.cons rfl (Sub.nil _)))))
    · omega
    ·
      rw [← hashN_4] at hp
      exact ⟨hp.sub (lsub_cons rfl (lsub_cons rfl (lsub_nil _))), by omega⟩
  ·
    have hc := of_decide_eq_false hc
    obtain rfl : i = 8 := by omega
    rw [show 4 * 8 = 32 from rfl, hashN_end, hend] at hp
    refine sc_exit ?_
    refine pe_then ?_
    refine pe_then ?_
    refine pe_hit ?_
    refine pn_then ?_
    refine sc_seq ?_
    refine sc_region ?_
    refine st_v (ov_loadN rfl Tryd.underlying34 rfl (sz34.trans (by simp [endOf_len])) (hp.cells' (t := 3) rfl)) rfl ?_
    refine st_storeA 2 hp rfl rfl rfl (by simp [endOf_len]) (sz34.trans (by simp [endOf_len])) (one_all _) (fun w hp => ?_)
    refine st_nil ?_
    refine pn_then ?_
    refine sc_ret ?_
    refine pr_rv1 rfl (rv_cells rfl Tryd.underlying34 rfl (sz34.trans (by simp [endOf_len])) (hp.cells' (t := 2) rfl)) ?_
    exact ⟨rfl, hp.chg⟩

set_option maxRecDepth 100000 in
theorem sumd_walk (a : List UInt8) (ao : Option Addr) (ca : Nat) (w0 : World) (h1 : Rd w0 ao (a.map B8)) (hca : a.length ≤ ca) (hz : a.length ≤ 140737488351232) (hk : Cells w0 1 0 (kL.map B32)) (hf : Cells w0 0 0 (fL.map B32)) :
    Calls Tryd.prog 77 #[.slice ao a.length ca] w0 fun e w' => e = .returned (.agg ((sumOf a).map B8).toArray) ∧ Chg [] w0 w' := by
  refine calls_in Tryd.func77 Tryd.ntmps77 rfl rfl ?_
  have hp := Hp.start w0
  have hsz0 : 1 < w0.heap.size := hk.lt (by simp [kL])
  refine sc_seq ?_
  refine sc_region ?_
  refine st_alloc 2 ((List.replicate 32 (0 : UInt8)).map B8) hp rfl zl34 rfl (fun b2 w hp => ?_)
  refine st_nil ?_
  refine pn_then ?_
  refine sc_seq ?_
  refine sc_region ?_
  refine st_v (ov_loadN rfl Tryd.underlying122 rfl (sz122.trans rfl) (hp.old hf (by simp))) rfl ?_
  refine st_v (ov_buildS (pl := #[(0, 8), (8, 1), (9, 64)]) (cells := strm fL 0 (List.replicate 64 0)) rfl Tryd.underlying124 zl124 (by intro w; kernel_rfl) (by kernel_rfl)) rfl ?_
  refine st_alloc 3 (((List.replicate 8 (0 : UInt32)).map B32) ++ (([Value.int .i64 0]) ++ ((List.replicate 64 (0 : UInt8)).map B8))) hp rfl zl124 rfl (fun b3 w hp => ?_)
  refine st_storeA 3 hp rfl rfl rfl (by simp [fL_len]) (sz124.trans (by simp [fL_len])) (strm_one _ _ _) (fun w hp => ?_)
  refine st_nil ?_
  refine pn_then ?_
  refine sc_seq ?_
  refine sc_region ?_
  refine st_v (ov_move rfl) rfl ?_
  have hge : w0.heap.size ≤ b3 := by
    rcases hp.mine 3 _ b3 rfl rfl with h | h
    · exact h
    · simp at h
  refine st_call pl92 rfl rfl rfl (take_walk b3 0 fL fL (List.replicate 64 0) [] a ao ca _ rfl (stands_nil fL _ (by simp)) rfl (hp.own 3 _ rfl) (h1.chg hp.chg) hca (h1.off_new hge) (by omega) (hp.old hk (by simp)) (by omega)) ?_
  rintro _ w ⟨rfl, hch, st', tl', hB', hS'⟩
  refine ⟨_, rfl, ?_⟩
  replace hp := hp.upd (t := 3) rfl hch hB'
  rw [List.nil_append] at hS'
  clear hch hB'
  refine st_nil ?_
  refine pn_then ?_
  refine sc_seq ?_
  refine sc_region ?_
  refine st_call pl93 rfl rfl rfl (sums_walk b3 0 fL st' tl' a _ rfl hS' rfl (hp.own 3 _ rfl) (by omega) (hp.old hk (by simp))) ?_
  rintro _ w ⟨rfl, hch⟩
  refine ⟨_, rfl, ?_⟩
  replace hp := hp.call hch
  clear hch
  rw [show endOf fL 0 a = sumOf a from rfl]
  refine st_storeA 2 hp rfl rfl rfl (by simp [sumOf_len]) (sz34.trans (by simp [sumOf_len])) (one_all _) (fun w hp => ?_)
  refine st_nil ?_
  refine pn_then ?_
  refine sc_ret ?_
  refine pr_rv1 rfl (rv_cells rfl Tryd.underlying34 rfl (sz34.trans (by simp [sumOf_len])) (hp.cells' (t := 2) rfl)) ?_
  exact ⟨rfl, hp.chg⟩

end Go.Proofs.YtjdolgfhcjnniaaDoor
