/-
  The walks of fold, end and the plain Sum.
-/
import Derived.Test.YtjdolgfhcjnniaaDoorCompB
import Derived.Test.YtjdolgfhcjnniaaDoorStreamP
import Derived.Test.YtjdolgfhcjnniaaDoorPadA
namespace Go.Proofs.YtjdolgfhcjnniaaDoor
open Go Go.RowKit

set_option maxRecDepth 100000 in
theorem fold_walk (st : List UInt32) (hst : st.length = 8) (a : List UInt8) (ao : Option Addr) (ca : Nat) (w0 : World) (h1 : Rd w0 ao (a.map B8)) (hz : a.length ≤ 281474976710656) :
    Calls Tryd.prog 108 #[.agg (st.map B32).toArray, .slice ao a.length ca] w0 fun e w' => e = .returned (.agg ((foldT st a).map B32).toArray) ∧ Chg [] w0 w' := by
  refine calls_in Tryd.func108 Tryd.ntmps108 rfl rfl ?_
  have hp := Hp.start w0
  refine sc_seq ?_
  refine sc_region ?_
  refine st_box 2 hp rfl rfl rfl (fun b2 w hp => ?_)
  refine st_alloc 4 ((List.replicate 8 (0 : UInt32)).map B32) hp rfl zl122 rfl (fun b4 w hp => ?_)
  refine st_nil ?_
  refine pn_then ?_
  refine sc_seq ?_
  refine sc_seq ?_
  refine sc_region ?_
  refine st_v (ov_assign rfl) rfl ?_
  refine st_nil ?_
  refine pn_then ?_
  refine sc_block ?_
  refine sc_loop1 (α := Nat) 0 (fun k => [(5, .int .i64 ((64 * k : Nat) : Int)), (2, .pointer (some ⟨b2, 0, none⟩)), (4, .pointer (some ⟨b4, 0, none⟩)), (1, .slice ao a.length ca)]) (fun k w => Hp w0 [] [(2, ⟨some b2, (foldB st a k).map B32, 122⟩), (4, ⟨some b4, z32 8, 122⟩)] [] w ∧ 64 * k ≤ a.length) (fun k => a.length - 64 * k) ?_ ?_ ?_
  · exact (Sub.cons rfl (Sub.cons rfl (Sub.cons rfl (Sub.cons rfl (Sub.nil _)))))
  · exact ⟨hp.sub (lsub_cons rfl (lsub_cons rfl (lsub_nil _))), by omega⟩
  intro k w hw
  obtain ⟨hp, hk⟩ := hw
  have hfl := foldB_len st a hst k
  refine sc_seq ?_
  refine sc_seq ?_
  refine sc_region ?_
  refine st_v (ov_move rfl) rfl ?_
  refine st_v (ov_add_i64 rfl rfl (by omega)) rfl ?_
  refine st_v (ov_move rfl) rfl ?_
  refine st_v (ov_len rfl Tryd.underlying24 rfl) rfl ?_
  refine st_v (ov_leq rfl rfl) rfl ?_
  refine st_nil ?_
  refine pn_then ?_
  refine sc_cond rfl (fun hc => ?_) (fun hc => ?_)
  ·
    have hc := of_decide_eq_true hc
    refine sc_skip ?_
    refine pn_then ?_
    refine sc_seq ?_
    refine sc_block ?_
    refine sc_seq ?_
    refine sc_region ?_
    refine st_alloc 6 ((List.replicate 64 (0 : UInt8)).map B8) hp rfl zl118 rfl (fun b6 w hp => ?_)
    refine st_nil ?_
    refine pn_then ?_
    refine sc_seq ?_
    refine sc_seq ?_
    refine sc_region ?_
    refine st_v (ov_assign rfl) rfl ?_
    refine st_nil ?_
    refine pn_then ?_
    refine sc_block ?_
    refine sc_loop1 (α := Nat) 0 (fun i => [(7, .int .i64 ((i : Nat) : Int)), (5, .int .i64 ((64 * k : Nat) : Int)), (2, .pointer (some ⟨b2, 0, none⟩)), (4, .pointer (some ⟨b4, 0, none⟩)), (6, .pointer (some ⟨b6, 0, none⟩)), (1, .slice ao a.length ca)]) (fun i w => Hp w0 [] [(6, ⟨some b6, (blkN a k i).map B8, 118⟩), (2, ⟨some b2, (foldB st a k).map B32, 122⟩), (4, ⟨some b4, z32 8, 122⟩)] [] w ∧ i ≤ 64) (fun i => 64 - i) ?_ ?_ ?_
    · exact (Sub.cons rfl (Sub.cons rfl (Sub.cons rfl (Sub.cons rfl (Sub.cons rfl (Sub.cons rfl (Sub.nil _)))))))
    · exact ⟨hp.sub (lsub_cons rfl (lsub_cons rfl (lsub_cons rfl (lsub_nil _)))), by omega⟩
    intro i w hw
    obtain ⟨hp, hi⟩ := hw
    have hbl := blkN_len a k i
    refine sc_seq ?_
    refine sc_seq ?_
    refine sc_region ?_
    refine st_v (ov_move rfl) rfl ?_
    refine st_v (ov_lss rfl rfl) rfl ?_
    refine st_nil ?_
    refine pn_then ?_
    refine sc_cond rfl (fun hc => ?_) (fun hc => ?_)
    ·
      have hc := of_decide_eq_true hc
      refine sc_skip ?_
      refine pn_then ?_
      refine sc_seq ?_
      refine sc_block ?_
      refine sc_region ?_
      refine st_v (ov_move rfl) rfl ?_
      refine st_v (ov_move rfl) rfl ?_
      refine st_v (ov_move rfl) rfl ?_
      refine st_v (ov_move rfl) rfl ?_
      refine st_v (ov_add_i64 rfl rfl (by omega)) rfl ?_
      obtain ⟨bb1, oo1, hadr1, hcl1⟩ := (h1.chg hp.chg).pos (by simp; omega)
      refine st_v (ov_indexR hadr1 rfl rfl Tryd.underlying24 sz5 (by omega)) rfl ?_
      refine st_v (ov_load1 rfl Tryd.underlying5 rfl (Cells.elem' hcl1 ((64 * k) + i) (by omega) 0)) rfl ?_
      refine st_v (ov_indexA rfl rfl Tryd.underlying118 sz5 (by omega)) rfl ?_
      refine st_storeE 6 hp rfl rfl rfl (i) (by omega) rfl sz5 (fun w hp => ?_)
      refine st_nil ?_
      refine pn_block ?_
      refine pn_then ?_
      refine sc_region ?_
      refine st_v (ov_move rfl) rfl ?_
      refine st_v (ov_add_i64 rfl rfl (by omega)) rfl ?_
      refine st_v (ov_assign rfl) rfl ?_
      refine st_nil ?_
      refine pn_round1 (i + 1) ?_ ?_ ?_
      · exact (Sub.cons rfl (Sub.cons rfl (Sub.cons rfl (Sub.cons rfl (Sub.cons rfl (Sub.cons rfl (Sub.nil _)))))))
      · omega
      ·
        exact ⟨hp.sub (lsub_cons rfl (lsub_cons rfl (lsub_cons rfl (lsub_nil _)))), by omega⟩
    ·
      have hc := of_decide_eq_false hc
      obtain rfl : i = 64 := by omega
      rw [blkN_end a k (by omega)] at hp
      have hbk : ((a.drop (64 * k)).take 64).length = 64 := by simp; omega
      refine sc_exit ?_
      refine pe_then ?_
      refine pe_then ?_
      refine pe_hit ?_
      refine pn_then ?_
      refine sc_region ?_
      refine st_v (ov_loadN rfl Tryd.underlying122 rfl (sz122.trans (by simp [*, compress_len])) (hp.cells' (t := 2) rfl)) rfl ?_
      refine st_v (ov_loadN rfl Tryd.underlying118 rfl (sz118.trans (by rw [List.length_map, hbk])) (hp.cells' (t := 6) rfl)) rfl ?_
      refine st_call pl109 rfl rfl rfl (compr_walk _ _ hfl hbk _) ?_
      rintro _ w ⟨rfl, hch⟩
      refine ⟨_, rfl, ?_⟩
      replace hp := hp.call hch
      clear hch
      refine st_storeA 2 hp rfl rfl rfl (by simp [*, compress_len]) (sz122.trans (by simp [*, compress_len])) (one_all _) (fun w hp => ?_)
      refine st_nil ?_
      refine pn_block ?_
      refine pn_then ?_
      refine sc_region ?_
      refine st_v (ov_move rfl) rfl ?_
      refine st_v (ov_add_i64 rfl rfl (by omega)) rfl ?_
      refine st_v (ov_assign rfl) rfl ?_
      refine st_nil ?_
      rw [show ((64 * k : Nat) : Int) + 64 = ((64 * (k + 1) : Nat) : Int) by omega]
      refine pn_round1 (k + 1) ?_ ?_ ?_
      · exact (Sub.cons rfl (Sub.cons rfl (Sub.cons rfl (Sub.cons rfl (Sub.nil _)))))
      · omega
      ·
        exact ⟨hp.sub (lsub_cons rfl (lsub_cons rfl (lsub_nil _))), by omega⟩
  ·
    have hc := of_decide_eq_false hc
    have hke : k = a.length / 64 := by omega
    subst hke
    refine sc_exit ?_
    refine pe_then ?_
    refine pe_then ?_
    refine pe_hit ?_
    refine pn_then ?_
    refine sc_seq ?_
    refine sc_region ?_
    rw [show foldB st a (a.length / 64) = foldT st a from rfl] at hp hfl
    refine st_v (ov_loadN rfl Tryd.underlying122 rfl (sz122.trans (by simp [*, compress_len])) (hp.cells' (t := 2) rfl)) rfl ?_
    refine st_storeA 4 hp rfl rfl rfl (by simp [*, compress_len]) (sz122.trans (by simp [*, compress_len])) (one_all _) (fun w hp => ?_)
    refine st_nil ?_
    refine pn_then ?_
    refine sc_ret ?_
    refine pr_rv1 rfl (rv_cells rfl Tryd.underlying122 rfl (sz122.trans (by simp [*, compress_len])) (hp.cells' (t := 4) rfl)) ?_
    exact ⟨rfl, hp.chg⟩

set_option maxRecDepth 100000 in
theorem end_walk (st : List UInt32) (hst : st.length = 8) (bf : Nat) (a : List UInt8) (ao : Option Addr) (ca : Nat) (w0 : World) (h1 : Rd w0 ao (a.map B8)) (hz : a.length ≤ 140737488351232) (hbf : bf + a.length ≤ 2305843009213693951) :
    Calls Tryd.prog 103 #[.agg (st.map B32).toArray, .int .i64 (bf : Int), .slice ao a.length ca] w0 fun e w' => e = .returned (.agg ((endOf st bf a).map B8).toArray) ∧ Chg [] w0 w' := by
  refine calls_in Tryd.func103 Tryd.ntmps103 rfl rfl ?_
  have hp := Hp.start w0
  have hpl := padL_len ((bf + a.length : Nat) : Int)
  obtain ⟨epl, epe⟩ := padL_good (bf + a.length) hbf
  refine sc_seq ?_
  refine sc_region ?_
  refine st_box 3 hp rfl rfl rfl (fun b3 w hp => ?_)
  refine st_alloc 6 ((List.replicate 32 (0 : UInt8)).map B8) hp rfl zl34 rfl (fun b6 w hp => ?_)
  refine st_nil ?_
  refine pn_then ?_
  refine sc_seq ?_
  refine sc_region ?_
  refine st_v (ov_move rfl) rfl ?_
  refine st_v (ov_move rfl) rfl ?_
  refine st_v (ov_len rfl Tryd.underlying24 rfl) rfl ?_
  refine st_v (ov_add_i64 rfl rfl (by omega)) rfl ?_
  have hcall := padr_walk2 ((bf + a.length : Nat) : Int) w (by omega)
  refine st_call pl107 rfl rfl rfl (by rw [← Int.natCast_add]; exact hcall) ?_
  rintro _ w ⟨g7, rfl, hmade⟩
  refine ⟨_, rfl, ?_⟩
  replace hp := hp.call_made 7 hmade
  clear hmade hcall
  rw [epl] at hp ⊢
  refine st_v (ov_move rfl) rfl ?_
  refine st_v (ov_extract rfl rfl) rfl ?_
  refine st_v (ov_extract rfl rfl) rfl ?_
  refine st_v (ov_assign rfl) rfl ?_
  refine st_v (ov_assign rfl) rfl ?_
  refine st_nil ?_
  refine pn_then ?_
  refine sc_seq ?_
  refine sc_region ?_
  refine st_v (ov_assign rfl) rfl ?_
  replace hp := hp.nil 9 5
  refine st_nil ?_
  refine pn_then ?_
  refine sc_seq ?_
  refine sc_region ?_
  refine st_v (ov_move rfl) rfl ?_
  refine st_v (ov_move rfl) rfl ?_
  refine st_append 9 gnil (xs := []) (news := a.map B8) (m := a.length) hp rfl rfl rfl rfl rfl Tryd.underlying24 in5 (by decide) rfl rfl rfl (h1.chg hp.chg) (by simp) (one_all _) (by omega) (fun g2 w hp hcap hf9 => ?_)
  rw [Nat.zero_add, List.nil_append] at *
  refine st_v (ov_assign rfl) rfl ?_
  refine st_nil ?_
  refine pn_then ?_
  refine sc_seq ?_
  refine sc_region ?_
  refine st_v (ov_move rfl) rfl ?_
  refine st_v (ov_move rfl) rfl ?_
  refine st_append 9 g2 (news := (padOf (bf + a.length)).map B8) (m := (padOf (bf + a.length)).length) hp rfl rfl rfl rfl rfl Tryd.underlying24 in5 (by decide) rfl (by simp) hcap (Rd.own (hp.own 7 _ rfl)) (by simp) (one_all _) (by rw [epl] at hpl; omega) (fun g3 w hp hcap hf9 => ?_)
  refine st_v (ov_assign rfl) rfl ?_
  refine st_nil ?_
  refine pn_then ?_
  refine sc_seq ?_
  have eall : a.map B8 ++ (padOf (bf + a.length)).map B8 = (a ++ padOf (bf + a.length)).map B8 := by rw [List.map_append]
  rw [eall] at hp
  have elen : a.length + (padOf (bf + a.length)).length = (a ++ padOf (bf + a.length)).length := by rw [List.length_append]
  rw [elen]
  refine sc_region ?_
  refine st_v (ov_loadN rfl Tryd.underlying122 rfl (sz122.trans (by simp [*, compress_len])) (hp.cells' (t := 3) rfl)) rfl ?_
  refine st_v (ov_move rfl) rfl ?_
  refine st_call pl108 rfl rfl rfl (fold_walk st hst (a ++ padOf (bf + a.length)) _ _ _ (Rd.own (hp.own 9 _ rfl)) (by rw [epl] at hpl; rw [List.length_append]; omega)) ?_
  rintro _ w ⟨rfl, hch⟩
  refine ⟨_, rfl, ?_⟩
  replace hp := hp.call hch
  clear hch
  generalize hS : foldT st (a ++ padOf (bf + a.length)) = S at hp ⊢
  have hSl : S.length = 8 := by rw [← hS]; exact foldB_len _ _ hst _
  refine st_storeA 3 hp rfl rfl rfl (by simp [*, compress_len]) (sz122.trans (by simp [*, compress_len])) (one_all _) (fun w hp => ?_)
  refine st_nil ?_
  refine pn_then ?_
  refine sc_seq ?_
  refine sc_region ?_
  refine st_alloc 10 ((List.replicate 32 (0 : UInt8)).map B8) hp rfl zl34 rfl (fun b10 w hp => ?_)
  refine st_nil ?_
  refine pn_then ?_
  refine sc_seq ?_
  refine sc_seq ?_
  refine sc_region ?_
  refine st_v (ov_assign rfl) rfl ?_
  refine st_nil ?_
  refine pn_then ?_
  refine sc_block ?_
  refine sc_loop1 (α := Nat) 0 (fun i => [(11, .int .i64 ((i : Nat) : Int)), (3, .pointer (some ⟨b3, 0, none⟩)), (6, .pointer (some ⟨b6, 0, none⟩)), (10, .pointer (some ⟨b10, 0, none⟩))]) (fun i w => Hp w0 [] [(10, ⟨some b10, (hashN S i).map B8, 34⟩), (3, ⟨some b3, S.map B32, 122⟩), (6, ⟨some b6, (List.replicate 32 (0 : UInt8)).map B8, 34⟩)] [] w ∧ i ≤ 32) (fun i => 32 - i) ?_ ?_ ?_
  · exact (Sub.cons rfl (Sub.cons rfl (Sub.cons rfl (Sub.cons rfl (Sub.nil _)))))
  · exact ⟨hp.sub (lsub_cons rfl (lsub_cons rfl (lsub_cons rfl (lsub_nil _)))), by omega⟩
  intro i w hw
  obtain ⟨hp, hi⟩ := hw
  have hhl := hashN_len S i
  refine sc_seq ?_
  refine sc_seq ?_
  refine sc_region ?_
  refine st_v (ov_move rfl) rfl ?_
  refine st_v (ov_lss rfl rfl) rfl ?_
  refine st_nil ?_
  refine pn_then ?_
  refine sc_cond rfl (fun hc => ?_) (fun hc => ?_)
  ·
    have hc := of_decide_eq_true hc
    refine sc_skip ?_
    refine pn_then ?_
    refine sc_seq ?_
    refine sc_block ?_
    refine sc_region ?_
    refine st_v (ov_move rfl) rfl ?_
    refine st_v (ov_move rfl) rfl ?_
    refine st_v (ov_quo_i64 rfl rfl (by omega)) rfl ?_
    refine st_v (ov_indexA rfl rfl Tryd.underlying122 sz121 (by omega)) rfl ?_
    refine st_v (ov_load1 rfl Tryd.underlying121 rfl (Cells.elem' (hp.cells' (t := 3) rfl) (i / 4) (by omega) 0)) rfl ?_
    refine st_v (ov_move rfl) rfl ?_
    refine st_v (ov_rem_i64 rfl rfl (by omega)) rfl ?_
    refine st_v (ov_mul_i64 rfl rfl (by omega)) rfl ?_
    refine st_v (ov_sub_i64 rfl rfl (by omega)) rfl ?_
    refine st_v (ov_shr_n (a := (S.getD (i / 4) 0).toNat) (s := 24 - 8 * (i % 4)) rfl rfl ⟨by omega, by show 24 - 8 * (i % 4) ≤ 32; omega⟩) rfl ?_
    refine st_v (ov_conv_u32_u8 Tryd.underlying121 Tryd.underlying5 rfl) rfl ?_
    refine st_v (ov_indexA rfl rfl Tryd.underlying34 sz5 (by omega)) rfl ?_
    refine st_storeE 10 hp rfl rfl rfl (i) (by omega) rfl sz5 (fun w hp => ?_)
    refine st_nil ?_
    refine pn_block ?_
    refine pn_then ?_
    refine sc_region ?_
    refine st_v (ov_move rfl) rfl ?_
    refine st_v (ov_add_i64 rfl rfl (by omega)) rfl ?_
    refine st_v (ov_assign rfl) rfl ?_
    refine st_nil ?_
    refine pn_round1 (i + 1) ?_ ?_ ?_
    · exact (Sub.cons rfl (Sub.cons rfl (Sub.cons rfl (Sub.cons rfl (Sub.nil _)))))
    · omega
    ·
      exact ⟨hp.sub (lsub_cons rfl (lsub_cons rfl (lsub_cons rfl (lsub_nil _)))), by omega⟩
  ·
    have hc := of_decide_eq_false hc
    obtain rfl : i = 32 := by omega
    rw [hashN_end] at hp
    refine sc_exit ?_
    refine pe_then ?_
    refine pe_then ?_
    refine pe_hit ?_
    refine pn_then ?_
    refine sc_seq ?_
    refine sc_region ?_
    refine st_v (ov_loadN rfl Tryd.underlying34 rfl (sz34.trans (by simp [bytesOf_len])) (hp.cells' (t := 10) rfl)) rfl ?_
    refine st_storeA 6 hp rfl rfl rfl (by simp [bytesOf_len]) (sz34.trans (by simp [bytesOf_len])) (one_all _) (fun w hp => ?_)
    refine st_nil ?_
    refine pn_then ?_
    refine sc_ret ?_
    refine pr_rv1 rfl (rv_cells rfl Tryd.underlying34 rfl (sz34.trans (by simp [bytesOf_len])) (hp.cells' (t := 6) rfl)) ?_
    exact ⟨by unfold endOf; rw [hS], hp.chg⟩

set_option maxRecDepth 100000 in
theorem sumr_walk (a : List UInt8) (ao : Option Addr) (ca : Nat) (w0 : World) (h1 : Rd w0 ao (a.map B8)) (hz : a.length ≤ 140737488351232) :
    Calls Tryd.prog 97 #[.slice ao a.length ca] w0 fun e w' => e = .returned (.agg ((sumOf a).map B8).toArray) ∧ Chg [] w0 w' := by
  refine calls_in Tryd.func97 Tryd.ntmps97 rfl rfl ?_
  have hp := Hp.start w0
  refine sc_seq ?_
  refine sc_region ?_
  refine st_alloc 2 ((List.replicate 32 (0 : UInt8)).map B8) hp rfl zl34 rfl (fun b2 w hp => ?_)
  refine st_nil ?_
  refine pn_then ?_
  refine sc_seq ?_
  refine sc_region ?_
  refine st_call pl104 rfl rfl rfl (first_walk _) ?_
  rintro _ w ⟨rfl, hch⟩
  refine ⟨_, rfl, ?_⟩
  replace hp := hp.call hch
  clear hch
  refine st_v (ov_move rfl) rfl ?_
  refine st_call pl103 rfl rfl rfl (end_walk fL rfl 0 a _ _ _ (h1.chg hp.chg) (by omega) (by omega)) ?_
  rintro _ w ⟨rfl, hch⟩
  refine ⟨_, rfl, ?_⟩
  replace hp := hp.call hch
  clear hch
  rw [show endOf fL 0 a = sumOf a from rfl]
  refine st_storeA 2 hp rfl rfl rfl (by simp [sumOf_len]) (sz34.trans (by simp [sumOf_len])) (one_all _) (fun w hp => ?_)
  refine st_nil ?_
  refine pn_then ?_
  refine sc_ret ?_
  refine pr_rv1 rfl (rv_cells rfl Tryd.underlying34 rfl (sz34.trans (by simp [sumOf_len])) (hp.cells' (t := 2) rfl)) ?_
  exact ⟨rfl, hp.chg⟩

end Go.Proofs.YtjdolgfhcjnniaaDoor
