/-
  The walk of the law DigestFolds.
-/
import Derived.Test.YtcpbfnbfbladoaaDoorTabC
import Derived.Test.YtcpbfnbfbladoaaDoorSumA
import Derived.Test.YtcpbfnbfbladoaaDoorListA
namespace Go.Proofs.YtcpbfnbfbladoaaDoor
open Go Go.RowKit

set_option maxRecDepth 100000 in
theorem bytes32_walk (st : List UInt32) (hst : st.length = 8) (w0 : World) :
    Calls Tryd.prog 20 #[.agg (st.map B32).toArray] w0 fun e w' => e = .returned (.agg ((bytesOf st).map B8).toArray) ∧ Chg [] w0 w' := by
  refine calls_in Tryd.func20 Tryd.ntmps20 rfl rfl ?_
  have hp := Hp.start w0
  refine sc_seq ?_
  refine sc_region ?_
  refine st_box 1 hp rfl rfl rfl (fun b1 w hp => ?_)
  refine st_alloc 2 ((List.replicate 32 (0 : UInt8)).map B8) hp rfl zl39 rfl (fun b2 w hp => ?_)
  refine st_nil ?_
  refine pn_then ?_
  refine sc_seq ?_
  refine sc_region ?_
  refine st_alloc 3 ((List.replicate 32 (0 : UInt8)).map B8) hp rfl zl39 rfl (fun b3 w hp => ?_)
  refine st_nil ?_
  refine pn_then ?_
  refine sc_seq ?_
  refine sc_seq ?_
  refine sc_region ?_
  refine st_v (ov_assign rfl) rfl ?_
  refine st_nil ?_
  refine pn_then ?_
  refine sc_block ?_
  refine sc_loopH1 (α := Nat) (kv := [(1, _), (2, _), (3, _)]) (kl := [(2, _), (1, _)]) (fun i kv => (4, .int .i64 ((i : Nat) : Int)) :: kv) (fun i kl => (3, ⟨some b3, (hashN st (4 * i)).map B8, 39⟩) :: kl) (fun i => (i ≤ 8)) (fun i => 8 - i) 0 hp (Sub.cons rfl (Sub.cons rfl (Sub.cons rfl (Sub.cons rfl (Sub.nil _))))) (LSub.cons rfl (LSub.cons rfl (LSub.cons rfl (LSub.nil _)))) ?_ ?_
  · exact (by first | omega | (simp; done) | (simp; omega) | (simp [*]; omega))
  intro i w hp hx
  have hi : i ≤ 8 := hx
  have hhl := hashN_len st (4 * i)
  refine sc_seq ?_
  refine sc_seq ?_
  refine sc_region ?_
  refine st_v (ov_move rfl) rfl ?_
  refine st_v (ov_lss rfl rfl) rfl ?_
  refine st_nil ?_
  refine pn_then ?_
  refine sc_cond rfl (fun hc => ?_) (fun hc => ?_)
  ·
    have hc := of_decide_eq_true hc
    refine sc_skip ?_
    refine pn_then ?_
    refine sc_seq ?_
    refine sc_block ?_
    refine sc_seq ?_
    refine sc_region ?_
    refine st_v (ov_move rfl) rfl ?_
    refine st_v (ov_mul_n (a := 4) (b := i) rfl rfl (by omega)) rfl ?_
    refine st_v (ov_move rfl) rfl ?_
    refine st_v (ov_indexA rfl rfl Tryd.underlying24 sz22 (by omega)) rfl ?_
    refine st_v (ov_load1 rfl Tryd.underlying22 rfl (Cells.elem' (hp.cells' (t := 1) rfl) (i) (by first | omega | (simp; omega) | (simp [*]; omega)) 0)) rfl ?_
    refine st_v (ov_shr_n (a := (st.getD i 0).toNat) (s := 24) rfl rfl ⟨rfl, by decide⟩) rfl ?_
    refine st_v (ov_conv_u32_u8 (a := _) Tryd.underlying22 Tryd.underlying5 rfl) rfl ?_
    refine st_v (ov_indexA rfl rfl Tryd.underlying39 sz5 (by omega)) rfl ?_
    refine st_storeE 3 hp rfl rfl rfl (4 * i) (by first | omega | (simp; omega) | (simp [*]; omega)) rfl sz5 (fun w hp => ?_)
    refine st_nil ?_
    refine pn_then ?_
    refine sc_seq ?_
    refine sc_region ?_
    refine st_v (ov_move rfl) rfl ?_
    refine st_v (ov_mul_n (a := 4) (b := i) rfl rfl (by omega)) rfl ?_
    refine st_v (ov_add_n (a := 4 * i) (b := 1) rfl rfl (by omega)) rfl ?_
    refine st_v (ov_move rfl) rfl ?_
    refine st_v (ov_indexA rfl rfl Tryd.underlying24 sz22 (by omega)) rfl ?_
    refine st_v (ov_load1 rfl Tryd.underlying22 rfl (Cells.elem' (hp.cells' (t := 1) rfl) (i) (by first | omega | (simp; omega) | (simp [*]; omega)) 0)) rfl ?_
    refine st_v (ov_shr_n (a := (st.getD i 0).toNat) (s := 16) rfl rfl ⟨rfl, by decide⟩) rfl ?_
    refine st_v (ov_conv_u32_u8 (a := _) Tryd.underlying22 Tryd.underlying5 rfl) rfl ?_
    refine st_v (ov_indexA rfl rfl Tryd.underlying39 sz5 (by omega)) rfl ?_
    refine st_storeE 3 hp rfl rfl rfl ((4 * i) + 1) (by first | omega | (simp; omega) | (simp [*]; omega)) rfl sz5 (fun w hp => ?_)
    refine st_nil ?_
    refine pn_then ?_
    refine sc_seq ?_
    refine sc_region ?_
    refine st_v (ov_move rfl) rfl ?_
    refine st_v (ov_mul_n (a := 4) (b := i) rfl rfl (by omega)) rfl ?_
    refine st_v (ov_add_n (a := 4 * i) (b := 2) rfl rfl (by omega)) rfl ?_
    refine st_v (ov_move rfl) rfl ?_
    refine st_v (ov_indexA rfl rfl Tryd.underlying24 sz22 (by omega)) rfl ?_
    refine st_v (ov_load1 rfl Tryd.underlying22 rfl (Cells.elem' (hp.cells' (t := 1) rfl) (i) (by first | omega | (simp; omega) | (simp [*]; omega)) 0)) rfl ?_
    refine st_v (ov_shr_n (a := (st.getD i 0).toNat) (s := 8) rfl rfl ⟨rfl, by decide⟩) rfl ?_
    refine st_v (ov_conv_u32_u8 (a := _) Tryd.underlying22 Tryd.underlying5 rfl) rfl ?_
    refine st_v (ov_indexA rfl rfl Tryd.underlying39 sz5 (by omega)) rfl ?_
    refine st_storeE 3 hp rfl rfl rfl ((4 * i) + 2) (by first | omega | (simp; omega) | (simp [*]; omega)) rfl sz5 (fun w hp => ?_)
    refine st_nil ?_
    refine pn_then ?_
    refine sc_region ?_
    refine st_v (ov_move rfl) rfl ?_
    refine st_v (ov_mul_n (a := 4) (b := i) rfl rfl (by omega)) rfl ?_
    refine st_v (ov_add_n (a := 4 * i) (b := 3) rfl rfl (by omega)) rfl ?_
    refine st_v (ov_move rfl) rfl ?_
    refine st_v (ov_indexA rfl rfl Tryd.underlying24 sz22 (by omega)) rfl ?_
    refine st_v (ov_load1 rfl Tryd.underlying22 rfl (Cells.elem' (hp.cells' (t := 1) rfl) (i) (by first | omega | (simp; omega) | (simp [*]; omega)) 0)) rfl ?_
    refine st_v (ov_conv_u32_u8 (a := (st.getD i 0).toNat) Tryd.underlying22 Tryd.underlying5 rfl) rfl ?_
    refine st_v (ov_indexA rfl rfl Tryd.underlying39 sz5 (by omega)) rfl ?_
    refine st_storeE 3 hp rfl rfl rfl ((4 * i) + 3) (by first | omega | (simp; omega) | (simp [*]; omega)) rfl sz5 (fun w hp => ?_)
    refine st_nil ?_
    refine pn_block ?_
    refine pn_then ?_
    refine sc_region ?_
    refine st_v (ov_move rfl) rfl ?_
    refine st_v (ov_add_n (a := i) (b := 1) rfl rfl (by omega)) rfl ?_
    refine st_v (ov_assign rfl) rfl ?_
    refine st_nil ?_
    rw [← hashN_4] at hp
    refine pn_roundH1 (i + 1) hp (Sub.cons rfl (Sub.cons rfl (Sub.cons rfl (Sub.cons rfl (Sub.nil _))))) ?_ (LSub.cons rfl (LSub.cons rfl (LSub.cons rfl (LSub.nil _)))) ?_
    · omega
    exact (by first | omega | (simp; done) | (simp; omega) | (simp [*]; omega))
  ·
    have hc := of_decide_eq_false hc
    obtain rfl : i = 8 := by omega
    rw [show 4 * 8 = 32 from rfl, hashN_end] at hp
    refine sc_exit ?_
    refine pe_then ?_
    refine pe_then ?_
    refine pe_hit ?_
    refine pn_then ?_
    refine sc_seq ?_
    refine sc_region ?_
    refine st_v (ov_loadN rfl Tryd.underlying39 rfl (sz39.trans (by simp [hashN_len, bytesOf_len])) (hp.cells' (t := 3) rfl)) rfl ?_
    refine st_storeA 2 hp rfl rfl rfl (by simp [bytesOf_len]) (sz39.trans (by simp [hashN_len, bytesOf_len])) (one_all _) (fun w hp => ?_)
    refine st_nil ?_
    refine pn_then ?_
    refine sc_ret ?_
    refine pr_rv1 rfl (rv_cells rfl Tryd.underlying39 rfl (sz39.trans (by simp [hashN_len, bytesOf_len])) (hp.cells' (t := 2) rfl)) ?_
    exact ⟨rfl, hp.chg⟩

set_option maxRecDepth 100000 in
theorem law_folds (a : List UInt8) (ao : Option Addr) (ca : Nat) (w0 : World) (h1 : Rd w0 ao (a.map B8)) (hca : a.length ≤ ca) (hz : a.length ≤ 140737488351232) (hk : Cells w0 0 0 (kL.map B32)) (hf : Cells w0 1 0 (fL.map B32)) :
    Calls Tryd.prog 5 #[.slice ao a.length ca] w0 fun e w' => e = .returned (.bool true) ∧ Chg [] w0 w' := by
  refine calls_in Tryd.func5 Tryd.ntmps5 rfl rfl ?_
  have hp := Hp.start w0
  obtain ⟨epl, epe⟩ := padL_good a.length (by omega)
  have hpl := pad_len a.length
  have hzo := zerosOf_lt a.length
  have hz64 : (a.length + (padOf a.length).length) % 64 = 0 := by rw [hpl]; unfold zerosOf; omega
  obtain ⟨txt, htx⟩ : ∃ txt, txt = a ++ padOf a.length := ⟨_, rfl⟩
  have htl : a.length + (padOf a.length).length = txt.length := by rw [htx, List.length_append]
  have etx : a.map B8 ++ (padOf a.length).map B8 = txt.map B8 := by rw [htx, List.map_append]
  have hsum : sumOf a = bytesOf (foldB fL txt (txt.length / 64)) := by subst htx; unfold sumOf endOf foldT; rw [Nat.zero_add]
  refine sc_seq ?_
  refine sc_region ?_
  refine st_v (ov_assign rfl) rfl ?_
  refine st_nil ?_
  refine pn_then ?_
  refine sc_seq ?_
  refine sc_seq ?_
  refine sc_region ?_
  refine st_v (ov_move rfl) rfl ?_
  refine st_v (ov_len rfl Tryd.underlying33 rfl) rfl ?_
  refine st_v (ov_gtr rfl rfl) rfl ?_
  refine st_nil ?_
  refine pn_then ?_
  refine sc_cond rfl (fun hc => ?_) (fun hc => ?_)
  · exact absurd hc (by simp; omega)
  skip
  refine sc_skip ?_
  refine pn_then ?_
  refine sc_seq ?_
  refine sc_region ?_
  refine st_v (ov_move rfl) rfl ?_
  refine st_v (ov_len rfl Tryd.underlying33 rfl) rfl ?_
  refine st_call pl17 rfl rfl rfl (pad_walk2 ((a.length : Nat) : Int) _ (by omega)) ?_
  rintro _ w ⟨g17, rfl, hm17⟩
  refine ⟨_, rfl, ?_⟩
  replace hp := hp.got 17 (Mk.of_made hm17)
  have hc17 := hm17.2.2.2
  clear hm17
  rw [epl] at hp hc17 ⊢
  rw [epe]
  refine st_v (ov_move rfl) rfl ?_
  refine st_v (ov_extract rfl rfl) rfl ?_
  refine st_v (ov_extract rfl rfl) rfl ?_
  refine st_v (ov_assign rfl) rfl ?_
  refine st_v (ov_assign rfl) rfl ?_
  refine st_nil ?_
  refine pn_then ?_
  refine sc_seq ?_
  refine sc_seq ?_
  refine sc_region ?_
  refine st_v (ov_move rfl) rfl ?_
  refine st_v (v := .bool false) ((ov_neq rfl rfl).is ((by simp))) rfl ?_
  refine st_v (ov_move rfl) rfl ?_
  refine st_on (j := 2) rfl rfl ?_
  refine st_v (ov_move rfl) rfl ?_
  refine st_on (j := 2) rfl rfl ?_
  refine st_v (ov_len rfl Tryd.underlying33 rfl) rfl ?_
  refine st_on (j := 2) rfl rfl ?_
  refine st_v (v := .bool false) ((ov_lss rfl rfl).is (congrArg Value.bool (decide_eq_false (by omega)))) rfl ?_
  refine st_v (ov_pick_f rfl rfl) rfl ?_
  refine st_v (ov_move rfl) rfl ?_
  refine st_on (j := 7) rfl rfl ?_
  refine st_v (ov_move rfl) rfl ?_
  refine st_on (j := 7) rfl rfl ?_
  refine st_v (ov_len rfl Tryd.underlying33 rfl) rfl ?_
  refine st_on (j := 7) rfl rfl ?_
  refine st_v (ov_move rfl) rfl ?_
  refine st_on (j := 7) rfl rfl ?_
  refine st_v (ov_len rfl Tryd.underlying33 rfl) rfl ?_
  refine st_on (j := 7) rfl rfl ?_
  refine st_v (ov_add_n (a := a.length) (b := (padOf a.length).length) rfl rfl (by omega)) rfl ?_
  refine st_on (j := 7) rfl rfl ?_
  refine st_v (ov_rem_n (a := a.length + ((padOf a.length).length)) (b := 64) rfl rfl (by omega)) rfl ?_
  refine st_on (j := 7) rfl rfl ?_
  refine st_v (v := .bool false) ((ov_neq rfl rfl).is (congrArg Value.bool (decide_eq_false (by omega)))) rfl ?_
  refine st_v (ov_pick_f rfl rfl) rfl ?_
  refine st_nil ?_
  refine pn_then ?_
  refine sc_false rfl ?_
  refine sc_skip ?_
  refine pn_then ?_
  refine sc_seq ?_
  refine sc_region ?_
  refine st_v (ov_move rfl) rfl ?_
  refine st_call pl18 rfl rfl rfl (copied2_walk a _ _ _ (h1.chg hp.chg) (by first | rfl | omega | (simp; done) | (simp; omega) | (simp [*]; omega)) (by omega)) ?_
  rintro _ w ⟨g37, rfl, hm37⟩
  refine ⟨_, rfl, ?_⟩
  replace hp := hp.got 37 hm37
  have hc37 := hm37.2
  clear hm37
  refine st_v (ov_assign rfl) rfl ?_
  refine st_nil ?_
  refine pn_then ?_
  refine sc_seq ?_
  refine sc_region ?_
  refine st_v (ov_move rfl) rfl ?_
  refine st_v (ov_move rfl) rfl ?_
  refine st_append 37 g37 (xs := a.map B8) (news := (padOf a.length).map B8) (m := (padOf a.length).length) hp rfl rfl rfl rfl rfl Tryd.underlying33 in5 (by decide) rfl (by first | omega | (simp; done) | (simp; omega) | (simp [*]; omega)) hc37 (Rd.own (hp.own 17 _ rfl)) (by simp) (one_all _) (by omega) (fun g5 w hp hc5 hf37 => ?_)
  rw [etx] at hp hc5
  rw [htl]
  refine st_v (ov_assign rfl) rfl ?_
  refine st_nil ?_
  refine pn_then ?_
  refine sc_seq ?_
  refine sc_region ?_
  refine st_call pl12 rfl rfl rfl (table_walk _ (hp.old hk (by simp)) (hp.old hf (by simp))) ?_
  rintro _ w ⟨rfl, hch⟩
  refine ⟨_, rfl, ?_⟩
  replace hp := hp.call hch
  clear hch
  refine st_v (ov_move rfl) rfl ?_
  refine st_v (ov_extract rfl rfl) rfl ?_
  refine st_v (ov_extract rfl rfl) rfl ?_
  refine st_alloc 6 ((List.replicate 64 (0 : UInt32)).map B32) hp rfl zl23 rfl (fun b6 w hp => ?_)
  refine st_alloc 7 ((List.replicate 8 (0 : UInt32)).map B32) hp rfl zl24 rfl (fun b7 w hp => ?_)
  refine st_storeA 6 hp rfl rfl rfl rfl (sz23.trans (by simp [kL_len])) (one_all _) (fun w hp => ?_)
  refine st_storeA 7 hp rfl rfl rfl rfl (sz24.trans (by simp; rfl)) (one_all _) (fun w hp => ?_)
  refine st_nil ?_
  refine pn_then ?_
  refine sc_seq ?_
  refine sc_seq ?_
  refine sc_region ?_
  refine st_v (ov_assign rfl) rfl ?_
  refine st_nil ?_
  refine pn_then ?_
  refine sc_block ?_
  refine sc_loopH1 (α := Nat) (kv := [(0, _), (5, _), (7, _)]) (kl := [(37, _), (17, _)]) (fun k kv => (8, .int .i64 ((64 * k : Nat) : Int)) :: kv) (fun k kl => (7, ⟨some b7, (foldB fL txt k).map B32, 24⟩) :: kl) (fun k => (64 * k ≤ txt.length)) (fun k => txt.length - 64 * k) 0 hp (Sub.cons rfl (Sub.cons rfl (Sub.cons rfl (Sub.cons rfl (Sub.nil _))))) (LSub.cons rfl (LSub.cons rfl (LSub.cons rfl (LSub.nil _)))) ?_ ?_
  · exact (by first | omega | (simp; done) | (simp; omega) | (simp [*]; omega))
  intro k w hp hx
  have hk64 : 64 * k ≤ txt.length := hx
  have hfl := foldB_len fL txt rfl k
  refine sc_seq ?_
  refine sc_seq ?_
  refine sc_region ?_
  refine st_v (ov_move rfl) rfl ?_
  refine st_v (ov_add_n (a := 64 * k) (b := 64) rfl rfl (by omega)) rfl ?_
  refine st_v (ov_move rfl) rfl ?_
  refine st_v (ov_len rfl Tryd.underlying33 rfl) rfl ?_
  refine st_v (ov_leq rfl rfl) rfl ?_
  refine st_nil ?_
  refine pn_then ?_
  refine sc_cond rfl (fun hc => ?_) (fun hc => ?_)
  ·
    have hc := of_decide_eq_true hc
    refine sc_skip ?_
    refine pn_then ?_
    refine sc_seq ?_
    refine sc_block ?_
    refine sc_seq ?_
    refine sc_region ?_
    refine st_alloc 9 ((List.replicate 64 (0 : UInt8)).map B8) hp rfl zl30 rfl (fun b9 w hp => ?_)
    refine st_nil ?_
    refine pn_then ?_
    refine sc_seq ?_
    refine sc_seq ?_
    refine sc_region ?_
    refine st_v (ov_assign rfl) rfl ?_
    refine st_nil ?_
    refine pn_then ?_
    refine sc_block ?_
    refine sc_loopH1 (α := Nat) (kv := [(0, _), (5, _), (7, _), (8, _), (9, _)]) (kl := [(7, _), (37, _), (17, _)]) (fun i kv => (10, .int .i64 ((i : Nat) : Int)) :: kv) (fun i kl => (9, ⟨some b9, (blkN txt k i).map B8, 30⟩) :: kl) (fun i => (i ≤ 64)) (fun i => 64 - i) 0 hp (Sub.cons rfl (Sub.cons rfl (Sub.cons rfl (Sub.cons rfl (Sub.cons rfl (Sub.cons rfl (Sub.nil _))))))) (LSub.cons rfl (LSub.cons rfl (LSub.cons rfl (LSub.cons rfl (LSub.nil _))))) ?_ ?_
    · exact (by first | omega | (simp; done) | (simp; omega) | (simp [*]; omega))
    intro i w hp hx
    have hi : i ≤ 64 := hx
    have hbl := blkN_len txt k i
    refine sc_seq ?_
    refine sc_seq ?_
    refine sc_region ?_
    refine st_v (ov_move rfl) rfl ?_
    refine st_v (ov_lss rfl rfl) rfl ?_
    refine st_nil ?_
    refine pn_then ?_
    refine sc_cond rfl (fun hc => ?_) (fun hc => ?_)
    ·
      have hc := of_decide_eq_true hc
      refine sc_skip ?_
      refine pn_then ?_
      refine sc_seq ?_
      refine sc_block ?_
      refine sc_region ?_
      refine st_v (ov_move rfl) rfl ?_
      refine st_v (ov_move rfl) rfl ?_
      refine st_v (ov_move rfl) rfl ?_
      refine st_v (ov_move rfl) rfl ?_
      refine st_v (ov_add_n (a := 64 * k) (b := i) rfl rfl (by omega)) rfl ?_
      obtain ⟨bb1, oo1, hadr1, hcl1⟩ := (Rd.own (hp.own 37 _ rfl)).pos (by simp; omega)
      refine st_v (ov_indexR hadr1 rfl rfl Tryd.underlying33 sz5 (by omega)) rfl ?_
      refine st_v (ov_load1 rfl Tryd.underlying5 rfl (Cells.elem' hcl1 ((64 * k) + i) (by first | omega | (simp; omega) | (simp [*]; omega)) 0)) rfl ?_
      refine st_v (ov_indexA rfl rfl Tryd.underlying30 sz5 (by omega)) rfl ?_
      refine st_storeE 9 hp rfl rfl rfl (i) (by first | omega | (simp; omega) | (simp [*]; omega)) rfl sz5 (fun w hp => ?_)
      refine st_nil ?_
      refine pn_block ?_
      refine pn_then ?_
      refine sc_region ?_
      refine st_v (ov_move rfl) rfl ?_
      refine st_v (ov_add_n (a := i) (b := 1) rfl rfl (by omega)) rfl ?_
      refine st_v (ov_assign rfl) rfl ?_
      refine st_nil ?_
      refine pn_roundH1 (i + 1) hp (Sub.cons rfl (Sub.cons rfl (Sub.cons rfl (Sub.cons rfl (Sub.cons rfl (Sub.cons rfl (Sub.nil _))))))) ?_ (LSub.cons rfl (LSub.cons rfl (LSub.cons rfl (LSub.cons rfl (LSub.nil _))))) ?_
      · omega
      exact (by first | omega | (simp; done) | (simp; omega) | (simp [*]; omega))
    ·
      have hc := of_decide_eq_false hc
      obtain rfl : i = 64 := by omega
      rw [blkN_end txt k (by omega)] at hp
      have hbk : ((txt.drop (64 * k)).take 64).length = 64 := by simp; omega
      refine sc_exit ?_
      refine pe_then ?_
      refine pe_then ?_
      refine pe_hit ?_
      refine pn_then ?_
      refine sc_region ?_
      refine st_v (ov_loadN rfl Tryd.underlying24 rfl (sz24.trans (by simp [hfl])) (hp.cells' (t := 7) rfl)) rfl ?_
      refine st_v (ov_loadN rfl Tryd.underlying30 rfl (sz30.trans (by rw [List.length_map, hbk])) (hp.cells' (t := 9) rfl)) rfl ?_
      refine st_call pl16 rfl rfl rfl (comp_walk _ _ hfl hbk _ (hp.old hk (by simp))) ?_
      rintro _ w ⟨rfl, hch⟩
      refine ⟨_, rfl, ?_⟩
      replace hp := hp.call hch
      clear hch
      refine st_storeA 7 hp rfl rfl rfl (by simp [hfl, compress_len]) (sz24.trans (by simp [compress_len])) (one_all _) (fun w hp => ?_)
      refine st_nil ?_
      refine pn_block ?_
      refine pn_then ?_
      refine sc_region ?_
      refine st_v (ov_move rfl) rfl ?_
      refine st_v (ov_add_n (a := 64 * k) (b := 64) rfl rfl (by omega)) rfl ?_
      refine st_v (ov_assign rfl) rfl ?_
      refine st_nil ?_
      refine pn_roundH1 (k + 1) hp (Sub.cons rfl (Sub.cons rfl (Sub.cons rfl (Sub.cons rfl (Sub.nil _))))) ?_ (LSub.cons rfl (LSub.cons rfl (LSub.cons rfl (LSub.nil _)))) ?_
      · omega
      exact (by first | omega | (simp; done) | (simp; omega) | (simp [*]; omega))
  ·
    have hc := of_decide_eq_false hc
    have hke : k = txt.length / 64 := by omega
    subst hke
    refine sc_exit ?_
    refine pe_then ?_
    refine pe_then ?_
    refine pe_hit ?_
    refine pn_then ?_
    refine sc_seq ?_
    obtain ⟨Hs, hHs⟩ := (hp.sub (L' := [(7, _), (37, _), (17, _)]) (LSub.cons rfl (LSub.cons rfl (LSub.cons rfl (LSub.nil _))))).hs
    refine sc_plan Hs [0, 2, 4, 5] [1] (.take 0 (.load 2 (.one 1 (.one 3 (.take 4 (.take 5 .nil)))))) (by kernel_rfl) (by kernel_rfl) (by repeat (first | exact calm_body _ _ _ | refine calm_then ?_ | refine calm_block ?_ | refine calm_jump ?_ | refine calm_ng ?_)) ?_
    replace hp := hp.drew
    refine sp_take rfl (fun w => ov_move rfl) rfl ?_
    refine sp_load rfl ((hHs _).2 (hp.sub (LSub.cons rfl (LSub.cons rfl (LSub.cons rfl (LSub.nil _)))))) (fun w hs => have hp := (hHs w).1 hs; ov_loadN rfl Tryd.underlying24 rfl (sz24.trans (by simp [hfl])) (hp.cells' (t := 7) rfl)) rfl ?_
    refine sp_one rfl ?_
    refine st_call pl19 rfl rfl rfl (sumd_walk a _ _ _ (h1.chg hp.chg) hca hz (hp.old hk (by simp)) (hp.old hf (by simp))) ?_
    rintro _ w ⟨rfl, hch⟩
    refine ⟨_, rfl, ?_⟩
    replace hp := hp.call hch
    clear hch
    rw [hsum]
    refine st_nil ?_
    refine sp_next (i := 1) (fun _ => ((hHs _).2 (hp.sub (LSub.cons rfl (LSub.cons rfl (LSub.cons rfl (LSub.nil _))))))) ?_
    refine sp_one rfl ?_
    refine st_call pl20 rfl rfl rfl (bytes32_walk _ hfl _) ?_
    rintro _ w ⟨rfl, hch⟩
    refine ⟨_, rfl, ?_⟩
    replace hp := hp.call hch
    clear hch
    refine st_nil ?_
    refine sp_next (i := 3) (fun h => absurd h (by decide)) ?_
    refine sp_take rfl (v := .bool true) (fun w => (ov_eqlA (k := .u8) (g := fun x : UInt8 => (x.toNat : Int))  inj8 Tryd.underlying39 Tryd.underlying5 sz5 gd39 rfl rfl ⟨bytesOf_len _, bytesOf_len _⟩).is ((by simp))) rfl ?_
    refine sp_take rfl (fun w => ov_assign rfl) rfl ?_
    refine sp_nil ?_
    refine pn_then ?_
    refine sc_ret ?_
    refine pr_one rfl rfl ?_
    exact ⟨rfl, hp.chg⟩

end Go.Proofs.YtcpbfnbfbladoaaDoor
