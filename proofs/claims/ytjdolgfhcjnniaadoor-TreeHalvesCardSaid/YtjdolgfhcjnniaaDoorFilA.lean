/-
  The walks of FileRoot, PieceRoot, PieceLayer.
-/
import Derived.Test.YtjdolgfhcjnniaaDoorPieA
namespace Go.Proofs.YtjdolgfhcjnniaaDoor
open Go Go.RowKit

theorem node0_walk (B W : Int) (row : List Hs) {nr : Nat} (ao : Option Addr) (ca k : Nat) (w0 : World) (h1 : Rd w0 ao (row.flatMap hcs)) (hr : row.length = nr) (hz : row.length ≤ 1099511627776) (hk : k ≤ 40) (hn : 1 ≤ row.length) :
    Calls Tryd.prog 72 #[sca B W, .slice ao nr ca, .int .i64 0, .int .i64 ((k : Nat) : Int), .int .i64 0] w0 fun e w' => e = .returned (.agg (hcs ((layL B W 0 row k).getD 0 hz0)).toArray) ∧ Chg [] w0 w' := by
  have h := node_walk B W row ao ca 0 hr hz k 0 w0 h1 (by omega) (by omega) (by rw [Nat.zero_add, Nat.one_mul]; exact Nat.le_trans (Nat.pow_le_pow_right (by omega) (by omega : k ≤ 42)) (by decide))
  rw [Nat.zero_add, node_top hn] at h
  exact h

theorem layerq0_walk (B W : Int) (row : List Hs) {nr : Nat} (ao : Option Addr) (ca k : Nat) (w0 : World) (h1 : Rd w0 ao (row.flatMap hcs)) (hr : row.length = nr) (hz : row.length ≤ 1048576) (hk : k ≤ 40) :
    Calls Tryd.prog 68 #[sca B W, .slice ao nr ca, .int .i64 0, .int .i64 ((k : Nat) : Int)] w0 fun e w' => ∃ g : Gs, e = .returned (.slice (adr g.ob) (layL B W 0 row k).length g.cap) ∧ Mk w0 w' 34 32 ((layL B W 0 row k).flatMap hcs) g := by
  have h := layerq_walk B W row ao ca 0 k w0 h1 hr hz hk (by omega)
  rw [Nat.zero_add] at h
  exact h

set_option maxRecDepth 100000 in
theorem FileRoot_walk (B W : Int) (b : List UInt8) {nb : Nat} (ao : Option Addr) (ca : Nat) (w0 : World) (h1 : Rd w0 ao (b.map B8)) (hb : b.length = nb) (hca : b.length ≤ ca) (hz : b.length ≤ 140737488351232) (hk : Cells w0 1 0 (kL.map B32)) (hf : Cells w0 0 0 (fL.map B32)) :
    Calls Tryd.prog 33 #[sca B W, .slice ao nb ca] w0 fun e w' => e = .returned (.tuple #[.agg (hcs (frV B W b)).toArray, .int .i64 (frE B W b.length)]) ∧ Chg [] w0 w' := by
  refine calls_in Tryd.func33 Tryd.ntmps33 rfl rfl ?_
  have hp := Hp.start w0
  subst hb
  refine sc_seq ?_
  refine sc_region ?_
  refine st_box 2 hp rfl rfl rfl (fun b2 w hp => ?_)
  refine st_alloc 4 (hcs hz0) hp rfl zl34 rfl (fun b4 w hp => ?_)
  refine st_v (ov_assign rfl) rfl ?_
  refine st_nil ?_
  refine pn_then ?_
  refine sc_seq ?_
  refine sc_region ?_
  refine st_v (ov_loadN rfl Tryd.underlying23 rfl (sz23.trans rfl) (hp.cells' (t := 2) rfl)) rfl ?_
  refine st_v (ov_move rfl) rfl ?_
  refine st_call pl18 rfl rfl rfl (Leaves_walk B W b _ _ _ (h1.chg hp.chg) rfl hca hz (hp.old hk (by simp)) (hp.old hf (by simp))) ?_
  rintro _ w ⟨g11, rfl, hm11⟩
  refine ⟨_, rfl, ?_⟩
  replace hp := hp.got 11 hm11
  have hc11 := hm11.2
  clear hm11
  refine st_v (ov_move rfl) rfl ?_
  refine st_v (ov_extract rfl rfl) rfl ?_
  refine st_v (ov_extract rfl rfl) rfl ?_
  refine st_v (ov_assign rfl) rfl ?_
  refine st_v (ov_assign rfl) rfl ?_
  refine st_nil ?_
  refine pn_then ?_
  refine sc_seq ?_
  refine sc_seq ?_
  refine sc_region ?_
  refine st_v (ov_move rfl) rfl ?_
  refine st_v (ov_neq rfl rfl) rfl ?_
  refine st_nil ?_
  refine pn_then ?_
  refine sc_cond rfl (fun hc => ?_) (fun hc => ?_)
  ·
    have hc := of_decide_eq_true hc
    refine sc_seq ?_
    refine sc_region ?_
    refine st_v (ov_buildA (cells := hcs hz0) rfl Tryd.underlying34 zl34 sz5 (by kernel_rfl)) rfl ?_
    refine st_v (ov_move rfl) rfl ?_
    refine st_storeA 4 hp rfl rfl rfl (by simp [hcs_len]) (sz34.trans (by simp [hcs_len])) (hcs_one _) (fun w hp => ?_)
    refine st_v (ov_assign rfl) rfl ?_
    refine st_nil ?_
    refine pn_then ?_
    refine sc_ret ?_
    refine pr_then ?_
    refine pr_rv2 rfl (rv_cells rfl Tryd.underlying34 rfl (sz34.trans (by simp [hcs_len])) (hp.cells' (t := 4) rfl)) (rv_tmp rfl) ?_
    have hE : frE B W b.length = leavesE B W b.length := by unfold frE; rw [if_pos (by assumption)]
    have hV : frV B W b = hz0 := by unfold frV; rw [hE, if_neg (by first | assumption | decide)]
    exact ⟨by rw [hE, hV]; first | done | rfl, hp.chg⟩
  ·
    have hc := of_decide_eq_false hc
    have hl0 : leavesE B W b.length = 0 := by omega
    have hlen := leavesV_cnt hl0
    have hll := leavesV_len B W b
    have hg0 := leavesE_good hl0
    obtain ⟨m, rfl, hm1, hm2⟩ := good_block hg0
    rw [Int.toNat_natCast] at hlen
    have hcz := cnt_zero (n := b.length) (m := m) (by omega)
    refine sc_skip ?_
    refine pn_then ?_
    refine sc_seq ?_
    refine sc_region ?_
    refine st_v (ov_loadN rfl Tryd.underlying23 rfl (sz23.trans rfl) (hp.cells' (t := 2) rfl)) rfl ?_
    refine st_v (ov_move rfl) rfl ?_
    refine st_call pl28 rfl rfl rfl (Root_walk (m : Int) W (leavesV (m : Int) W b) _ _ 0 _ (Rd.own (hp.own 11 _ rfl)) rfl (by omega) (by omega) (hp.old hk (by simp)) (hp.old hf (by simp))) ?_
    rintro _ w ⟨rfl, hch⟩
    refine ⟨_, rfl, ?_⟩
    replace hp := hp.call hch
    clear hch
    refine st_v (ov_extract rfl rfl) rfl ?_
    refine st_v (ov_extract rfl rfl) rfl ?_
    refine st_storeA 4 hp rfl rfl rfl (by simp [hcs_len]) (sz34.trans (by simp [hcs_len])) (hcs_one _) (fun w hp => ?_)
    refine st_v (ov_assign rfl) rfl ?_
    refine st_nil ?_
    refine pn_then ?_
    refine sc_ret ?_
    refine pr_rv2 rfl (rv_cells rfl Tryd.underlying34 rfl (sz34.trans (by simp [hcs_len])) (hp.cells' (t := 4) rfl)) (rv_tmp rfl) ?_
    by_cases h0 : b.length = 0
    · have hE : frE (m : Int) W b.length = 61 := by unfold frE; rw [if_neg (by omega), if_pos (by omega)]
      have hV : frV (m : Int) W b = hz0 := by unfold frV; rw [hE]; rfl
      have hr : rowE (m : Int) W (leavesV (m : Int) W b).length 0 = 61 := by rw [show (leavesV (m : Int) W b).length = 0 by omega]; exact rowE_zero hg0
      exact ⟨by rw [hE, hV, hr, rootV_bad (by rw [hr]; decide)]; first | done | rfl, hp.chg⟩
    · have hE : frE (m : Int) W b.length = 0 := by unfold frE; rw [if_neg (by omega), if_neg (by omega)]
      have hr0 : rowE (m : Int) W (leavesV (m : Int) W b).length 0 = 0 := rowE_small (f := 0) hg0 (by omega) (by omega) (by omega)
      have hV : frV (m : Int) W b = rootV (m : Int) W (leavesV (m : Int) W b) 0 := by unfold frV; rw [if_pos hE]
      exact ⟨by rw [hE, hV, hr0]; first | done | rfl, hp.chg⟩

set_option maxRecDepth 100000 in
theorem FileRootr_walk (B W : Int) (b : List UInt8) {nb : Nat} (ao : Option Addr) (ca : Nat) (w0 : World) (h1 : Rd w0 ao (b.map B8)) (hb : b.length = nb) (hca : b.length ≤ ca) (hz : b.length ≤ 140737488351232) :
    Calls Tryd.prog 32 #[sca B W, .slice ao nb ca] w0 fun e w' => e = .returned (.tuple #[.agg (hcs (frV B W b)).toArray, .int .i64 (frE B W b.length)]) ∧ Chg [] w0 w' := by
  refine calls_in Tryd.func32 Tryd.ntmps32 rfl rfl ?_
  have hp := Hp.start w0
  subst hb
  refine sc_seq ?_
  refine sc_region ?_
  refine st_box 2 hp rfl rfl rfl (fun b2 w hp => ?_)
  refine st_alloc 4 (hcs hz0) hp rfl zl34 rfl (fun b4 w hp => ?_)
  refine st_v (ov_assign rfl) rfl ?_
  refine st_nil ?_
  refine pn_then ?_
  refine sc_seq ?_
  refine sc_region ?_
  refine st_v (ov_loadN rfl Tryd.underlying23 rfl (sz23.trans rfl) (hp.cells' (t := 2) rfl)) rfl ?_
  refine st_v (ov_move rfl) rfl ?_
  refine st_call pl17 rfl rfl rfl (Leavesr_walk B W b _ _ _ (h1.chg hp.chg) rfl hca hz) ?_
  rintro _ w ⟨g11, rfl, hm11⟩
  refine ⟨_, rfl, ?_⟩
  replace hp := hp.got 11 hm11
  have hc11 := hm11.2
  clear hm11
  refine st_v (ov_move rfl) rfl ?_
  refine st_v (ov_extract rfl rfl) rfl ?_
  refine st_v (ov_extract rfl rfl) rfl ?_
  refine st_v (ov_assign rfl) rfl ?_
  refine st_v (ov_assign rfl) rfl ?_
  refine st_nil ?_
  refine pn_then ?_
  refine sc_seq ?_
  refine sc_seq ?_
  refine sc_region ?_
  refine st_v (ov_move rfl) rfl ?_
  refine st_v (ov_neq rfl rfl) rfl ?_
  refine st_nil ?_
  refine pn_then ?_
  refine sc_cond rfl (fun hc => ?_) (fun hc => ?_)
  ·
    have hc := of_decide_eq_true hc
    refine sc_seq ?_
    refine sc_region ?_
    refine st_v (ov_buildA (cells := hcs hz0) rfl Tryd.underlying34 zl34 sz5 (by kernel_rfl)) rfl ?_
    refine st_v (ov_move rfl) rfl ?_
    refine st_storeA 4 hp rfl rfl rfl (by simp [hcs_len]) (sz34.trans (by simp [hcs_len])) (hcs_one _) (fun w hp => ?_)
    refine st_v (ov_assign rfl) rfl ?_
    refine st_nil ?_
    refine pn_then ?_
    refine sc_ret ?_
    refine pr_then ?_
    refine pr_rv2 rfl (rv_cells rfl Tryd.underlying34 rfl (sz34.trans (by simp [hcs_len])) (hp.cells' (t := 4) rfl)) (rv_tmp rfl) ?_
    have hE : frE B W b.length = leavesE B W b.length := by unfold frE; rw [if_pos (by assumption)]
    have hV : frV B W b = hz0 := by unfold frV; rw [hE, if_neg (by first | assumption | decide)]
    exact ⟨by rw [hE, hV]; first | done | rfl, hp.chg⟩
  ·
    have hc := of_decide_eq_false hc
    have hl0 : leavesE B W b.length = 0 := by omega
    have hlen := leavesV_cnt hl0
    have hll := leavesV_len B W b
    have hg0 := leavesE_good hl0
    obtain ⟨m, rfl, hm1, hm2⟩ := good_block hg0
    rw [Int.toNat_natCast] at hlen
    have hcz := cnt_zero (n := b.length) (m := m) (by omega)
    refine sc_skip ?_
    refine pn_then ?_
    refine sc_seq ?_
    refine sc_seq ?_
    refine sc_region ?_
    refine st_v (ov_move rfl) rfl ?_
    refine st_v (ov_len rfl Tryd.underlying26 rfl) rfl ?_
    refine st_v (ov_eql rfl rfl) rfl ?_
    refine st_nil ?_
    refine pn_then ?_
    refine sc_cond rfl (fun hc => ?_) (fun hc => ?_)
    ·
      have hc := of_decide_eq_true hc
      refine sc_seq ?_
      refine sc_region ?_
      refine st_v (ov_buildA (cells := hcs hz0) rfl Tryd.underlying34 zl34 sz5 (by kernel_rfl)) rfl ?_
      refine st_storeA 4 hp rfl rfl rfl (by simp [hcs_len]) (sz34.trans (by simp [hcs_len])) (hcs_one _) (fun w hp => ?_)
      refine st_v (ov_assign rfl) rfl ?_
      refine st_nil ?_
      refine pn_then ?_
      refine sc_ret ?_
      refine pr_then ?_
      refine pr_rv2 rfl (rv_cells rfl Tryd.underlying34 rfl (sz34.trans (by simp [hcs_len])) (hp.cells' (t := 4) rfl)) (rv_tmp rfl) ?_
      have hE : frE (m : Int) W b.length = 61 := by unfold frE; rw [if_neg (by omega), if_pos (by omega)]
      have hV : frV (m : Int) W b = hz0 := by unfold frV; rw [hE]; rfl
      exact ⟨by rw [hE, hV], hp.chg⟩
    ·
      have hc := of_decide_eq_false hc
      refine sc_skip ?_
      refine pn_then ?_
      refine sc_seq ?_
      have hE : frE (m : Int) W b.length = 0 := by unfold frE; rw [if_neg (by omega), if_neg (by omega)]
      have hr0 : rowE (m : Int) W (leavesV (m : Int) W b).length 0 = 0 := rowE_small (f := 0) hg0 (by omega) (by omega) (by omega)
      have hV : frV (m : Int) W b = rootV (m : Int) W (leavesV (m : Int) W b) 0 := by unfold frV; rw [if_pos hE]
      have hbl := bit_le20 (n := (leavesV (m : Int) W b).length) (by omega)
      obtain ⟨Hs, hHs⟩ := (hp.sub (L' := [(11, _), (4, _), (2, _)]) (LSub.cons rfl (LSub.cons rfl (LSub.cons rfl (LSub.nil _))))).hs
      refine sc_plan Hs [0, 1, 2, 3, 7] [4] (.load 0 (.take 1 (.take 2 (.take 3 (.one 4 (.one 5 (.one 6 (.take 7 .nil)))))))) (by kernel_rfl) (by kernel_rfl) (by repeat (first | exact calm_body _ _ _ | refine calm_then ?_ | refine calm_block ?_ | refine calm_jump ?_ | refine calm_ng ?_)) ?_
      replace hp := hp.drew
      refine sp_load rfl ((hHs _).2 (hp.sub (LSub.cons rfl (LSub.cons rfl (LSub.cons rfl (LSub.nil _)))))) (fun w hs => have hp := (hHs w).1 hs; ov_loadN rfl Tryd.underlying23 rfl (sz23.trans rfl) (hp.cells' (t := 2) rfl)) rfl ?_
      refine sp_take rfl (fun w => ov_move rfl) rfl ?_
      refine sp_take rfl (fun w => ov_move rfl) rfl ?_
      refine sp_take rfl (fun w => ov_len rfl Tryd.underlying26 rfl) rfl ?_
      refine sp_one rfl ?_
      refine st_call pl67 rfl rfl rfl (riser_walk (leavesV (m : Int) W b).length (by omega) _) ?_
      rintro _ w ⟨rfl, hch⟩
      refine ⟨_, rfl, ?_⟩
      replace hp := hp.call hch
      clear hch
      refine st_nil ?_
      refine sp_next (i := 4) (fun _ => ((hHs _).2 (hp.sub (LSub.cons rfl (LSub.cons rfl (LSub.cons rfl (LSub.nil _))))))) ?_
      refine sp_one rfl ?_
      refine st_call pl72 rfl rfl rfl (node0_walk (m : Int) W (leavesV (m : Int) W b) _ _ _ _ (Rd.own (hp.own 11 _ rfl)) rfl (by omega) (by omega) (by omega)) ?_
      rintro _ w ⟨rfl, hch⟩
      refine ⟨_, rfl, ?_⟩
      replace hp := hp.call hch
      clear hch
      refine st_nil ?_
      refine sp_next (i := 5) (fun h => absurd h (by decide)) ?_
      refine sp_one rfl ?_
      refine st_storeA 4 hp rfl rfl rfl (by simp [hcs_len]) (sz34.trans (by simp [hcs_len])) (hcs_one _) (fun w hp => ?_)
      refine st_nil ?_
      refine sp_next (i := 6) (fun h => absurd h (by decide)) ?_
      refine sp_take rfl (fun w => ov_assign rfl) rfl ?_
      refine sp_nil ?_
      refine pn_then ?_
      refine sc_ret ?_
      refine pr_rv2 rfl (rv_cells rfl Tryd.underlying34 rfl (sz34.trans (by simp [hcs_len])) (hp.cells' (t := 4) rfl)) (rv_tmp rfl) ?_
      have hrt : rootV (m : Int) W (leavesV (m : Int) W b) 0 = (layL (m : Int) W 0 (leavesV (m : Int) W b) (bitLen ((leavesV (m : Int) W b).length - 1))).getD 0 hz0 := root_at (f := 0) hr0
      exact ⟨by rw [hE, hV, hrt], hp.chg⟩

set_option maxRecDepth 100000 in
theorem ispower_walk (x : Int) (w0 : World) :
    Calls Tryd.prog 75 #[.int .i64 x, .int .i64 20] w0 fun e w' => e = .returned (.bool (pow20 x)) ∧ Chg [] w0 w' := by
  refine calls_in Tryd.func75 Tryd.ntmps75 rfl rfl ?_
  have hp := Hp.start w0
  refine sc_seq ?_
  refine sc_region ?_
  refine st_v (ov_assign rfl) rfl ?_
  refine st_nil ?_
  refine pn_then ?_
  refine sc_seq ?_
  refine sc_seq ?_
  refine sc_region ?_
  refine st_v (ov_assign rfl) rfl ?_
  refine st_nil ?_
  refine pn_then ?_
  refine sc_block ?_
  refine sc_loopH1 (α := Nat) (kv := [(0, _), (1, _)]) (kl := []) (fun j kv => (5, .int .i64 ((j : Nat) : Int)) :: kv) (fun j kl => kl) (fun j => (j ≤ 21) ∧ (∀ i, i < j → x ≠ ((2 ^ i : Nat) : Int))) (fun j => 21 - j) 0 hp (Sub.cons rfl (Sub.cons rfl (Sub.cons rfl (Sub.nil _)))) (LSub.nil _) ?_ ?_
  · exact ⟨(by first | omega | (simp; done) | (simp; omega) | (simp [*]; omega)), (fun i hi => absurd hi (by omega))⟩
  intro j w hp hx
  obtain ⟨hj, hno⟩ := hx
  refine sc_seq ?_
  refine sc_seq ?_
  refine sc_region ?_
  refine st_v (ov_move rfl) rfl ?_
  refine st_v (ov_move rfl) rfl ?_
  refine st_v (ov_leq rfl rfl) rfl ?_
  refine st_nil ?_
  refine pn_then ?_
  refine sc_cond rfl (fun hc => ?_) (fun hc => ?_)
  ·
    have hc := of_decide_eq_true hc
    refine sc_skip ?_
    refine pn_then ?_
    refine sc_seq ?_
    refine sc_block ?_
    refine sc_seq ?_
    refine sc_region ?_
    refine st_v (ov_move rfl) rfl ?_
    refine st_v (ov_move rfl) rfl ?_
    refine st_call pl90 rfl rfl rfl (power_walk j (by omega) _) ?_
    rintro _ w ⟨rfl, hch⟩
    refine ⟨_, rfl, ?_⟩
    replace hp := hp.call hch
    clear hch
    refine st_v (ov_eql rfl rfl) rfl ?_
    refine st_nil ?_
    refine pn_then ?_
    refine sc_cond rfl (fun hc => ?_) (fun hc => ?_)
    ·
      have hc := of_decide_eq_true hc
      refine sc_seq ?_
      refine sc_region ?_
      refine st_v (ov_assign rfl) rfl ?_
      refine st_nil ?_
      refine pn_then ?_
      refine sc_ret ?_
      refine pr_block ?_
      refine pr_then ?_
      refine pr_then ?_
      refine pr_block ?_
      refine pr_then ?_
      refine pr_one rfl rfl ?_
      exact ⟨by rw [pow20_iff.2 ⟨j, by omega, hc⟩], hp.chg⟩
    ·
      have hc := of_decide_eq_false hc
      refine sc_skip ?_
      refine pn_block ?_
      refine pn_then ?_
      refine sc_region ?_
      refine st_v (ov_move rfl) rfl ?_
      refine st_v (ov_add_n (a := j) (b := 1) rfl rfl (by omega)) rfl ?_
      refine st_v (ov_assign rfl) rfl ?_
      refine st_nil ?_
      refine pn_roundH1 (j + 1) hp (Sub.cons rfl (Sub.cons rfl (Sub.cons rfl (Sub.nil _)))) ?_ (LSub.nil _) ?_
      · omega
      exact ⟨(by first | omega | (simp; done) | (simp; omega) | (simp [*]; omega)), (fun i hi => by rcases Nat.lt_or_ge i j with h9 | h9; exact hno i h9; obtain rfl : i = j := (by omega); exact hc)⟩
  ·
    have hc := of_decide_eq_false hc
    refine sc_exit ?_
    refine pe_then ?_
    refine pe_then ?_
    refine pe_hit ?_
    refine pn_then ?_
    refine sc_seq ?_
    refine sc_region ?_
    refine st_v (ov_assign rfl) rfl ?_
    refine st_nil ?_
    refine pn_then ?_
    refine sc_ret ?_
    refine pr_one rfl rfl ?_
    have hno2 : pow20 x = false := by rw [Bool.eq_false_iff]; intro h9; obtain ⟨i, hi, he⟩ := pow20_iff.1 h9; exact hno i (by omega) he
    exact ⟨by rw [hno2], hp.chg⟩

set_option maxRecDepth 100000 in
theorem PieceRoot_walk (B W : Int) (b : List UInt8) {nb : Nat} (ao : Option Addr) (ca : Nat) (lv : Int) (w0 : World) (h1 : Rd w0 ao (b.map B8)) (hb : b.length = nb) (hca : b.length ≤ ca) (hz : b.length ≤ 140737488351232) (hlv : -9223372036854775808 ≤ lv ∧ lv ≤ 9223372036854775807) (hk : Cells w0 1 0 (kL.map B32)) (hf : Cells w0 0 0 (fL.map B32)) :
    Calls Tryd.prog 34 #[sca B W, .slice ao nb ca, .int .i64 lv] w0 fun e w' => e = .returned (.tuple #[.agg (hcs (prV B W b lv)).toArray, .int .i64 (prE B W b.length lv)]) ∧ Chg [] w0 w' := by
  refine calls_in Tryd.func34 Tryd.ntmps34 rfl rfl ?_
  have hp := Hp.start w0
  subst hb
  refine sc_seq ?_
  refine sc_region ?_
  refine st_box 3 hp rfl rfl rfl (fun b3 w hp => ?_)
  refine st_alloc 6 (hcs hz0) hp rfl zl34 rfl (fun b6 w hp => ?_)
  refine st_v (ov_assign rfl) rfl ?_
  refine st_nil ?_
  refine pn_then ?_
  refine sc_seq ?_
  refine sc_seq ?_
  refine sc_region ?_
  refine st_v (ov_loadN rfl Tryd.underlying23 rfl (sz23.trans rfl) (hp.cells' (t := 3) rfl)) rfl ?_
  refine st_call pl39 rfl rfl rfl (good_walk B W _) ?_
  rintro _ w ⟨rfl, hch⟩
  refine ⟨_, rfl, ?_⟩
  replace hp := hp.call hch
  clear hch
  refine st_v (ov_assign rfl) rfl ?_
  refine st_nil ?_
  refine pn_then ?_
  refine sc_seq ?_
  refine sc_region ?_
  refine st_v (ov_move rfl) rfl ?_
  refine st_v (ov_neq rfl rfl) rfl ?_
  refine st_nil ?_
  refine pn_then ?_
  refine sc_cond rfl (fun hc => ?_) (fun hc => ?_)
  ·
    have hc := of_decide_eq_true hc
    refine sc_seq ?_
    refine sc_region ?_
    refine st_v (ov_buildA (cells := hcs hz0) rfl Tryd.underlying34 zl34 sz5 (by kernel_rfl)) rfl ?_
    refine st_v (ov_move rfl) rfl ?_
    refine st_storeA 6 hp rfl rfl rfl (by simp [hcs_len]) (sz34.trans (by simp [hcs_len])) (hcs_one _) (fun w hp => ?_)
    refine st_v (ov_assign rfl) rfl ?_
    refine st_nil ?_
    refine pn_then ?_
    refine sc_ret ?_
    refine pr_then ?_
    refine pr_rv2 rfl (rv_cells rfl Tryd.underlying34 rfl (sz34.trans (by simp [hcs_len])) (hp.cells' (t := 6) rfl)) (rv_tmp rfl) ?_
    have hE : prE B W b.length lv = goodNo B W := by unfold prE; rw [if_pos (by assumption)]
    have hV : prV B W b lv = hz0 := by unfold prV; rw [hE, if_neg (by first | assumption | decide)]
    exact ⟨by rw [hE, hV]; first | done | rfl, hp.chg⟩
  ·
    have hc := of_decide_eq_false hc
    have hg0 : goodNo B W = 0 := by omega
    obtain ⟨m, rfl, hm1, hm2⟩ := good_block hg0
    refine sc_skip ?_
    refine pn_then ?_
    refine sc_seq ?_
    refine sc_block ?_
    refine sc_seq ?_
    refine sc_region ?_
    refine st_v (ov_move rfl) rfl ?_
    refine st_v (ov_lss rfl rfl) rfl ?_
    refine st_v (ov_move rfl) rfl ?_
    refine st_split (j := 19) rfl (fun hb => ?_) (fun hb => ?_)
    ·
      have hb := of_decide_eq_true hb
      refine st_off (j := 2) rfl rfl rfl rfl ?_
      refine st_off (j := 2) rfl rfl rfl rfl ?_
      refine st_v (ov_pick_t rfl rfl) rfl ?_
      refine st_v (ov_move rfl) rfl ?_
      refine st_off (j := 6) rfl rfl rfl rfl ?_
      refine st_off (j := 6) rfl rfl rfl rfl ?_
      refine st_off (j := 6) rfl rfl rfl rfl ?_
      refine st_off (j := 6) rfl rfl rfl rfl ?_
      refine st_off (j := 6) rfl rfl rfl rfl ?_
      refine st_v (ov_pick_t rfl rfl) rfl ?_
      refine st_v (ov_assign rfl) rfl ?_
      refine st_nil ?_
      refine pn_then ?_
      refine sc_true rfl ?_
      refine sc_seq ?_
      refine sc_region ?_
      refine st_v (ov_buildA (cells := hcs hz0) rfl Tryd.underlying34 zl34 sz5 (by kernel_rfl)) rfl ?_
      refine st_storeA 6 hp rfl rfl rfl (by simp [hcs_len]) (sz34.trans (by simp [hcs_len])) (hcs_one _) (fun w hp => ?_)
      refine st_v (ov_assign rfl) rfl ?_
      refine st_nil ?_
      refine pn_then ?_
      refine sc_ret ?_
      refine pr_block ?_
      refine pr_then ?_
      refine pr_rv2 rfl (rv_cells rfl Tryd.underlying34 rfl (sz34.trans (by simp [hcs_len])) (hp.cells' (t := 6) rfl)) (rv_tmp rfl) ?_
      have hE : prE (m : Int) W b.length lv = 63 := by unfold prE; rw [if_neg (by assumption), if_pos (pow20_lo (by omega))]
      have hV : prV (m : Int) W b lv = hz0 := by unfold prV; rw [hE, if_neg (by first | assumption | decide)]
      exact ⟨by rw [hE, hV]; first | done | rfl, hp.chg⟩
    ·
      have hb := of_decide_eq_false hb
      refine st_on (j := 2) rfl rfl ?_
      refine st_v (ov_move rfl) rfl ?_
      refine st_on (j := 2) rfl rfl ?_
      refine st_v (ov_gtr rfl rfl) rfl ?_
      refine st_v (ov_pick_f rfl rfl) rfl ?_
      refine st_v (ov_move rfl) rfl ?_
      refine st_split (j := 23) rfl (fun hb => ?_) (fun hb => ?_)
      ·
        have hb := of_decide_eq_true hb
        refine st_off (j := 6) rfl rfl rfl rfl ?_
        refine st_off (j := 6) rfl rfl rfl rfl ?_
        refine st_off (j := 6) rfl rfl rfl rfl ?_
        refine st_off (j := 6) rfl rfl rfl rfl ?_
        refine st_off (j := 6) rfl rfl rfl rfl ?_
        refine st_v (ov_pick_t rfl rfl) rfl ?_
        refine st_v (ov_assign rfl) rfl ?_
        refine st_nil ?_
        refine pn_then ?_
        refine sc_true rfl ?_
        refine sc_seq ?_
        refine sc_region ?_
        refine st_v (ov_buildA (cells := hcs hz0) rfl Tryd.underlying34 zl34 sz5 (by kernel_rfl)) rfl ?_
        refine st_storeA 6 hp rfl rfl rfl (by simp [hcs_len]) (sz34.trans (by simp [hcs_len])) (hcs_one _) (fun w hp => ?_)
        refine st_v (ov_assign rfl) rfl ?_
        refine st_nil ?_
        refine pn_then ?_
        refine sc_ret ?_
        refine pr_block ?_
        refine pr_then ?_
        refine pr_rv2 rfl (rv_cells rfl Tryd.underlying34 rfl (sz34.trans (by simp [hcs_len])) (hp.cells' (t := 6) rfl)) (rv_tmp rfl) ?_
        have hE : prE (m : Int) W b.length lv = 63 := by unfold prE; rw [if_neg (by assumption), if_pos (pow20_hi (by omega))]
        have hV : prV (m : Int) W b lv = hz0 := by unfold prV; rw [hE, if_neg (by first | assumption | decide)]
        exact ⟨by rw [hE, hV]; first | done | rfl, hp.chg⟩
      ·
        have hb := of_decide_eq_false hb
        obtain ⟨v, rfl⟩ : ∃ v : Nat, lv = (v : Int) := ⟨lv.toNat, by omega⟩
        refine st_on (j := 6) rfl rfl ?_
        refine st_v (ov_move rfl) rfl ?_
        refine st_on (j := 6) rfl rfl ?_
        refine st_v (ov_move rfl) rfl ?_
        refine st_on (j := 6) rfl rfl ?_
        refine st_v (ov_sub_n (a := v) (b := 1) rfl rfl (by omega)) rfl ?_
        refine st_on (j := 6) rfl rfl ?_
        refine st_v (ov_and_n (a := v) (b := v - 1) rfl rfl (by omega)) rfl ?_
        refine st_on (j := 6) rfl rfl ?_
        refine st_v (ov_neq rfl rfl) rfl ?_
        refine st_v (ov_pick_f rfl rfl) rfl ?_
        refine st_v (ov_assign rfl) rfl ?_
        refine st_nil ?_
        refine pn_then ?_
        refine sc_cond rfl (fun hc => ?_) (fun hc => ?_)
        ·
          have hc := of_decide_eq_true hc
          refine sc_seq ?_
          refine sc_region ?_
          refine st_v (ov_buildA (cells := hcs hz0) rfl Tryd.underlying34 zl34 sz5 (by kernel_rfl)) rfl ?_
          refine st_storeA 6 hp rfl rfl rfl (by simp [hcs_len]) (sz34.trans (by simp [hcs_len])) (hcs_one _) (fun w hp => ?_)
          refine st_v (ov_assign rfl) rfl ?_
          refine st_nil ?_
          refine pn_then ?_
          refine sc_ret ?_
          refine pr_block ?_
          refine pr_then ?_
          refine pr_rv2 rfl (rv_cells rfl Tryd.underlying34 rfl (sz34.trans (by simp [hcs_len])) (hp.cells' (t := 6) rfl)) (rv_tmp rfl) ?_
          have hE : prE (m : Int) W b.length (v : Int) = 63 := by unfold prE; rw [if_neg (by assumption), if_pos (by rw [Bool.eq_false_iff]; intro h9; have h8 := (pow20_and (by omega) (by omega)).1 h9; omega)]
          have hV : prV (m : Int) W b (v : Int) = hz0 := by unfold prV; rw [hE, if_neg (by first | assumption | decide)]
          exact ⟨by rw [hE, hV]; first | done | rfl, hp.chg⟩
        ·
          have hc := of_decide_eq_false hc
          have hpw : pow20 (v : Int) = true := (pow20_and (by omega) (by omega)).2 (by omega)
          refine sc_seq ?_
          refine sc_region ?_
          refine st_v (ov_move rfl) rfl ?_
          refine st_v (ov_len rfl Tryd.underlying24 rfl) rfl ?_
          refine st_v (ov_eql rfl rfl) rfl ?_
          refine st_v (ov_assign rfl) rfl ?_
          refine st_nil ?_
          refine pn_then ?_
          refine sc_cond rfl (fun hc => ?_) (fun hc => ?_)
          ·
            have hc := of_decide_eq_true hc
            refine sc_seq ?_
            refine sc_region ?_
            refine st_v (ov_buildA (cells := hcs hz0) rfl Tryd.underlying34 zl34 sz5 (by kernel_rfl)) rfl ?_
            refine st_storeA 6 hp rfl rfl rfl (by simp [hcs_len]) (sz34.trans (by simp [hcs_len])) (hcs_one _) (fun w hp => ?_)
            refine st_v (ov_assign rfl) rfl ?_
            refine st_nil ?_
            refine pn_then ?_
            refine sc_ret ?_
            refine pr_block ?_
            refine pr_then ?_
            refine pr_rv2 rfl (rv_cells rfl Tryd.underlying34 rfl (sz34.trans (by simp [hcs_len])) (hp.cells' (t := 6) rfl)) (rv_tmp rfl) ?_
            have hE : prE (m : Int) W b.length (v : Int) = 61 := by unfold prE; rw [if_neg (by assumption), if_neg (by rw [hpw]; decide), if_pos (by omega)]
            have hV : prV (m : Int) W b (v : Int) = hz0 := by unfold prV; rw [hE, if_neg (by first | assumption | decide)]
            exact ⟨by rw [hE, hV]; first | done | rfl, hp.chg⟩
          ·
            have hc := of_decide_eq_false hc
            refine sc_seq ?_
            refine sc_region ?_
            refine st_v (ov_loadN rfl Tryd.underlying23 rfl (sz23.trans rfl) (hp.cells' (t := 3) rfl)) rfl ?_
            refine st_v (ov_move rfl) rfl ?_
            refine st_v (ov_len rfl Tryd.underlying24 rfl) rfl ?_
            refine st_call pl59 rfl rfl rfl (count_walk m b.length W (by omega) (by omega) _) ?_
            rintro _ w ⟨rfl, hch⟩
            refine ⟨_, rfl, ?_⟩
            replace hp := hp.call hch
            clear hch
            refine st_v (ov_move rfl) rfl ?_
            refine st_v (ov_gtr rfl rfl) rfl ?_
            refine st_v (ov_assign rfl) rfl ?_
            refine st_nil ?_
            refine pn_then ?_
            refine sc_cond rfl (fun hc => ?_) (fun hc => ?_)
            ·
              have hc := of_decide_eq_true hc
              refine sc_seq ?_
              refine sc_region ?_
              refine st_v (ov_buildA (cells := hcs hz0) rfl Tryd.underlying34 zl34 sz5 (by kernel_rfl)) rfl ?_
              refine st_storeA 6 hp rfl rfl rfl (by simp [hcs_len]) (sz34.trans (by simp [hcs_len])) (hcs_one _) (fun w hp => ?_)
              refine st_v (ov_assign rfl) rfl ?_
              refine st_nil ?_
              refine pn_then ?_
              refine sc_ret ?_
              refine pr_block ?_
              refine pr_then ?_
              refine pr_rv2 rfl (rv_cells rfl Tryd.underlying34 rfl (sz34.trans (by simp [hcs_len])) (hp.cells' (t := 6) rfl)) (rv_tmp rfl) ?_
              have hE : prE (m : Int) W b.length (v : Int) = 64 := by unfold prE; rw [if_neg (by assumption), if_neg (by rw [hpw]; decide), if_neg (by omega), if_pos (by rw [Int.toNat_natCast]; omega)]
              have hV : prV (m : Int) W b (v : Int) = hz0 := by unfold prV; rw [hE, if_neg (by first | assumption | decide)]
              exact ⟨by rw [hE, hV]; first | done | rfl, hp.chg⟩
            ·
              have hc := of_decide_eq_false hc
              refine sc_skip ?_
              refine pn_block ?_
              refine pn_then ?_
              refine sc_seq ?_
              have hE : prE (m : Int) W b.length (v : Int) = 0 := by unfold prE; rw [if_neg (by omega), if_neg (by rw [hpw]; decide), if_neg (by omega), if_neg (by rw [Int.toNat_natCast]; omega)]
              have hV : prV (m : Int) W b (v : Int) = (layL (m : Int) W 0 (leavesL (m : Int) W m b) (bitLen (v - 1))).getD 0 hz0 := by unfold prV; rw [if_pos hE, Int.toNat_natCast, Int.toNat_natCast]
              have hv20 : v ≤ 1048576 := by obtain ⟨a, ha, hva⟩ := pow20_iff.1 hpw; have h9 : 2 ^ a ≤ 2 ^ 20 := Nat.pow_le_pow_right (by omega) ha; omega
              have hv1 : 1 ≤ v := by obtain ⟨a, ha, hva⟩ := pow20_iff.1 hpw; have h9 := Nat.two_pow_pos a; omega
              have hll : (leavesL (m : Int) W m b).length = cntB b.length m := leavesK_len _ _ _ _ _
              have hcz := cnt_zero (n := b.length) (m := m) (by omega)
              obtain ⟨k, hk9⟩ : ∃ k, k = bitLen (v - 1) := ⟨_, rfl⟩
              have hk20 : k ≤ 20 := by rw [hk9]; exact bit_le20 hv20
              rw [← hk9] at hV
              refine sc_region ?_
              refine st_v (ov_loadN rfl Tryd.underlying23 rfl (sz23.trans rfl) (hp.cells' (t := 3) rfl)) rfl ?_
              refine st_v (ov_buildS (pl := #[(0, 2), (2, 1)]) (cells := rws (m : Int) W none 0 0) rfl Tryd.underlying85 zl85 (by intro w; kernel_rfl) (by kernel_rfl)) rfl ?_
              refine st_box 46 hp rfl rfl rfl (fun b46 w hp => ?_)
              replace hp := hp.nil 100 34
              refine st_v (ov_assign rfl) rfl ?_
              refine st_nil ?_
              refine pn_then ?_
              refine sc_seq ?_
              refine sc_region ?_
              refine st_v (ov_loadN rfl Tryd.underlying23 rfl (sz23.trans rfl) (hp.cells' (t := 3) rfl)) rfl ?_
              refine st_v (ov_move rfl) rfl ?_
              refine st_v (ov_move rfl) rfl ?_
              refine st_v (ov_makeFunc rfl rfl) rfl ?_
              refine st_call pl60 rfl rfl rfl (walk_walk b46 m W gnil b _ _ _ (by omega) (hp.owns' (ts := [46, 100]) (by simp) rfl) rfl (h1.chg hp.chg) (hp.offs0 h1 (ts := [46, 100]) (by simp) rfl) rfl hca hz (by omega) (hp.old hk (by simp)) (hp.old hf (by simp)) (hp.notin hk kL_ne (ts := [46, 100]) (by simp) rfl) (hp.notin hf fL_ne (ts := [46, 100]) (by simp) rfl)) ?_
              rintro _ w ⟨rfl, g2, hL, hcg2⟩
              refine ⟨_, rfl, ?_⟩
              replace hp := hp.back [46, 100] [46, 100] (by simp) rfl hL (by simp) rfl (by simp)
              clear hL
              simp only [tg, rwk, List.cons_append, List.nil_append] at hp
              refine st_nil ?_
              refine pn_then ?_
              refine sc_seq ?_
              obtain ⟨Hs, hHs⟩ := (hp.sub (L' := [(46, _), (100, _), (6, _), (3, _)]) (LSub.cons rfl (LSub.cons rfl (LSub.cons rfl (LSub.cons rfl (LSub.nil _)))))).hs
              refine sc_plan Hs [0, 1, 2, 3, 4, 5, 8, 11] [6] (.load 0 (.take 1 (.take 2 (.take 3 (.load 4 (.take 5 (.one 6 (.one 7 (.take 8 (.one 9 (.one 10 (.take 11 .nil)))))))))))) (by kernel_rfl) (by kernel_rfl) (by repeat (first | exact calm_body _ _ _ | refine calm_then ?_ | refine calm_block ?_ | refine calm_jump ?_ | refine calm_ng ?_)) ?_
              replace hp := hp.drew
              refine sp_load rfl ((hHs _).2 (hp.sub (LSub.cons rfl (LSub.cons rfl (LSub.cons rfl (LSub.cons rfl (LSub.nil _))))))) (fun w hs => have hp := (hHs w).1 hs; ov_loadN rfl Tryd.underlying23 rfl (sz23.trans rfl) (hp.cells' (t := 3) rfl)) rfl ?_
              refine sp_take rfl (fun w => ov_move rfl) rfl ?_
              refine sp_take rfl (fun w => ov_nilCheck rfl) rfl ?_
              refine sp_take rfl (fun w => ov_field (q := 2) rfl Tryd.underlying85 rfl sz26 rfl) rfl ?_
              refine sp_load rfl ((hHs _).2 (hp.sub (LSub.cons rfl (LSub.cons rfl (LSub.cons rfl (LSub.cons rfl (LSub.nil _))))))) (fun w hs => have hp := (hHs w).1 hs; ov_load1 rfl Tryd.underlying26 rfl (rws_row (hp.cells' (t := 46) rfl))) rfl ?_
              refine sp_take rfl (fun w => ov_move rfl) rfl ?_
              refine sp_one rfl ?_
              refine st_call pl70 rfl rfl rfl (rise_walk v (by omega) _) ?_
              rintro _ w ⟨rfl, hch⟩
              refine ⟨_, rfl, ?_⟩
              replace hp := hp.call hch
              clear hch
              rw [← hk9]
              refine st_nil ?_
              refine sp_next (i := 6) (fun _ => ((hHs _).2 (hp.sub (LSub.cons rfl (LSub.cons rfl (LSub.cons rfl (LSub.cons rfl (LSub.nil _)))))))) ?_
              refine sp_one rfl ?_
              refine st_call pl71 rfl rfl rfl (climb_walk (m : Int) W (leavesL (m : Int) W m b) _ _ 0 k _ (Rd.own (hp.own 100 _ rfl)) rfl (by omega) (by omega) (by omega) (hp.old hk (by simp)) (hp.old hf (by simp))) ?_
              rintro _ w ⟨g59, rfl, hm59⟩
              refine ⟨_, rfl, ?_⟩
              replace hp := hp.got 59 hm59
              have hc59 := hm59.2
              clear hm59
              refine st_nil ?_
              refine sp_next (i := 7) (fun h => absurd h (by decide)) ?_
              have hl1 : (layL (m : Int) W 0 (leavesL (m : Int) W m b) k).length = 1 := lay_one _ _ _ _ _ (by omega) (by have h9 := bit_pow hv1; rw [← hk9] at h9; omega)
              obtain ⟨bb1, oo1, hadr1, hcl1⟩ := (Rd.own (hp.own 59 _ rfl)).pos (by rw [flat_len hcs_len]; omega)
              refine sp_take rfl (fun w => ov_indexR hadr1 rfl rfl Tryd.underlying26 sz34 (by omega)) rfl ?_
              refine sp_one rfl ?_
              refine st_v (ov_loadN rfl Tryd.underlying34 rfl (sz34.trans (by simp [hcs_len])) (((Rd.own (hp.own 59 _ rfl)).at_adr hadr1 (by rw [flat_len hcs_len]; omega)).elemN hcs_len (0) ⟨by rfl, by omega⟩ hz0)) rfl ?_
              refine st_nil ?_
              refine sp_next (i := 9) (fun h => absurd h (by decide)) ?_
              refine sp_one rfl ?_
              refine st_storeA 6 hp rfl rfl rfl (by simp [hcs_len]) (sz34.trans (by simp [hcs_len])) (hcs_one _) (fun w hp => ?_)
              refine st_nil ?_
              refine sp_next (i := 10) (fun h => absurd h (by decide)) ?_
              refine sp_take rfl (fun w => ov_assign rfl) rfl ?_
              refine sp_nil ?_
              refine pn_then ?_
              refine sc_ret ?_
              refine pr_rv2 rfl (rv_cells rfl Tryd.underlying34 rfl (sz34.trans (by simp [hcs_len])) (hp.cells' (t := 6) rfl)) (rv_tmp rfl) ?_
              exact ⟨by rw [hE, hV], hp.chg⟩

set_option maxRecDepth 100000 in
theorem PieceRootr_walk (B W : Int) (b : List UInt8) {nb : Nat} (ao : Option Addr) (ca : Nat) (lv : Int) (w0 : World) (h1 : Rd w0 ao (b.map B8)) (hb : b.length = nb) (hca : b.length ≤ ca) (hz : b.length ≤ 140737488351232) (hlv : -9223372036854775808 ≤ lv ∧ lv ≤ 9223372036854775807) :
    Calls Tryd.prog 35 #[sca B W, .slice ao nb ca, .int .i64 lv] w0 fun e w' => e = .returned (.tuple #[.agg (hcs (prV B W b lv)).toArray, .int .i64 (prE B W b.length lv)]) ∧ Chg [] w0 w' := by
  refine calls_in Tryd.func35 Tryd.ntmps35 rfl rfl ?_
  have hp := Hp.start w0
  subst hb
  refine sc_seq ?_
  refine sc_region ?_
  refine st_box 3 hp rfl rfl rfl (fun b3 w hp => ?_)
  refine st_alloc 6 (hcs hz0) hp rfl zl34 rfl (fun b6 w hp => ?_)
  refine st_v (ov_assign rfl) rfl ?_
  refine st_nil ?_
  refine pn_then ?_
  refine sc_seq ?_
  refine sc_region ?_
  refine st_v (ov_loadN rfl Tryd.underlying23 rfl (sz23.trans rfl) (hp.cells' (t := 3) rfl)) rfl ?_
  refine st_call pl56 rfl rfl rfl (goodr_walk B W _) ?_
  rintro _ w ⟨rfl, hch⟩
  refine ⟨_, rfl, ?_⟩
  replace hp := hp.call hch
  clear hch
  refine st_v (ov_assign rfl) rfl ?_
  refine st_nil ?_
  refine pn_then ?_
  refine sc_seq ?_
  refine sc_seq ?_
  refine sc_region ?_
  refine st_v (ov_move rfl) rfl ?_
  refine st_v (ov_neq rfl rfl) rfl ?_
  refine st_nil ?_
  refine pn_then ?_
  refine sc_cond rfl (fun hc => ?_) (fun hc => ?_)
  ·
    have hc := of_decide_eq_true hc
    refine sc_seq ?_
    refine sc_region ?_
    refine st_v (ov_buildA (cells := hcs hz0) rfl Tryd.underlying34 zl34 sz5 (by kernel_rfl)) rfl ?_
    refine st_v (ov_move rfl) rfl ?_
    refine st_storeA 6 hp rfl rfl rfl (by simp [hcs_len]) (sz34.trans (by simp [hcs_len])) (hcs_one _) (fun w hp => ?_)
    refine st_v (ov_assign rfl) rfl ?_
    refine st_nil ?_
    refine pn_then ?_
    refine sc_ret ?_
    refine pr_then ?_
    refine pr_rv2 rfl (rv_cells rfl Tryd.underlying34 rfl (sz34.trans (by simp [hcs_len])) (hp.cells' (t := 6) rfl)) (rv_tmp rfl) ?_
    have hE : prE B W b.length lv = goodNo B W := by unfold prE; rw [if_pos (by assumption)]
    have hV : prV B W b lv = hz0 := by unfold prV; rw [hE, if_neg (by first | assumption | decide)]
    exact ⟨by rw [hE, hV]; first | done | rfl, hp.chg⟩
  ·
    have hc := of_decide_eq_false hc
    have hg0 : goodNo B W = 0 := by omega
    obtain ⟨m, rfl, hm1, hm2⟩ := good_block hg0
    refine sc_skip ?_
    refine pn_then ?_
    refine sc_seq ?_
    refine sc_seq ?_
    refine sc_region ?_
    refine st_v (ov_move rfl) rfl ?_
    refine st_call pl75 rfl rfl rfl (ispower_walk lv _) ?_
    rintro _ w ⟨rfl, hch⟩
    refine ⟨_, rfl, ?_⟩
    replace hp := hp.call hch
    clear hch
    refine st_v (ov_not rfl) rfl ?_
    refine st_nil ?_
    refine pn_then ?_
    refine sc_cond rfl (fun hc => ?_) (fun hc => ?_)
    ·
      refine sc_seq ?_
      refine sc_region ?_
      refine st_v (ov_buildA (cells := hcs hz0) rfl Tryd.underlying34 zl34 sz5 (by kernel_rfl)) rfl ?_
      refine st_storeA 6 hp rfl rfl rfl (by simp [hcs_len]) (sz34.trans (by simp [hcs_len])) (hcs_one _) (fun w hp => ?_)
      refine st_v (ov_assign rfl) rfl ?_
      refine st_nil ?_
      refine pn_then ?_
      refine sc_ret ?_
      refine pr_then ?_
      refine pr_rv2 rfl (rv_cells rfl Tryd.underlying34 rfl (sz34.trans (by simp [hcs_len])) (hp.cells' (t := 6) rfl)) (rv_tmp rfl) ?_
      have hE : prE (m : Int) W b.length lv = 63 := by unfold prE; rw [if_neg (by assumption), if_pos (by simpa using hc)]
      have hV : prV (m : Int) W b lv = hz0 := by unfold prV; rw [hE, if_neg (by first | assumption | decide)]
      exact ⟨by rw [hE, hV]; first | done | rfl, hp.chg⟩
    ·
      have hpw : pow20 lv = true := by simpa using hc
      obtain ⟨v, rfl⟩ : ∃ v : Nat, lv = (v : Int) := by obtain ⟨a, _, h9⟩ := pow20_iff.1 hpw; exact ⟨2 ^ a, h9⟩
      refine sc_skip ?_
      refine pn_then ?_
      refine sc_seq ?_
      refine sc_seq ?_
      refine sc_region ?_
      refine st_v (ov_move rfl) rfl ?_
      refine st_v (ov_len rfl Tryd.underlying24 rfl) rfl ?_
      refine st_v (ov_eql rfl rfl) rfl ?_
      refine st_nil ?_
      refine pn_then ?_
      refine sc_cond rfl (fun hc => ?_) (fun hc => ?_)
      ·
        have hc := of_decide_eq_true hc
        refine sc_seq ?_
        refine sc_region ?_
        refine st_v (ov_buildA (cells := hcs hz0) rfl Tryd.underlying34 zl34 sz5 (by kernel_rfl)) rfl ?_
        refine st_storeA 6 hp rfl rfl rfl (by simp [hcs_len]) (sz34.trans (by simp [hcs_len])) (hcs_one _) (fun w hp => ?_)
        refine st_v (ov_assign rfl) rfl ?_
        refine st_nil ?_
        refine pn_then ?_
        refine sc_ret ?_
        refine pr_then ?_
        refine pr_rv2 rfl (rv_cells rfl Tryd.underlying34 rfl (sz34.trans (by simp [hcs_len])) (hp.cells' (t := 6) rfl)) (rv_tmp rfl) ?_
        have hE : prE (m : Int) W b.length (v : Int) = 61 := by unfold prE; rw [if_neg (by assumption), if_neg (by rw [hpw]; decide), if_pos (by omega)]
        have hV : prV (m : Int) W b (v : Int) = hz0 := by unfold prV; rw [hE, if_neg (by first | assumption | decide)]
        exact ⟨by rw [hE, hV]; first | done | rfl, hp.chg⟩
      ·
        have hc := of_decide_eq_false hc
        refine sc_skip ?_
        refine pn_then ?_
        refine sc_seq ?_
        refine sc_seq ?_
        refine sc_region ?_
        refine st_v (ov_loadN rfl Tryd.underlying23 rfl (sz23.trans rfl) (hp.cells' (t := 3) rfl)) rfl ?_
        refine st_v (ov_move rfl) rfl ?_
        refine st_v (ov_len rfl Tryd.underlying24 rfl) rfl ?_
        refine st_call pl57 rfl rfl rfl (blocks_walk m b.length W (by omega) (by omega) _) ?_
        rintro _ w ⟨rfl, hch⟩
        refine ⟨_, rfl, ?_⟩
        replace hp := hp.call hch
        clear hch
        refine st_v (ov_move rfl) rfl ?_
        refine st_v (ov_gtr rfl rfl) rfl ?_
        refine st_nil ?_
        refine pn_then ?_
        refine sc_cond rfl (fun hc => ?_) (fun hc => ?_)
        ·
          have hc := of_decide_eq_true hc
          refine sc_seq ?_
          refine sc_region ?_
          refine st_v (ov_buildA (cells := hcs hz0) rfl Tryd.underlying34 zl34 sz5 (by kernel_rfl)) rfl ?_
          refine st_storeA 6 hp rfl rfl rfl (by simp [hcs_len]) (sz34.trans (by simp [hcs_len])) (hcs_one _) (fun w hp => ?_)
          refine st_v (ov_assign rfl) rfl ?_
          refine st_nil ?_
          refine pn_then ?_
          refine sc_ret ?_
          refine pr_then ?_
          refine pr_rv2 rfl (rv_cells rfl Tryd.underlying34 rfl (sz34.trans (by simp [hcs_len])) (hp.cells' (t := 6) rfl)) (rv_tmp rfl) ?_
          have hE : prE (m : Int) W b.length (v : Int) = 64 := by unfold prE; rw [if_neg (by assumption), if_neg (by rw [hpw]; decide), if_neg (by omega), if_pos (by rw [Int.toNat_natCast]; omega)]
          have hV : prV (m : Int) W b (v : Int) = hz0 := by unfold prV; rw [hE, if_neg (by first | assumption | decide)]
          exact ⟨by rw [hE, hV]; first | done | rfl, hp.chg⟩
        ·
          have hc := of_decide_eq_false hc
          refine sc_skip ?_
          refine pn_then ?_
          refine sc_seq ?_
          have hE : prE (m : Int) W b.length (v : Int) = 0 := by unfold prE; rw [if_neg (by omega), if_neg (by rw [hpw]; decide), if_neg (by omega), if_neg (by rw [Int.toNat_natCast]; omega)]
          have hV : prV (m : Int) W b (v : Int) = (layL (m : Int) W 0 (leavesL (m : Int) W m b) (bitLen (v - 1))).getD 0 hz0 := by unfold prV; rw [if_pos hE, Int.toNat_natCast, Int.toNat_natCast]
          have hv20 : v ≤ 1048576 := by obtain ⟨a, ha, hva⟩ := pow20_iff.1 hpw; have h9 : 2 ^ a ≤ 2 ^ 20 := Nat.pow_le_pow_right (by omega) ha; omega
          have hv1 : 1 ≤ v := by obtain ⟨a, ha, hva⟩ := pow20_iff.1 hpw; have h9 := Nat.two_pow_pos a; omega
          have hll : (leavesL (m : Int) W m b).length = cntB b.length m := leavesK_len _ _ _ _ _
          have hcz := cnt_zero (n := b.length) (m := m) (by omega)
          obtain ⟨k, hk9⟩ : ∃ k, k = bitLen (v - 1) := ⟨_, rfl⟩
          have hk20 : k ≤ 20 := by rw [hk9]; exact bit_le20 hv20
          rw [← hk9] at hV
          obtain ⟨Hs, hHs⟩ := (hp.sub (L' := [(6, _), (3, _)]) (LSub.cons rfl (LSub.cons rfl (LSub.nil _)))).hs
          refine sc_plan Hs [0, 1, 2, 4, 8] [3, 5] (.load 0 (.load 1 (.take 2 (.take 4 (.one 3 (.one 5 (.one 6 (.one 7 (.take 8 .nil))))))))) (by kernel_rfl) (by kernel_rfl) (by repeat (first | exact calm_body _ _ _ | refine calm_then ?_ | refine calm_block ?_ | refine calm_jump ?_ | refine calm_ng ?_)) ?_
          replace hp := hp.drew
          refine sp_load rfl ((hHs _).2 (hp.sub (LSub.cons rfl (LSub.cons rfl (LSub.nil _))))) (fun w hs => have hp := (hHs w).1 hs; ov_loadN rfl Tryd.underlying23 rfl (sz23.trans rfl) (hp.cells' (t := 3) rfl)) rfl ?_
          refine sp_load rfl ((hHs _).2 (hp.sub (LSub.cons rfl (LSub.cons rfl (LSub.nil _))))) (fun w hs => have hp := (hHs w).1 hs; ov_loadN rfl Tryd.underlying23 rfl (sz23.trans rfl) (hp.cells' (t := 3) rfl)) rfl ?_
          refine sp_take rfl (fun w => ov_move rfl) rfl ?_
          refine sp_take rfl (fun w => ov_move rfl) rfl ?_
          refine sp_one rfl ?_
          refine st_call pl58 rfl rfl rfl (leavesr_walk m W b _ _ _ (by omega) (h1.chg hp.chg) rfl hca hz (by omega)) ?_
          rintro _ w ⟨g33, rfl, hm33⟩
          refine ⟨_, rfl, ?_⟩
          replace hp := hp.got 33 hm33
          have hc33 := hm33.2
          clear hm33
          refine st_nil ?_
          refine sp_next (i := 3) (fun _ => ((hHs _).2 (hp.sub (LSub.cons rfl (LSub.cons rfl (LSub.nil _)))))) ?_
          refine sp_one rfl ?_
          refine st_call pl67 rfl rfl rfl (riser_walk v (by omega) _) ?_
          rintro _ w ⟨rfl, hch⟩
          refine ⟨_, rfl, ?_⟩
          replace hp := hp.call hch
          clear hch
          rw [← hk9]
          refine st_nil ?_
          refine sp_next (i := 5) (fun _ => ((hHs _).2 (hp.sub (LSub.cons rfl (LSub.cons rfl (LSub.nil _)))))) ?_
          refine sp_one rfl ?_
          refine st_call pl72 rfl rfl rfl (node0_walk (m : Int) W (leavesL (m : Int) W m b) _ _ _ _ (Rd.own (hp.own 33 _ rfl)) rfl (by omega) (by omega) (by omega)) ?_
          rintro _ w ⟨rfl, hch⟩
          refine ⟨_, rfl, ?_⟩
          replace hp := hp.call hch
          clear hch
          refine st_nil ?_
          refine sp_next (i := 6) (fun h => absurd h (by decide)) ?_
          refine sp_one rfl ?_
          refine st_storeA 6 hp rfl rfl rfl (by simp [hcs_len]) (sz34.trans (by simp [hcs_len])) (hcs_one _) (fun w hp => ?_)
          refine st_nil ?_
          refine sp_next (i := 7) (fun h => absurd h (by decide)) ?_
          refine sp_take rfl (fun w => ov_assign rfl) rfl ?_
          refine sp_nil ?_
          refine pn_then ?_
          refine sc_ret ?_
          refine pr_rv2 rfl (rv_cells rfl Tryd.underlying34 rfl (sz34.trans (by simp [hcs_len])) (hp.cells' (t := 6) rfl)) (rv_tmp rfl) ?_
          exact ⟨by rw [hE, hV], hp.chg⟩

set_option maxRecDepth 100000 in
theorem PieceLayer_walk (B W p : Int) (b : List UInt8) {nb : Nat} (ao : Option Addr) (ca : Nat) (w0 : World) (hpr : -9223372036854775808 ≤ p ∧ p ≤ 9223372036854775807) (h1 : Rd w0 ao (b.map B8)) (hb : b.length = nb) (hca : b.length ≤ ca) (hz : b.length ≤ 140737488351232) (hk : Cells w0 1 0 (kL.map B32)) (hf : Cells w0 0 0 (fL.map B32)) :
    Calls Tryd.prog 36 #[sca B W, .int .i64 p, .slice ao nb ca] w0 fun e w' => ∃ g : Gs, e = .returned (.tuple #[.slice (adr g.ob) (plV B W p b).length g.cap, .int .i64 (plE B W p b.length)]) ∧ Mk w0 w' 34 32 ((plV B W p b).flatMap hcs) g := by
  refine calls_in Tryd.func36 Tryd.ntmps36 rfl rfl ?_
  have hp := Hp.start w0
  subst hb
  refine sc_seq ?_
  refine sc_region ?_
  refine st_box 3 hp rfl rfl rfl (fun b3 w hp => ?_)
  refine st_v (ov_assign rfl) rfl ?_
  refine st_v (ov_assign rfl) rfl ?_
  refine st_nil ?_
  refine pn_then ?_
  refine sc_seq ?_
  refine sc_seq ?_
  refine sc_region ?_
  refine st_v (ov_loadN rfl Tryd.underlying23 rfl (sz23.trans rfl) (hp.cells' (t := 3) rfl)) rfl ?_
  refine st_v (ov_move rfl) rfl ?_
  refine st_call pl74 rfl rfl rfl (piece_walk B W p hpr _) ?_
  rintro _ w ⟨rfl, hch⟩
  refine ⟨_, rfl, ?_⟩
  replace hp := hp.call hch
  clear hch
  refine st_v (ov_assign rfl) rfl ?_
  refine st_nil ?_
  refine pn_then ?_
  refine sc_seq ?_
  refine sc_region ?_
  refine st_v (ov_move rfl) rfl ?_
  refine st_v (ov_neq rfl rfl) rfl ?_
  refine st_nil ?_
  refine pn_then ?_
  refine sc_cond rfl (fun hc => ?_) (fun hc => ?_)
  ·
    have hc := of_decide_eq_true hc
    refine sc_seq ?_
    refine sc_region ?_
    refine st_v (ov_move rfl) rfl ?_
    refine st_v (ov_assign rfl) rfl ?_
    refine st_v (ov_assign rfl) rfl ?_
    refine st_nil ?_
    refine pn_then ?_
    refine sc_ret ?_
    refine pr_then ?_
    refine pr_two rfl rfl rfl ?_
    have hE : plE B W p b.length = pieceE B W p := by unfold plE; rw [if_pos (by assumption)]
    have hV : plV B W p b = [] := by unfold plV; rw [if_neg (by rw [hE]; exact fun h9 => absurd h9.1 (by assumption))]
    exact ⟨gnil, by rw [hE, hV]; first | done | rfl, by rw [hV]; exact hp.gives0 _ _⟩
  ·
    have hc := of_decide_eq_false hc
    have hp0 : pieceE B W p = 0 := by omega
    obtain ⟨hg0, m, j, rfl, hm1, hm2, hj, hpq⟩ := pieceE_ok hp0
    obtain ⟨q, hq⟩ : ∃ q, q = 2 ^ j * m := ⟨_, rfl⟩
    rw [← hq] at hpq
    subst hpq
    have hqb : q ≤ 1024 * 16384 := by rw [hq]; exact Nat.mul_le_mul (show 2 ^ j ≤ 2 ^ 10 from Nat.pow_le_pow_right (by omega) hj) hm2
    have hqm : m ≤ q := by rw [hq]; exact Nat.le_mul_of_pos_left m (Nat.two_pow_pos j)
    have hqd := piece_div hq (by omega)
    have hqbit := piece_bit hq (by omega)
    have hpj : 2 ^ j ≤ 1024 := show 2 ^ j ≤ 2 ^ 10 from Nat.pow_le_pow_right (by omega) hj
    have hpj0 := Nat.two_pow_pos j
    have hPE : plE (m : Int) W (q : Int) b.length = leavesE (m : Int) W b.length := by unfold plE; rw [if_neg (by omega)]
    have hll := leavesV_len (m : Int) W b
    refine sc_skip ?_
    refine pn_then ?_
    refine sc_seq ?_
    refine sc_region ?_
    refine st_v (ov_loadN rfl Tryd.underlying23 rfl (sz23.trans rfl) (hp.cells' (t := 3) rfl)) rfl ?_
    refine st_v (ov_move rfl) rfl ?_
    refine st_call pl18 rfl rfl rfl (Leaves_walk (m : Int) W b _ _ _ (h1.chg hp.chg) rfl hca hz (hp.old hk (by simp)) (hp.old hf (by simp))) ?_
    rintro _ w ⟨g20, rfl, hm20⟩
    refine ⟨_, rfl, ?_⟩
    replace hp := hp.got 20 hm20
    have hc20 := hm20.2
    clear hm20
    refine st_v (ov_move rfl) rfl ?_
    refine st_v (ov_extract rfl rfl) rfl ?_
    refine st_v (ov_extract rfl rfl) rfl ?_
    refine st_v (ov_assign rfl) rfl ?_
    refine st_v (ov_assign rfl) rfl ?_
    refine st_nil ?_
    refine pn_then ?_
    refine sc_seq ?_
    refine sc_seq ?_
    refine sc_region ?_
    refine st_v (ov_move rfl) rfl ?_
    refine st_v (ov_neq rfl rfl) rfl ?_
    refine st_v (ov_move rfl) rfl ?_
    refine st_split (j := 25) rfl (fun hb => ?_) (fun hb => ?_)
    ·
      have hb := of_decide_eq_true hb
      refine st_off (j := 2) rfl rfl rfl rfl ?_
      refine st_off (j := 2) rfl rfl rfl rfl ?_
      refine st_off (j := 2) rfl rfl rfl rfl ?_
      refine st_off (j := 2) rfl rfl rfl rfl ?_
      refine st_v (ov_pick_t rfl rfl) rfl ?_
      refine st_nil ?_
      refine pn_then ?_
      refine sc_true rfl ?_
      refine sc_seq ?_
      refine sc_region ?_
      refine st_v (ov_move rfl) rfl ?_
      refine st_v (ov_assign rfl) rfl ?_
      refine st_v (ov_assign rfl) rfl ?_
      refine st_nil ?_
      refine pn_then ?_
      refine sc_ret ?_
      refine pr_then ?_
      refine pr_two rfl rfl rfl ?_
      have hE : plE (m : Int) W (q : Int) b.length = leavesE (m : Int) W b.length := by exact hPE
      have hV : plV (m : Int) W (q : Int) b = [] := by unfold plV; rw [if_neg (by rw [hE]; exact fun h9 => absurd h9.1 (by assumption))]
      exact ⟨gnil, by rw [hE, hV]; first | done | rfl, by rw [hV]; exact hp.gives0 _ _⟩
    ·
      have hb := of_decide_eq_false hb
      refine st_on (j := 2) rfl rfl ?_
      refine st_v (ov_move rfl) rfl ?_
      refine st_on (j := 2) rfl rfl ?_
      refine st_v (ov_len rfl Tryd.underlying24 rfl) rfl ?_
      refine st_on (j := 2) rfl rfl ?_
      refine st_v (ov_move rfl) rfl ?_
      refine st_on (j := 2) rfl rfl ?_
      refine st_v (ov_leq rfl rfl) rfl ?_
      refine st_v (ov_pick_f rfl rfl) rfl ?_
      refine st_nil ?_
      refine pn_then ?_
      refine sc_cond rfl (fun hc => ?_) (fun hc => ?_)
      ·
        have hc := of_decide_eq_true hc
        refine sc_seq ?_
        refine sc_region ?_
        refine st_v (ov_move rfl) rfl ?_
        refine st_v (ov_assign rfl) rfl ?_
        refine st_v (ov_assign rfl) rfl ?_
        refine st_nil ?_
        refine pn_then ?_
        refine sc_ret ?_
        refine pr_then ?_
        refine pr_two rfl rfl rfl ?_
        have hE : plE (m : Int) W (q : Int) b.length = leavesE (m : Int) W b.length := by exact hPE
        have hV : plV (m : Int) W (q : Int) b = [] := by unfold plV; rw [if_neg (by exact fun h9 => absurd h9.2 (by omega))]
        exact ⟨gnil, by rw [hE, hV]; first | done | rfl, by rw [hV]; exact hp.gives0 _ _⟩
      ·
        have hc := of_decide_eq_false hc
        refine sc_skip ?_
        refine pn_then ?_
        refine sc_seq ?_
        have hE : plE (m : Int) W (q : Int) b.length = 0 := by rw [hPE]; omega
        have hV : plV (m : Int) W (q : Int) b = layL (m : Int) W 0 (leavesV (m : Int) W b) j := by unfold plV; rw [if_pos ⟨hE, by omega⟩, hqbit]
        obtain ⟨Hs, hHs⟩ := (hp.sub (L' := [(20, _), (3, _)]) (LSub.cons rfl (LSub.cons rfl (LSub.nil _)))).hs
        refine sc_plan Hs [0, 1, 2, 3, 4, 5, 8, 9] [6] (.load 0 (.take 1 (.take 2 (.take 3 (.load 4 (.take 5 (.one 6 (.one 7 (.take 8 (.take 9 .nil)))))))))) (by kernel_rfl) (by kernel_rfl) (by repeat (first | exact calm_body _ _ _ | refine calm_then ?_ | refine calm_block ?_ | refine calm_jump ?_ | refine calm_ng ?_)) ?_
        replace hp := hp.drew
        refine sp_load rfl ((hHs _).2 (hp.sub (LSub.cons rfl (LSub.cons rfl (LSub.nil _))))) (fun w hs => have hp := (hHs w).1 hs; ov_loadN rfl Tryd.underlying23 rfl (sz23.trans rfl) (hp.cells' (t := 3) rfl)) rfl ?_
        refine sp_take rfl (fun w => ov_move rfl) rfl ?_
        refine sp_take rfl (fun w => ov_move rfl) rfl ?_
        refine sp_take rfl (fun w => ov_field (q := 0) rfl Tryd.underlying23 rfl sz3 rfl) rfl ?_
        refine sp_load rfl ((hHs _).2 (hp.sub (LSub.cons rfl (LSub.cons rfl (LSub.nil _))))) (fun w hs => have hp := (hHs w).1 hs; ov_load1 rfl Tryd.underlying3 rfl ((hp.cells' (t := 3) rfl).at 0 (by simp) rfl)) rfl ?_
        refine sp_take rfl (fun w => ov_quo_n (a := q) (b := m) rfl rfl (by omega)) rfl ?_
        rw [hqd]
        refine sp_one rfl ?_
        refine st_call pl70 rfl rfl rfl (rise_walk (2 ^ j) (by omega) _) ?_
        rintro _ w ⟨rfl, hch⟩
        refine ⟨_, rfl, ?_⟩
        replace hp := hp.call hch
        clear hch
        rw [bit_pow2]
        refine st_nil ?_
        refine sp_next (i := 6) (fun _ => ((hHs _).2 (hp.sub (LSub.cons rfl (LSub.cons rfl (LSub.nil _)))))) ?_
        refine sp_one rfl ?_
        refine st_call pl71 rfl rfl rfl (climb_walk (m : Int) W (leavesV (m : Int) W b) _ _ 0 j _ (Rd.own (hp.own 20 _ rfl)) rfl (by omega) (by omega) (by omega) (hp.old hk (by simp)) (hp.old hf (by simp))) ?_
        rintro _ w ⟨g39, rfl, hm39⟩
        refine ⟨_, rfl, ?_⟩
        replace hp := hp.got 39 hm39
        have hc39 := hm39.2
        clear hm39
        refine st_nil ?_
        refine sp_next (i := 7) (fun h => absurd h (by decide)) ?_
        refine sp_take rfl (fun w => ov_assign rfl) rfl ?_
        refine sp_take rfl (fun w => ov_assign rfl) rfl ?_
        refine sp_nil ?_
        refine pn_then ?_
        refine sc_ret ?_
        refine pr_two rfl rfl rfl ?_
        exact ⟨g39, by rw [hE, hV], by rw [hV]; exact hp.gives 39 rfl hc39⟩

set_option maxRecDepth 100000 in
theorem PieceLayerr_walk (B W p : Int) (b : List UInt8) {nb : Nat} (ao : Option Addr) (ca : Nat) (w0 : World) (hpr : -9223372036854775808 ≤ p ∧ p ≤ 9223372036854775807) (h1 : Rd w0 ao (b.map B8)) (hb : b.length = nb) (hca : b.length ≤ ca) (hz : b.length ≤ 140737488351232) :
    Calls Tryd.prog 37 #[sca B W, .int .i64 p, .slice ao nb ca] w0 fun e w' => ∃ g : Gs, e = .returned (.tuple #[.slice (adr g.ob) (plV B W p b).length g.cap, .int .i64 (plE B W p b.length)]) ∧ Mk w0 w' 34 32 ((plV B W p b).flatMap hcs) g := by
  refine calls_in Tryd.func37 Tryd.ntmps37 rfl rfl ?_
  have hp := Hp.start w0
  subst hb
  refine sc_seq ?_
  refine sc_region ?_
  refine st_box 3 hp rfl rfl rfl (fun b3 w hp => ?_)
  refine st_v (ov_assign rfl) rfl ?_
  refine st_v (ov_assign rfl) rfl ?_
  refine st_nil ?_
  refine pn_then ?_
  refine sc_seq ?_
  refine sc_region ?_
  refine st_v (ov_loadN rfl Tryd.underlying23 rfl (sz23.trans rfl) (hp.cells' (t := 3) rfl)) rfl ?_
  refine st_v (ov_move rfl) rfl ?_
  refine st_call pl73 rfl rfl rfl (pieceq_walk B W p hpr _) ?_
  rintro _ w ⟨rfl, hch⟩
  refine ⟨_, rfl, ?_⟩
  replace hp := hp.call hch
  clear hch
  refine st_v (ov_assign rfl) rfl ?_
  refine st_nil ?_
  refine pn_then ?_
  refine sc_seq ?_
  refine sc_seq ?_
  refine sc_region ?_
  refine st_v (ov_move rfl) rfl ?_
  refine st_v (ov_neq rfl rfl) rfl ?_
  refine st_nil ?_
  refine pn_then ?_
  refine sc_cond rfl (fun hc => ?_) (fun hc => ?_)
  ·
    have hc := of_decide_eq_true hc
    refine sc_seq ?_
    refine sc_region ?_
    refine st_v (ov_move rfl) rfl ?_
    refine st_v (ov_assign rfl) rfl ?_
    refine st_v (ov_assign rfl) rfl ?_
    refine st_nil ?_
    refine pn_then ?_
    refine sc_ret ?_
    refine pr_then ?_
    refine pr_two rfl rfl rfl ?_
    have hE : plE B W p b.length = pieceE B W p := by unfold plE; rw [if_pos (by assumption)]
    have hV : plV B W p b = [] := by unfold plV; rw [if_neg (by rw [hE]; exact fun h9 => absurd h9.1 (by assumption))]
    exact ⟨gnil, by rw [hE, hV]; first | done | rfl, by rw [hV]; exact hp.gives0 _ _⟩
  ·
    have hc := of_decide_eq_false hc
    have hp0 : pieceE B W p = 0 := by omega
    obtain ⟨hg0, m, j, rfl, hm1, hm2, hj, hpq⟩ := pieceE_ok hp0
    obtain ⟨q, hq⟩ : ∃ q, q = 2 ^ j * m := ⟨_, rfl⟩
    rw [← hq] at hpq
    subst hpq
    have hqb : q ≤ 1024 * 16384 := by rw [hq]; exact Nat.mul_le_mul (show 2 ^ j ≤ 2 ^ 10 from Nat.pow_le_pow_right (by omega) hj) hm2
    have hqm : m ≤ q := by rw [hq]; exact Nat.le_mul_of_pos_left m (Nat.two_pow_pos j)
    have hqd := piece_div hq (by omega)
    have hqbit := piece_bit hq (by omega)
    have hpj : 2 ^ j ≤ 1024 := show 2 ^ j ≤ 2 ^ 10 from Nat.pow_le_pow_right (by omega) hj
    have hpj0 := Nat.two_pow_pos j
    have hPE : plE (m : Int) W (q : Int) b.length = leavesE (m : Int) W b.length := by unfold plE; rw [if_neg (by omega)]
    have hll := leavesV_len (m : Int) W b
    refine sc_skip ?_
    refine pn_then ?_
    refine sc_seq ?_
    refine sc_region ?_
    refine st_v (ov_loadN rfl Tryd.underlying23 rfl (sz23.trans rfl) (hp.cells' (t := 3) rfl)) rfl ?_
    refine st_v (ov_move rfl) rfl ?_
    refine st_call pl17 rfl rfl rfl (Leavesr_walk (m : Int) W b _ _ _ (h1.chg hp.chg) rfl hca hz) ?_
    rintro _ w ⟨g20, rfl, hm20⟩
    refine ⟨_, rfl, ?_⟩
    replace hp := hp.got 20 hm20
    have hc20 := hm20.2
    clear hm20
    refine st_v (ov_move rfl) rfl ?_
    refine st_v (ov_extract rfl rfl) rfl ?_
    refine st_v (ov_extract rfl rfl) rfl ?_
    refine st_v (ov_assign rfl) rfl ?_
    refine st_v (ov_assign rfl) rfl ?_
    refine st_nil ?_
    refine pn_then ?_
    refine sc_seq ?_
    refine sc_seq ?_
    refine sc_region ?_
    refine st_v (ov_move rfl) rfl ?_
    refine st_v (ov_neq rfl rfl) rfl ?_
    refine st_v (ov_move rfl) rfl ?_
    refine st_split (j := 25) rfl (fun hb => ?_) (fun hb => ?_)
    ·
      have hb := of_decide_eq_true hb
      refine st_off (j := 2) rfl rfl rfl rfl ?_
      refine st_off (j := 2) rfl rfl rfl rfl ?_
      refine st_off (j := 2) rfl rfl rfl rfl ?_
      refine st_off (j := 2) rfl rfl rfl rfl ?_
      refine st_v (ov_pick_t rfl rfl) rfl ?_
      refine st_nil ?_
      refine pn_then ?_
      refine sc_true rfl ?_
      refine sc_seq ?_
      refine sc_region ?_
      refine st_v (ov_move rfl) rfl ?_
      refine st_v (ov_assign rfl) rfl ?_
      refine st_v (ov_assign rfl) rfl ?_
      refine st_nil ?_
      refine pn_then ?_
      refine sc_ret ?_
      refine pr_then ?_
      refine pr_two rfl rfl rfl ?_
      have hE : plE (m : Int) W (q : Int) b.length = leavesE (m : Int) W b.length := by exact hPE
      have hV : plV (m : Int) W (q : Int) b = [] := by unfold plV; rw [if_neg (by rw [hE]; exact fun h9 => absurd h9.1 (by assumption))]
      exact ⟨gnil, by rw [hE, hV]; first | done | rfl, by rw [hV]; exact hp.gives0 _ _⟩
    ·
      have hb := of_decide_eq_false hb
      refine st_on (j := 2) rfl rfl ?_
      refine st_v (ov_move rfl) rfl ?_
      refine st_on (j := 2) rfl rfl ?_
      refine st_v (ov_len rfl Tryd.underlying24 rfl) rfl ?_
      refine st_on (j := 2) rfl rfl ?_
      refine st_v (ov_move rfl) rfl ?_
      refine st_on (j := 2) rfl rfl ?_
      refine st_v (ov_leq rfl rfl) rfl ?_
      refine st_v (ov_pick_f rfl rfl) rfl ?_
      refine st_nil ?_
      refine pn_then ?_
      refine sc_cond rfl (fun hc => ?_) (fun hc => ?_)
      ·
        have hc := of_decide_eq_true hc
        refine sc_seq ?_
        refine sc_region ?_
        refine st_v (ov_move rfl) rfl ?_
        refine st_v (ov_assign rfl) rfl ?_
        refine st_v (ov_assign rfl) rfl ?_
        refine st_nil ?_
        refine pn_then ?_
        refine sc_ret ?_
        refine pr_then ?_
        refine pr_two rfl rfl rfl ?_
        have hE : plE (m : Int) W (q : Int) b.length = leavesE (m : Int) W b.length := by exact hPE
        have hV : plV (m : Int) W (q : Int) b = [] := by unfold plV; rw [if_neg (by exact fun h9 => absurd h9.2 (by omega))]
        exact ⟨gnil, by rw [hE, hV]; first | done | rfl, by rw [hV]; exact hp.gives0 _ _⟩
      ·
        have hc := of_decide_eq_false hc
        refine sc_skip ?_
        refine pn_then ?_
        refine sc_seq ?_
        have hE : plE (m : Int) W (q : Int) b.length = 0 := by rw [hPE]; omega
        have hV : plV (m : Int) W (q : Int) b = layL (m : Int) W 0 (leavesV (m : Int) W b) j := by unfold plV; rw [if_pos ⟨hE, by omega⟩, hqbit]
        obtain ⟨Hs, hHs⟩ := (hp.sub (L' := [(20, _), (3, _)]) (LSub.cons rfl (LSub.cons rfl (LSub.nil _)))).hs
        refine sc_plan Hs [0, 1, 2, 3, 4, 5, 8, 9] [6] (.load 0 (.take 1 (.take 2 (.take 3 (.load 4 (.take 5 (.one 6 (.one 7 (.take 8 (.take 9 .nil)))))))))) (by kernel_rfl) (by kernel_rfl) (by repeat (first | exact calm_body _ _ _ | refine calm_then ?_ | refine calm_block ?_ | refine calm_jump ?_ | refine calm_ng ?_)) ?_
        replace hp := hp.drew
        refine sp_load rfl ((hHs _).2 (hp.sub (LSub.cons rfl (LSub.cons rfl (LSub.nil _))))) (fun w hs => have hp := (hHs w).1 hs; ov_loadN rfl Tryd.underlying23 rfl (sz23.trans rfl) (hp.cells' (t := 3) rfl)) rfl ?_
        refine sp_take rfl (fun w => ov_move rfl) rfl ?_
        refine sp_take rfl (fun w => ov_move rfl) rfl ?_
        refine sp_take rfl (fun w => ov_field (q := 0) rfl Tryd.underlying23 rfl sz3 rfl) rfl ?_
        refine sp_load rfl ((hHs _).2 (hp.sub (LSub.cons rfl (LSub.cons rfl (LSub.nil _))))) (fun w hs => have hp := (hHs w).1 hs; ov_load1 rfl Tryd.underlying3 rfl ((hp.cells' (t := 3) rfl).at 0 (by simp) rfl)) rfl ?_
        refine sp_take rfl (fun w => ov_quo_n (a := q) (b := m) rfl rfl (by omega)) rfl ?_
        rw [hqd]
        refine sp_one rfl ?_
        refine st_call pl67 rfl rfl rfl (riser_walk (2 ^ j) (by omega) _) ?_
        rintro _ w ⟨rfl, hch⟩
        refine ⟨_, rfl, ?_⟩
        replace hp := hp.call hch
        clear hch
        rw [bit_pow2]
        refine st_nil ?_
        refine sp_next (i := 6) (fun _ => ((hHs _).2 (hp.sub (LSub.cons rfl (LSub.cons rfl (LSub.nil _)))))) ?_
        refine sp_one rfl ?_
        refine st_call pl68 rfl rfl rfl (layerq0_walk (m : Int) W (leavesV (m : Int) W b) _ _ j _ (Rd.own (hp.own 20 _ rfl)) rfl (by omega) (by omega)) ?_
        rintro _ w ⟨g39, rfl, hm39⟩
        refine ⟨_, rfl, ?_⟩
        replace hp := hp.got 39 hm39
        have hc39 := hm39.2
        clear hm39
        refine st_nil ?_
        refine sp_next (i := 7) (fun h => absurd h (by decide)) ?_
        refine sp_take rfl (fun w => ov_assign rfl) rfl ?_
        refine sp_take rfl (fun w => ov_assign rfl) rfl ?_
        refine sp_nil ?_
        refine pn_then ?_
        refine sc_ret ?_
        refine pr_two rfl rfl rfl ?_
        exact ⟨g39, by rw [hE, hV], by rw [hV]; exact hp.gives 39 rfl hc39⟩

end Go.Proofs.YtjdolgfhcjnniaaDoor
