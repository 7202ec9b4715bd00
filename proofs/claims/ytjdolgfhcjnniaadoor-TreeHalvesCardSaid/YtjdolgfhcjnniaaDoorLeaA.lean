/-
  The walks of count, walk, Leaves.
-/
import Derived.Test.YtjdolgfhcjnniaaDoorNodA
namespace Go.Proofs.YtjdolgfhcjnniaaDoor
open Go Go.RowKit

set_option maxRecDepth 100000 in
theorem count_walk (m n : Nat) (W : Int) (hm : 1 ≤ m ∧ m ≤ 1048576) (hn : n ≤ 1152921504606846976) (w0 : World) :
    Calls Tryd.prog 59 #[sca (m : Int) W, .int .i64 (n : Int)] w0 fun e w' => e = .returned (.int .i64 (cntB n m : Nat)) ∧ Chg [] w0 w' := by
  refine calls_in Tryd.func59 Tryd.ntmps59 rfl rfl ?_
  have hp := Hp.start w0
  have hdl : n / m ≤ n := Nat.div_le_self n m
  refine sc_seq ?_
  refine sc_region ?_
  refine st_box 2 hp rfl rfl rfl (fun b2 w hp => ?_)
  refine st_v (ov_assign rfl) rfl ?_
  refine st_nil ?_
  refine pn_then ?_
  refine sc_seq ?_
  refine sc_draws (by kernel_rfl) (by kernel_rfl) ?_
  replace hp := hp.drew
  refine ss_v (ov_move rfl) rfl ?_
  refine ss_v (ov_field (q := 0) rfl Tryd.underlying23 rfl sz3 rfl) rfl ?_
  refine ss_v (ov_load1 rfl Tryd.underlying3 rfl ((hp.cells' (t := 2) rfl).at 0 (by simp) rfl)) rfl ?_
  refine ss_v (ov_quo_n (a := n) (b := m) rfl rfl (by omega)) rfl ?_
  refine ss_v (ov_move rfl) rfl ?_
  refine ss_v (ov_field (q := 0) rfl Tryd.underlying23 rfl sz3 rfl) rfl ?_
  refine ss_v (ov_load1 rfl Tryd.underlying3 rfl ((hp.cells' (t := 2) rfl).at 0 (by simp) rfl)) rfl ?_
  refine ss_v (ov_rem_n (a := n) (b := m) rfl rfl (by omega)) rfl ?_
  refine ss_v (ov_minN (m := min (n % m) 1) rfl rfl (by omega)) rfl ?_
  refine ss_v (ov_add_n (a := n / m) (b := min (n % m) 1) rfl rfl (by omega)) rfl ?_
  rw [cnt_min (by omega)]
  refine ss_v (ov_assign rfl) rfl ?_
  refine ss_end ?_
  refine pn_then ?_
  refine sc_ret ?_
  refine pr_one rfl rfl ?_
  exact ⟨rfl, hp.chg⟩

set_option maxRecDepth 100000 in
theorem blocks_walk (m n : Nat) (W : Int) (hm : 1 ≤ m ∧ m ≤ 1048576) (hn : n ≤ 1152921504606846976) (w0 : World) :
    Calls Tryd.prog 57 #[sca (m : Int) W, .int .i64 (n : Int)] w0 fun e w' => e = .returned (.int .i64 (cntB n m : Nat)) ∧ Chg [] w0 w' := by
  refine calls_in Tryd.func57 Tryd.ntmps57 rfl rfl ?_
  have hp := Hp.start w0
  have hdl : n / m ≤ n := Nat.div_le_self n m
  refine sc_seq ?_
  refine sc_region ?_
  refine st_box 2 hp rfl rfl rfl (fun b2 w hp => ?_)
  refine st_v (ov_assign rfl) rfl ?_
  refine st_nil ?_
  refine pn_then ?_
  refine sc_seq ?_
  refine sc_region ?_
  refine st_v (ov_move rfl) rfl ?_
  refine st_v (ov_field (q := 0) rfl Tryd.underlying23 rfl sz3 rfl) rfl ?_
  refine st_v (ov_load1 rfl Tryd.underlying3 rfl ((hp.cells' (t := 2) rfl).at 0 (by simp) rfl)) rfl ?_
  refine st_v (ov_quo_n (a := n) (b := m) rfl rfl (by omega)) rfl ?_
  refine st_v (ov_assign rfl) rfl ?_
  refine st_nil ?_
  refine pn_then ?_
  refine sc_seq ?_
  refine sc_seq ?_
  refine sc_region ?_
  refine st_v (ov_move rfl) rfl ?_
  refine st_v (ov_field (q := 0) rfl Tryd.underlying23 rfl sz3 rfl) rfl ?_
  refine st_v (ov_load1 rfl Tryd.underlying3 rfl ((hp.cells' (t := 2) rfl).at 0 (by simp) rfl)) rfl ?_
  refine st_v (ov_rem_n (a := n) (b := m) rfl rfl (by omega)) rfl ?_
  refine st_v (ov_gtr rfl rfl) rfl ?_
  refine st_nil ?_
  refine pn_then ?_
  refine sc_cutH1 (α := Nat) (kv := []) (kl := [(2, _)]) (fun k kv => (5, .int .i64 ((k : Nat) : Int)) :: kv) (fun k kl => kl) (fun k => (k = cntB n m)) hp (Sub.nil _) (LSub.cons rfl (LSub.nil _)) ?_ ?_
  ·
    refine sc_cond rfl (fun hc => ?_) (fun hc => ?_)
    ·
      have hc := of_decide_eq_true hc
      refine sc_region ?_
      refine st_v (ov_move rfl) rfl ?_
      refine st_v (ov_add_n (a := n / m) (b := 1) rfl rfl (by omega)) rfl ?_
      refine st_v (ov_assign rfl) rfl ?_
      refine st_nil ?_
      refine pn_cutH1 (n / m + 1) hp (Sub.cons rfl (Sub.nil _)) (LSub.cons rfl (LSub.nil _)) ?_
      exact (by rw [← cnt_eq (by omega), if_pos (by omega)])
    ·
      have hc := of_decide_eq_false hc
      refine sc_skip ?_
      refine pn_cutH1 (n / m) hp (Sub.cons rfl (Sub.nil _)) (LSub.cons rfl (LSub.nil _)) ?_
      exact (by rw [← cnt_eq (by omega), if_neg (by omega)]; rfl)
  ·
    intro k w hp hx
    have hk : k = cntB n m := hx
    refine pn_then ?_
    refine sc_seq ?_
    refine sc_region ?_
    refine st_v (ov_move rfl) rfl ?_
    refine st_v (ov_assign rfl) rfl ?_
    refine st_nil ?_
    refine pn_then ?_
    refine sc_ret ?_
    refine pr_one rfl rfl ?_
    exact ⟨by rw [hk], hp.chg⟩

set_option maxRecDepth 100000 in
theorem leaf_walk (r : Nat) (B W : Int) (row : List Hs) (g : Gs) (b : List UInt8) {nb : Nat} (ao : Option Addr) (ca : Nat) (w0 : World) (hO : Owns w0 (rwk r B W row g)) (hcg : (row.flatMap hcs ++ g.sp).length = g.cap * 32) (h1 : Rd w0 ao (b.map B8)) (hoff : Offs (rwk r B W row g) ao (b.map B8)) (hb : b.length = nb) (hca : b.length ≤ ca) (hz : b.length ≤ 1048576) (hzr : row.length ≤ 1048576) (hk : Cells w0 1 0 (kL.map B32)) (hf : Cells w0 0 0 (fL.map B32)) (hkb : 1 ∉ blks (rwk r B W row g)) (hfb : 0 ∉ blks (rwk r B W row g)) :
    Calls Tryd.prog 61 #[.pointer (some ⟨r, 0, none⟩), .slice ao nb ca] w0 fun e w' => e = .returned (.tuple #[]) ∧ ∃ g' : Gs, Left w0 w' (rwk r B W row g) (rwk r B W (row ++ [hashL B W b]) g') ∧ ((row ++ [hashL B W b]).flatMap hcs ++ g'.sp).length = g'.cap * 32 := by
  refine calls_in Tryd.func61 Tryd.ntmps61 rfl rfl ?_
  have hp : Hp w0 (blks (rwk r B W row g)) [(0, ⟨some r, rws B W (adr g.ob) row.length g.cap, 85⟩), (100, ⟨g.ob, row.flatMap hcs ++ g.sp, 34⟩)] [] w0 := Hp.begin [0, 100] hO
  subst hb
  refine sc_seq ?_
  refine sc_region ?_
  refine st_v (ov_move rfl) rfl ?_
  refine st_v (ov_nilCheck rfl) rfl ?_
  refine st_v (ov_field (q := 0) rfl Tryd.underlying85 rfl sz23 rfl) rfl ?_
  refine st_v (ov_loadN rfl Tryd.underlying23 rfl (sz23.trans rfl) ((hp.cells' (t := 0) rfl)).left) rfl ?_
  refine st_v (ov_move rfl) rfl ?_
  refine st_call pl40 rfl rfl rfl (hash2_walk B W b _ _ _ (h1.chgL hp.chg hoff) rfl hca (by omega) (hp.old hk hkb) (hp.old hf hfb)) ?_
  rintro _ w ⟨rfl, hch⟩
  refine ⟨_, rfl, ?_⟩
  replace hp := hp.call hch
  clear hch
  refine st_v (ov_move rfl) rfl ?_
  refine st_v (ov_extract rfl rfl) rfl ?_
  refine st_v (ov_extract rfl rfl) rfl ?_
  refine st_alloc 4 (hcs hz0) hp rfl zl34 rfl (fun b4 w hp => ?_)
  refine st_storeA 4 hp rfl rfl rfl (by simp [hcs_len]) (sz34.trans (by simp [hcs_len])) (hcs_one _) (fun w hp => ?_)
  refine st_v (ov_assign rfl) rfl ?_
  refine st_nil ?_
  refine pn_then ?_
  obtain ⟨Hs, hHs⟩ := (hp.sub (L' := [(0, _), (4, _)]) (LSub.cons rfl (LSub.cons rfl (LSub.nil _)))).hs
  refine sc_plan Hs [0, 1, 2, 3, 4, 5, 8, 9] [6] (.take 0 (.take 1 (.take 2 (.take 3 (.load 4 (.load 5 (.one 6 (.one 7 (.take 8 (.take 9 (.one 10 .nil))))))))))) (by kernel_rfl) (by kernel_rfl) (by repeat (first | exact calm_body _ _ _ | refine calm_then ?_ | refine calm_block ?_ | refine calm_jump ?_ | refine calm_ng ?_)) ?_
  replace hp := hp.drew
  refine sp_take rfl (fun w => ov_move rfl) rfl ?_
  refine sp_take rfl (fun w => ov_move rfl) rfl ?_
  refine sp_take rfl (fun w => ov_nilCheck rfl) rfl ?_
  refine sp_take rfl (fun w => ov_field (q := 2) rfl Tryd.underlying85 rfl sz26 rfl) rfl ?_
  refine sp_load rfl ((hHs _).2 (hp.sub (LSub.cons rfl (LSub.cons rfl (LSub.nil _))))) (fun w hs => have hp := (hHs w).1 hs; ov_load1 rfl Tryd.underlying26 rfl (rws_row (hp.cells' (t := 0) rfl))) rfl ?_
  refine sp_load rfl ((hHs _).2 (hp.sub (LSub.cons rfl (LSub.cons rfl (LSub.nil _))))) (fun w hs => have hp := (hHs w).1 hs; ov_loadN rfl Tryd.underlying34 rfl (sz34.trans (by simp [hcs_len])) (hp.cells' (t := 4) rfl)) rfl ?_
  refine sp_one rfl ?_
  refine st_build 21 (cells := hcs (hashL B W b)) hp rfl rfl Tryd.underlying26 (in2_of in34) (by decide) (fill1 rfl (hcs_len _)) (fun b21 w hb21 hp => ?_)
  refine st_nil ?_
  refine sp_next (i := 6) (fun _ => ((hHs _).2 (hp.sub (LSub.cons rfl (LSub.cons rfl (LSub.nil _)))))) ?_
  refine sp_one rfl ?_
  refine st_append 100 g (xs := row.flatMap hcs) (news := hcs (hashL B W b)) (m := 1) hp rfl rfl rfl rfl rfl Tryd.underlying26 in34 (by decide) rfl (flat_len hcs_len _) hcg ((Rd.of (hp.cells' (t := 21) rfl))) (by simp [hcs_len]) (hcs_one _) (by omega) (fun g2 w hp hcg2 hf100 => ?_)
  refine st_nil ?_
  refine sp_next (i := 7) (fun h => absurd h (by decide)) ?_
  rw [flat_snoc] at hp hcg2
  refine sp_take rfl (fun w => ov_nilCheck rfl) rfl ?_
  refine sp_take rfl (fun w => ov_field (q := 2) rfl Tryd.underlying85 rfl sz26 rfl) rfl ?_
  refine sp_one rfl ?_
  refine st_store1 0 hp rfl rfl rfl rfl sz26 (by simp) (fun w hp => ?_)
  replace hp := hp.eqc (cs' := rws B W (adr g2.ob) (row ++ [hashL B W b]).length g2.cap) (by rw [List.length_append]; rfl)
  refine st_nil ?_
  refine sp_next (i := 10) (fun h => absurd h (by decide)) ?_
  refine sp_nil ?_
  refine pn_end ?_
  refine pr_none rfl ?_
  exact ⟨rfl, g2, hp.left' (i := rwk r B W row g) [0, 100] (by simp) rfl, hcg2⟩

set_option maxRecDepth 100000 in
theorem walk_walk (r m : Nat) (W : Int) (g : Gs) (b : List UInt8) {nb : Nat} (ao : Option Addr) (ca : Nat) (w0 : World) (hm : 1 ≤ m ∧ m ≤ 1048576) (hO : Owns w0 (rwk r (m : Int) W [] g)) (hcg : (([] : List Hs).flatMap hcs ++ g.sp).length = g.cap * 32) (h1 : Rd w0 ao (b.map B8)) (hoff : Offs (rwk r (m : Int) W [] g) ao (b.map B8)) (hb : b.length = nb) (hca : b.length ≤ ca) (hz : b.length ≤ 140737488351232) (hcn : cntB b.length m ≤ 1048576) (hk : Cells w0 1 0 (kL.map B32)) (hf : Cells w0 0 0 (fL.map B32)) (hkb : 1 ∉ blks (rwk r (m : Int) W [] g)) (hfb : 0 ∉ blks (rwk r (m : Int) W [] g)) :
    Calls Tryd.prog 60 #[sca (m : Int) W, .slice ao nb ca, .func (.func 61) #[.pointer (some ⟨r, 0, none⟩)] #[]] w0 fun e w' => e = .returned (.tuple #[]) ∧ ∃ g' : Gs, Left w0 w' (rwk r (m : Int) W [] g) (rwk r (m : Int) W (leavesL (m : Int) W m b) g') ∧ ((leavesL (m : Int) W m b).flatMap hcs ++ g'.sp).length = g'.cap * 32 := by
  refine calls_in Tryd.func60 Tryd.ntmps60 rfl rfl ?_
  have hp : Hp w0 (blks (rwk r (m : Int) W [] g)) [(0, ⟨some r, rws (m : Int) W (adr g.ob) 0 g.cap, 85⟩), (100, ⟨g.ob, ([] : List Hs).flatMap hcs ++ g.sp, 34⟩)] [] w0 := Hp.begin [0, 100] hO
  subst hb
  refine sc_seq ?_
  refine sc_region ?_
  refine st_box 3 hp rfl rfl rfl (fun b3 w hp => ?_)
  refine st_nil ?_
  refine pn_then ?_
  refine sc_block ?_
  refine sc_loopH5 (α := Nat) (β := Nat) (γ := Option Addr) (δ := Nat) (ε := Gs) (kv := [(2, _), (3, _)]) (kl := [(3, _)]) (fun k q ao' ca' h kv => (1, .slice ao' (b.length - q) ca') :: kv) (fun k q ao' ca' h kl => (0, ⟨some r, rws (m : Int) W (adr h.ob) (leavesK (m : Int) W m b k).length h.cap, 85⟩) :: (100, ⟨h.ob, (leavesK (m : Int) W m b k).flatMap hcs ++ h.sp, 34⟩) :: kl) (fun k q ao' ca' h => (q = k * m) ∧ (k ≤ cntB b.length m) ∧ (Rd w0 ao' ((b.drop q).map B8)) ∧ (Offs (rwk r (m : Int) W [] g) ao' ((b.drop q).map B8)) ∧ (b.length - q ≤ ca') ∧ (((leavesK (m : Int) W m b k).flatMap hcs ++ h.sp).length = h.cap * 32)) (fun k q ao' ca' h => cntB b.length m - k) 0 0 ao ca g hp (Sub.cons rfl (Sub.cons rfl (Sub.cons rfl (Sub.nil _)))) (LSub.cons rfl (LSub.cons rfl (LSub.cons rfl (LSub.nil _)))) ?_ ?_
  · exact ⟨(by simp), (by first | omega | (simp; done) | (simp; omega) | (simp [*]; omega)), (by simpa using h1), (by simpa using hoff), (by first | omega | (simp; done) | (simp; omega) | (simp [*]; omega)), hcg⟩
  intro k q ao' ca' h w hp hx
  obtain ⟨hq, hkc, hR, hOf, hca2, hch⟩ := hx
  refine sc_seq ?_
  refine sc_seq ?_
  refine sc_region ?_
  refine st_v (ov_move rfl) rfl ?_
  refine st_v (ov_len rfl Tryd.underlying24 rfl) rfl ?_
  refine st_v (ov_gtr rfl rfl) rfl ?_
  refine st_nil ?_
  refine pn_then ?_
  refine sc_cond rfl (fun hc => ?_) (fun hc => ?_)
  ·
    have hc := of_decide_eq_true hc
    obtain ⟨n, hn⟩ : ∃ n, n = min m (b.length - q) := ⟨_, rfl⟩
    have hR2 : Rd w0 (sla ao' ca' n 1) ((b.drop (q + m)).map B8) := by
      have h9 := hR.drop (cap := ca') (l := n) (s := 1) (len := b.length - q) (by simp) (by omega)
      rwa [Nat.mul_one, ← List.map_drop, List.drop_drop, drop_more b q n m hn] at h9
    have hO2 : Offs (rwk r (m : Int) W [] g) (sla ao' ca' n 1) ((b.drop (q + m)).map B8) := by
      have h9 := Offs.drop (cap := ca') hOf n
      rwa [List.drop_drop, drop_more b q n m hn] at h9
    have htk : (b.drop q).take n = (b.drop q).take m := by rw [hn, ← List.length_drop, ← List.take_eq_take_min]
    refine sc_skip ?_
    refine pn_then ?_
    refine sc_block ?_
    refine sc_seq ?_
    refine sc_region ?_
    refine st_v (ov_field (q := 0) rfl Tryd.underlying23 rfl sz3 rfl) rfl ?_
    refine st_v (ov_load1 rfl Tryd.underlying3 rfl ((hp.cells' (t := 3) rfl).at 0 (by simp) rfl)) rfl ?_
    refine st_v (ov_move rfl) rfl ?_
    refine st_v (ov_len rfl Tryd.underlying24 rfl) rfl ?_
    refine st_v (ov_minN (m := n) rfl rfl (by omega)) rfl ?_
    refine st_v (ov_assign rfl) rfl ?_
    refine st_nil ?_
    refine pn_then ?_
    refine sc_seq ?_
    refine sc_region ?_
    refine st_v (ov_move rfl) rfl ?_
    refine st_v (ov_move rfl) rfl ?_
    refine st_v (ov_move rfl) rfl ?_
    refine st_v (ov_slice_hi Tryd.underlying24 sz5 rfl rfl (by omega)) rfl ?_
    rw [Int.toNat_natCast]
    refine st_callV pl61 rfl rfl rfl (leaf_walk r (m : Int) W (leavesK (m : Int) W m b k) h ((b.drop q).take n) _ _ _ (hp.owns' (ts := [0, 100]) (by simp) rfl) hch (by rw [List.map_take]; exact (hR.chgL hp.chg hOf).take n) (hp.offs (by rw [List.map_take]; exact hR.take n) (hOf.take n) (ts := [0, 100]) (by simp) rfl) (by simp; omega) (by simp; omega) (by simp; omega) (by rw [leavesK_len]; omega) (hp.old hk hkb) (hp.old hf hfb) (hp.nots hk kL_ne hkb (ts := [0, 100]) (by simp) rfl) (hp.nots hf fL_ne hfb (ts := [0, 100]) (by simp) rfl)) ?_
    rintro _ w ⟨rfl, h2, hL, hch2⟩
    refine ⟨_, rfl, ?_⟩
    replace hp := hp.back [0, 100] [0, 100] (by simp) rfl hL (by simp) rfl (by simp)
    clear hL
    have hlf : hashL (m : Int) W ((b.drop q).take n) = leafL (m : Int) W m b k := by unfold leafL; rw [htk, hq]
    rw [hlf, ← leavesK_succ] at hp hch2
    simp only [tg, rwk, List.cons_append, List.nil_append] at hp
    refine st_nil ?_
    refine pn_then ?_
    refine sc_region ?_
    refine st_v (ov_move rfl) rfl ?_
    refine st_v (ov_move rfl) rfl ?_
    refine st_v (ov_slice_lo Tryd.underlying24 sz5 rfl rfl (by omega)) rfl ?_
    rw [Int.toNat_natCast]
    rw [show b.length - q - n = b.length - (q + m) by omega]
    refine st_v (ov_assign rfl) rfl ?_
    refine st_nil ?_
    refine pn_block ?_
    refine pn_roundH5 (k + 1) (q + m) (sla ao' ca' n 1) (ca' - n) h2 hp (Sub.cons rfl (Sub.cons rfl (Sub.cons rfl (Sub.nil _)))) ?_ (LSub.cons rfl (LSub.cons rfl (LSub.cons rfl (LSub.nil _)))) ?_
    · have h9 := (cnt_lt (n := b.length) (k := k) (by omega : 0 < m)).2 (by omega); omega
    exact ⟨(by rw [Nat.succ_mul]; omega), ((cnt_lt (by omega)).2 (by omega)), hR2, hO2, (by omega), hch2⟩
  ·
    have hc := of_decide_eq_false hc
    have hke : k = cntB b.length m := by have h9 := (cnt_le (n := b.length) (k := k) (by omega : 0 < m)).2 (by omega); omega
    subst hke
    refine sc_exit ?_
    refine pe_then ?_
    refine pe_then ?_
    refine pe_hit ?_
    refine pn_end ?_
    refine pr_none rfl ?_
    exact ⟨rfl, h, hp.left' (i := rwk r (m : Int) W [] g) [0, 100] (by simp) rfl, hch⟩

set_option maxRecDepth 100000 in
theorem Leaves_walk (B W : Int) (b : List UInt8) {nb : Nat} (ao : Option Addr) (ca : Nat) (w0 : World) (h1 : Rd w0 ao (b.map B8)) (hb : b.length = nb) (hca : b.length ≤ ca) (hz : b.length ≤ 140737488351232) (hk : Cells w0 1 0 (kL.map B32)) (hf : Cells w0 0 0 (fL.map B32)) :
    Calls Tryd.prog 18 #[sca B W, .slice ao nb ca] w0 fun e w' => ∃ g : Gs, e = .returned (.tuple #[.slice (adr g.ob) (leavesV B W b).length g.cap, .int .i64 (leavesE B W b.length)]) ∧ Mk w0 w' 34 32 ((leavesV B W b).flatMap hcs) g := by
  refine calls_in Tryd.func18 Tryd.ntmps18 rfl rfl ?_
  have hp := Hp.start w0
  subst hb
  refine sc_seq ?_
  refine sc_region ?_
  refine st_box 2 hp rfl rfl rfl (fun b2 w hp => ?_)
  refine st_v (ov_assign rfl) rfl ?_
  refine st_v (ov_assign rfl) rfl ?_
  refine st_nil ?_
  refine pn_then ?_
  refine sc_seq ?_
  refine sc_seq ?_
  refine sc_region ?_
  refine st_v (ov_loadN rfl Tryd.underlying23 rfl (sz23.trans rfl) (hp.cells' (t := 2) rfl)) rfl ?_
  refine st_call pl39 rfl rfl rfl (good_walk B W _) ?_
  rintro _ w ⟨rfl, hch⟩
  refine ⟨_, rfl, ?_⟩
  replace hp := hp.call hch
  clear hch
  refine st_v (ov_assign rfl) rfl ?_
  refine st_nil ?_
  refine pn_then ?_
  refine sc_seq ?_
  refine sc_region ?_
  refine st_v (ov_move rfl) rfl ?_
  refine st_v (ov_neq rfl rfl) rfl ?_
  refine st_nil ?_
  refine pn_then ?_
  refine sc_cond rfl (fun hc => ?_) (fun hc => ?_)
  ·
    have hc := of_decide_eq_true hc
    refine sc_seq ?_
    refine sc_region ?_
    refine st_v (ov_move rfl) rfl ?_
    refine st_v (ov_assign rfl) rfl ?_
    refine st_v (ov_assign rfl) rfl ?_
    refine st_nil ?_
    refine pn_then ?_
    refine sc_ret ?_
    refine pr_then ?_
    refine pr_two rfl rfl rfl ?_
    obtain ⟨e1, e2⟩ := leaves_bad (data := b) hc
    exact ⟨gnil, by rw [e1, e2]; rfl, by rw [e2]; exact hp.gives0 _ _⟩
  ·
    have hc := of_decide_eq_false hc
    have hg0 : goodNo B W = 0 := by omega
    obtain ⟨m, rfl, hm1, hm2⟩ := good_block hg0
    refine sc_skip ?_
    refine pn_then ?_
    refine sc_seq ?_
    refine sc_seq ?_
    refine sc_region ?_
    refine st_v (ov_loadN rfl Tryd.underlying23 rfl (sz23.trans rfl) (hp.cells' (t := 2) rfl)) rfl ?_
    refine st_v (ov_move rfl) rfl ?_
    refine st_v (ov_len rfl Tryd.underlying24 rfl) rfl ?_
    refine st_call pl59 rfl rfl rfl (count_walk m b.length W (by omega) (by omega) _) ?_
    rintro _ w ⟨rfl, hch⟩
    refine ⟨_, rfl, ?_⟩
    replace hp := hp.call hch
    clear hch
    refine st_v (ov_gtr rfl rfl) rfl ?_
    refine st_nil ?_
    refine pn_then ?_
    refine sc_cond rfl (fun hc => ?_) (fun hc => ?_)
    ·
      have hc := of_decide_eq_true hc
      refine sc_seq ?_
      refine sc_region ?_
      refine st_v (ov_assign rfl) rfl ?_
      refine st_v (ov_assign rfl) rfl ?_
      refine st_nil ?_
      refine pn_then ?_
      refine sc_ret ?_
      refine pr_then ?_
      refine pr_two rfl rfl rfl ?_
      obtain ⟨e1, e2⟩ := leaves_many (data := b) hg0 (by omega)
      exact ⟨gnil, by rw [e1, e2]; rfl, by rw [e2]; exact hp.gives0 _ _⟩
    ·
      have hc := of_decide_eq_false hc
      refine sc_skip ?_
      refine pn_then ?_
      refine sc_seq ?_
      refine sc_region ?_
      refine st_v (ov_loadN rfl Tryd.underlying23 rfl (sz23.trans rfl) (hp.cells' (t := 2) rfl)) rfl ?_
      refine st_v (ov_buildS (pl := #[(0, 2), (2, 1)]) (cells := rws (m : Int) W none 0 0) rfl Tryd.underlying85 zl85 (by intro w; kernel_rfl) (by kernel_rfl)) rfl ?_
      refine st_box 20 hp rfl rfl rfl (fun b20 w hp => ?_)
      replace hp := hp.nil 100 34
      refine st_v (ov_assign rfl) rfl ?_
      refine st_nil ?_
      refine pn_then ?_
      refine sc_seq ?_
      refine sc_region ?_
      refine st_v (ov_loadN rfl Tryd.underlying23 rfl (sz23.trans rfl) (hp.cells' (t := 2) rfl)) rfl ?_
      refine st_v (ov_move rfl) rfl ?_
      refine st_v (ov_move rfl) rfl ?_
      refine st_v (ov_makeFunc rfl rfl) rfl ?_
      refine st_call pl60 rfl rfl rfl (walk_walk b20 m W gnil b _ _ _ (by omega) (hp.owns' (ts := [20, 100]) (by simp) rfl) rfl (h1.chg hp.chg) (hp.offs0 h1 (ts := [20, 100]) (by simp) rfl) rfl hca hz (by omega) (hp.old hk (by simp)) (hp.old hf (by simp)) (hp.notin hk kL_ne (ts := [20, 100]) (by simp) rfl) (hp.notin hf fL_ne (ts := [20, 100]) (by simp) rfl)) ?_
      rintro _ w ⟨rfl, g2, hL, hcg2⟩
      refine ⟨_, rfl, ?_⟩
      replace hp := hp.back [20, 100] [20, 100] (by simp) rfl hL (by simp) rfl (by simp)
      clear hL
      simp only [tg, rwk, List.cons_append, List.nil_append] at hp
      refine st_nil ?_
      refine pn_then ?_
      refine sc_seq ?_
      refine sc_region ?_
      refine st_v (ov_move rfl) rfl ?_
      refine st_v (ov_nilCheck rfl) rfl ?_
      refine st_v (ov_field (q := 2) rfl Tryd.underlying85 rfl sz26 rfl) rfl ?_
      refine st_v (ov_load1 rfl Tryd.underlying26 rfl (rws_row (hp.cells' (t := 20) rfl))) rfl ?_
      refine st_v (ov_assign rfl) rfl ?_
      refine st_v (ov_assign rfl) rfl ?_
      refine st_nil ?_
      refine pn_then ?_
      refine sc_ret ?_
      refine pr_two rfl rfl rfl ?_
      obtain ⟨e1, e2⟩ := leaves_ok (data := b) hg0 (by omega)
      exact ⟨g2, by rw [e1, e2], by rw [e2]; exact hp.gives 100 rfl hcg2⟩

set_option maxRecDepth 100000 in
theorem leavesr_walk (m : Nat) (W : Int) (b : List UInt8) {nb : Nat} (ao : Option Addr) (ca : Nat) (w0 : World) (hm : 1 ≤ m ∧ m ≤ 1048576) (h1 : Rd w0 ao (b.map B8)) (hb : b.length = nb) (hca : b.length ≤ ca) (hz : b.length ≤ 140737488351232) (hcn : cntB b.length m ≤ 1048576) :
    Calls Tryd.prog 58 #[sca (m : Int) W, .slice ao nb ca] w0 fun e w' => ∃ g : Gs, e = .returned (.slice (adr g.ob) (leavesL (m : Int) W m b).length g.cap) ∧ Mk w0 w' 34 32 ((leavesL (m : Int) W m b).flatMap hcs) g := by
  refine calls_in Tryd.func58 Tryd.ntmps58 rfl rfl ?_
  have hp := Hp.start w0
  subst hb
  refine sc_seq ?_
  refine sc_region ?_
  refine st_box 2 hp rfl rfl rfl (fun b2 w hp => ?_)
  refine st_v (ov_assign rfl) rfl ?_
  refine st_nil ?_
  refine pn_then ?_
  refine sc_seq ?_
  refine sc_region ?_
  refine st_v (ov_assign rfl) rfl ?_
  replace hp := hp.nil 5 34
  refine st_nil ?_
  refine pn_then ?_
  refine sc_seq ?_
  refine sc_seq ?_
  refine sc_region ?_
  refine st_v (ov_assign rfl) rfl ?_
  refine st_nil ?_
  refine pn_then ?_
  refine sc_block ?_
  refine sc_loopH3 (α := Nat) (β := Nat) (γ := Gs) (kv := [(1, _), (2, _)]) (kl := [(2, _)]) (fun k q h kv => (6, .int .i64 ((q : Nat) : Int)) :: (5, .slice (adr h.ob) (k) h.cap) :: kv) (fun k q h kl => (5, ⟨h.ob, (leavesK (m : Int) W m b k).flatMap hcs ++ h.sp, 34⟩) :: kl) (fun k q h => (q = k * m) ∧ (k ≤ cntB b.length m) ∧ (((leavesK (m : Int) W m b k).flatMap hcs ++ h.sp).length = h.cap * 32)) (fun k q h => cntB b.length m - k) 0 0 gnil hp (Sub.cons rfl (Sub.cons rfl (Sub.cons rfl (Sub.cons rfl (Sub.nil _))))) (LSub.cons rfl (LSub.cons rfl (LSub.nil _))) ?_ ?_
  · exact ⟨(by simp), (by first | omega | (simp; done) | (simp; omega) | (simp [*]; omega)), rfl⟩
  intro k q h w hp hx
  obtain ⟨hq, hk, hch⟩ := hx
  refine sc_seq ?_
  refine sc_seq ?_
  refine sc_region ?_
  refine st_v (ov_move rfl) rfl ?_
  refine st_v (ov_move rfl) rfl ?_
  refine st_v (ov_len rfl Tryd.underlying24 rfl) rfl ?_
  refine st_v (ov_lss rfl rfl) rfl ?_
  refine st_nil ?_
  refine pn_then ?_
  refine sc_cond rfl (fun hc => ?_) (fun hc => ?_)
  ·
    have hc := of_decide_eq_true hc
    refine sc_skip ?_
    refine pn_then ?_
    refine sc_seq ?_
    refine sc_block ?_
    refine sc_seq ?_
    refine sc_region ?_
    refine st_v (ov_move rfl) rfl ?_
    refine st_v (ov_field (q := 0) rfl Tryd.underlying23 rfl sz3 rfl) rfl ?_
    refine st_v (ov_load1 rfl Tryd.underlying3 rfl ((hp.cells' (t := 2) rfl).at 0 (by simp) rfl)) rfl ?_
    refine st_v (ov_add_n (a := q) (b := m) rfl rfl (by omega)) rfl ?_
    refine st_v (ov_assign rfl) rfl ?_
    refine st_nil ?_
    refine pn_then ?_
    refine sc_seq ?_
    refine sc_seq ?_
    refine sc_region ?_
    refine st_v (ov_move rfl) rfl ?_
    refine st_v (ov_move rfl) rfl ?_
    refine st_v (ov_len rfl Tryd.underlying24 rfl) rfl ?_
    refine st_v (ov_gtr rfl rfl) rfl ?_
    refine st_nil ?_
    refine pn_then ?_
    refine sc_cutH1 (α := Nat) (kv := [(1, _), (2, _), (5, _), (6, _)]) (kl := [(5, _), (2, _)]) (fun t kv => (7, .int .i64 ((t : Nat) : Int)) :: kv) (fun t kl => kl) (fun t => (t = min (q + m) b.length)) hp (Sub.cons rfl (Sub.cons rfl (Sub.cons rfl (Sub.cons rfl (Sub.nil _))))) (LSub.cons rfl (LSub.cons rfl (LSub.nil _))) ?_ ?_
    ·
      refine sc_cond rfl (fun hc => ?_) (fun hc => ?_)
      ·
        have hc := of_decide_eq_true hc
        refine sc_region ?_
        refine st_v (ov_move rfl) rfl ?_
        refine st_v (ov_len rfl Tryd.underlying24 rfl) rfl ?_
        refine st_v (ov_assign rfl) rfl ?_
        refine st_nil ?_
        refine pn_cutH1 b.length hp (Sub.cons rfl (Sub.cons rfl (Sub.cons rfl (Sub.cons rfl (Sub.cons rfl (Sub.nil _)))))) (LSub.cons rfl (LSub.cons rfl (LSub.nil _))) ?_
        exact (by first | omega | (simp; done) | (simp; omega) | (simp [*]; omega))
      ·
        have hc := of_decide_eq_false hc
        refine sc_skip ?_
        refine pn_cutH1 (q + m) hp (Sub.cons rfl (Sub.cons rfl (Sub.cons rfl (Sub.cons rfl (Sub.cons rfl (Sub.nil _)))))) (LSub.cons rfl (LSub.cons rfl (LSub.nil _))) ?_
        exact (by first | omega | (simp; done) | (simp; omega) | (simp [*]; omega))
    ·
      intro t w hp hx
      have ht : t = min (q + m) b.length := hx
      refine pn_then ?_
      refine sc_seq ?_
      have hlf : hashL (m : Int) W ((b.drop q).take (t - q)) = leafL (m : Int) W m b k := by
        unfold leafL; rw [← hq, ht, show min (q + m) b.length - q = min m (b.drop q).length by rw [List.length_drop]; omega, ← List.take_eq_take_min]
      obtain ⟨Hs, hHs⟩ := (hp.sub (L' := [(5, _), (2, _)]) (LSub.cons rfl (LSub.cons rfl (LSub.nil _)))).hs
      refine sc_plan Hs [0, 1, 2, 3, 4, 6, 7, 8, 11] [9] (.load 0 (.take 1 (.take 2 (.take 3 (.take 4 (.two 5 (.take 6 (.take 7 (.take 8 (.one 9 (.one 10 (.take 11 .nil)))))) 9 (.one 5 (.take 6 (.take 7 (.take 8 (.one 10 (.take 11 .nil)))))))))))) (by kernel_rfl) (by kernel_rfl) (by repeat (first | exact calm_body _ _ _ | refine calm_then ?_ | refine calm_block ?_ | refine calm_jump ?_ | refine calm_ng ?_)) ?_
      replace hp := hp.drew
      refine sp_load rfl ((hHs _).2 (hp.sub (LSub.cons rfl (LSub.cons rfl (LSub.nil _))))) (fun w hs => have hp := (hHs w).1 hs; ov_loadN rfl Tryd.underlying23 rfl (sz23.trans rfl) (hp.cells' (t := 2) rfl)) rfl ?_
      refine sp_take rfl (fun w => ov_move rfl) rfl ?_
      refine sp_take rfl (fun w => ov_move rfl) rfl ?_
      refine sp_take rfl (fun w => ov_move rfl) rfl ?_
      refine sp_take rfl (fun w => ov_slice_lh Tryd.underlying24 sz5 rfl rfl rfl (by omega)) rfl ?_
      simp only [Int.toNat_natCast]
      refine sp_two ?_ ?_
      ·
        refine sp_one rfl ?_
        refine st_call pl89 rfl rfl rfl (hashr2_walk (m : Int) W ((b.drop q).take (t - q)) _ _ _ (Rd.takeM (Rd.dropM (l := q) (h1.chg hp.chg) (by omega)) (t - q)) (by simp; omega) (by simp; omega) (by simp; omega)) ?_
        rintro _ w ⟨rfl, hch⟩
        refine ⟨_, rfl, ?_⟩
        replace hp := hp.call hch
        clear hch
        rw [hlf]
        refine st_nil ?_
        refine sp_next (i := 5) (fun h => absurd h (by decide)) ?_
        refine sp_take rfl (fun w => ov_move rfl) rfl ?_
        refine sp_take rfl (fun w => ov_extract rfl rfl) rfl ?_
        refine sp_take rfl (fun w => ov_extract rfl rfl) rfl ?_
        refine sp_one rfl ?_
        refine st_alloc 8 (hcs hz0) hp rfl zl34 rfl (fun b8 w hp => ?_)
        refine st_nil ?_
        refine sp_next (i := 9) (fun _ => ((hHs _).2 (hp.sub (LSub.cons rfl (LSub.cons rfl (LSub.nil _)))))) ?_
        refine sp_one rfl ?_
        refine st_storeA 8 hp rfl rfl rfl (by simp [hcs_len]) (sz34.trans (by simp [hcs_len])) (hcs_one _) (fun w hp => ?_)
        refine st_nil ?_
        refine sp_next (i := 10) (fun h => absurd h (by decide)) ?_
        refine sp_take rfl (fun w => ov_assign rfl) rfl ?_
        refine sp_nil ?_
        refine pn_then ?_
        refine sc_region ?_
        refine st_v (ov_move rfl) rfl ?_
        refine st_v (ov_loadN rfl Tryd.underlying34 rfl (sz34.trans (by simp [hcs_len])) (hp.cells' (t := 8) rfl)) rfl ?_
        refine st_app1 5 39 h (xs := (leavesK (m : Int) W m b k).flatMap hcs) (new := hcs (leafL (m : Int) W m b k)) hp rfl rfl rfl rfl rfl (by simp) rfl rfl Tryd.underlying26 in34 (by decide) rfl ((flat_len hcs_len _).trans (by rw [leavesK_len])) hch rfl (hcs_len _) (hcs_one _) (by have h9 := (cnt_lt (n := b.length) (k := k) (by omega : 0 < m)).2 (by omega); omega) (fun h2 b39 w hp hch2 hf5 => ?_)
        rw [flat_snoc, ← leavesK_succ] at hp hch2
        refine st_v (ov_assign rfl) rfl ?_
        refine st_nil ?_
        refine pn_block ?_
        refine pn_then ?_
        refine sc_region ?_
        refine st_v (ov_move rfl) rfl ?_
        refine st_v (ov_field (q := 0) rfl Tryd.underlying23 rfl sz3 rfl) rfl ?_
        refine st_v (ov_load1 rfl Tryd.underlying3 rfl ((hp.cells' (t := 2) rfl).at 0 (by simp) rfl)) rfl ?_
        refine st_v (ov_add_n (a := q) (b := m) rfl rfl (by omega)) rfl ?_
        refine st_v (ov_assign rfl) rfl ?_
        refine st_nil ?_
        refine pn_roundH3 (k + 1) (q + m) h2 hp (Sub.cons rfl (Sub.cons rfl (Sub.cons rfl (Sub.cons rfl (Sub.nil _))))) ?_ (LSub.cons rfl (LSub.cons rfl (LSub.nil _))) ?_
        · have h9 := (cnt_lt (n := b.length) (k := k) (by omega : 0 < m)).2 (by omega); omega
        exact ⟨(by rw [Nat.succ_mul]; omega), ((cnt_lt (by omega)).2 (by omega)), hch2⟩
      ·
        refine sp_one rfl ?_
        refine st_alloc 8 (hcs hz0) hp rfl zl34 rfl (fun b8 w hp => ?_)
        refine st_nil ?_
        refine sp_next (i := 9) (fun _ => ((hHs _).2 (hp.sub (LSub.cons rfl (LSub.cons rfl (LSub.nil _)))))) ?_
        refine sp_one rfl ?_
        refine st_call pl89 rfl rfl rfl (hashr2_walk (m : Int) W ((b.drop q).take (t - q)) _ _ _ (Rd.takeM (Rd.dropM (l := q) (h1.chg hp.chg) (by omega)) (t - q)) (by simp; omega) (by simp; omega) (by simp; omega)) ?_
        rintro _ w ⟨rfl, hch⟩
        refine ⟨_, rfl, ?_⟩
        replace hp := hp.call hch
        clear hch
        rw [hlf]
        refine st_nil ?_
        refine sp_next (i := 5) (fun h => absurd h (by decide)) ?_
        refine sp_take rfl (fun w => ov_move rfl) rfl ?_
        refine sp_take rfl (fun w => ov_extract rfl rfl) rfl ?_
        refine sp_take rfl (fun w => ov_extract rfl rfl) rfl ?_
        refine sp_one rfl ?_
        refine st_storeA 8 hp rfl rfl rfl (by simp [hcs_len]) (sz34.trans (by simp [hcs_len])) (hcs_one _) (fun w hp => ?_)
        refine st_nil ?_
        refine sp_next (i := 10) (fun h => absurd h (by decide)) ?_
        refine sp_take rfl (fun w => ov_assign rfl) rfl ?_
        refine sp_nil ?_
        refine pn_then ?_
        refine sc_region ?_
        refine st_v (ov_move rfl) rfl ?_
        refine st_v (ov_loadN rfl Tryd.underlying34 rfl (sz34.trans (by simp [hcs_len])) (hp.cells' (t := 8) rfl)) rfl ?_
        refine st_app1 5 39 h (xs := (leavesK (m : Int) W m b k).flatMap hcs) (new := hcs (leafL (m : Int) W m b k)) hp rfl rfl rfl rfl rfl (by simp) rfl rfl Tryd.underlying26 in34 (by decide) rfl ((flat_len hcs_len _).trans (by rw [leavesK_len])) hch rfl (hcs_len _) (hcs_one _) (by have h9 := (cnt_lt (n := b.length) (k := k) (by omega : 0 < m)).2 (by omega); omega) (fun h2 b39 w hp hch2 hf5 => ?_)
        rw [flat_snoc, ← leavesK_succ] at hp hch2
        refine st_v (ov_assign rfl) rfl ?_
        refine st_nil ?_
        refine pn_block ?_
        refine pn_then ?_
        refine sc_region ?_
        refine st_v (ov_move rfl) rfl ?_
        refine st_v (ov_field (q := 0) rfl Tryd.underlying23 rfl sz3 rfl) rfl ?_
        refine st_v (ov_load1 rfl Tryd.underlying3 rfl ((hp.cells' (t := 2) rfl).at 0 (by simp) rfl)) rfl ?_
        refine st_v (ov_add_n (a := q) (b := m) rfl rfl (by omega)) rfl ?_
        refine st_v (ov_assign rfl) rfl ?_
        refine st_nil ?_
        refine pn_roundH3 (k + 1) (q + m) h2 hp (Sub.cons rfl (Sub.cons rfl (Sub.cons rfl (Sub.cons rfl (Sub.nil _))))) ?_ (LSub.cons rfl (LSub.cons rfl (LSub.nil _))) ?_
        · have h9 := (cnt_lt (n := b.length) (k := k) (by omega : 0 < m)).2 (by omega); omega
        exact ⟨(by rw [Nat.succ_mul]; omega), ((cnt_lt (by omega)).2 (by omega)), hch2⟩
  ·
    have hc := of_decide_eq_false hc
    have hke : k = cntB b.length m := by have h9 := (cnt_le (n := b.length) (k := k) (by omega : 0 < m)).2 (by omega); omega
    subst hke
    refine sc_exit ?_
    refine pe_then ?_
    refine pe_then ?_
    refine pe_hit ?_
    refine pn_then ?_
    refine sc_seq ?_
    refine sc_region ?_
    refine st_v (ov_move rfl) rfl ?_
    refine st_v (ov_assign rfl) rfl ?_
    refine st_nil ?_
    refine pn_then ?_
    refine sc_ret ?_
    refine pr_one rfl rfl ?_
    exact ⟨h, by unfold leavesL; rw [leavesK_len], hp.gives 5 rfl hch⟩

set_option maxRecDepth 100000 in
theorem Leavesr_walk (B W : Int) (b : List UInt8) {nb : Nat} (ao : Option Addr) (ca : Nat) (w0 : World) (h1 : Rd w0 ao (b.map B8)) (hb : b.length = nb) (hca : b.length ≤ ca) (hz : b.length ≤ 140737488351232) :
    Calls Tryd.prog 17 #[sca B W, .slice ao nb ca] w0 fun e w' => ∃ g : Gs, e = .returned (.tuple #[.slice (adr g.ob) (leavesV B W b).length g.cap, .int .i64 (leavesE B W b.length)]) ∧ Mk w0 w' 34 32 ((leavesV B W b).flatMap hcs) g := by
  refine calls_in Tryd.func17 Tryd.ntmps17 rfl rfl ?_
  have hp := Hp.start w0
  subst hb
  refine sc_seq ?_
  refine sc_region ?_
  refine st_box 2 hp rfl rfl rfl (fun b2 w hp => ?_)
  refine st_v (ov_assign rfl) rfl ?_
  refine st_v (ov_assign rfl) rfl ?_
  refine st_nil ?_
  refine pn_then ?_
  refine sc_seq ?_
  refine sc_region ?_
  refine st_v (ov_loadN rfl Tryd.underlying23 rfl (sz23.trans rfl) (hp.cells' (t := 2) rfl)) rfl ?_
  refine st_call pl56 rfl rfl rfl (goodr_walk B W _) ?_
  rintro _ w ⟨rfl, hch⟩
  refine ⟨_, rfl, ?_⟩
  replace hp := hp.call hch
  clear hch
  refine st_v (ov_assign rfl) rfl ?_
  refine st_nil ?_
  refine pn_then ?_
  refine sc_seq ?_
  refine sc_seq ?_
  refine sc_region ?_
  refine st_v (ov_move rfl) rfl ?_
  refine st_v (ov_neq rfl rfl) rfl ?_
  refine st_nil ?_
  refine pn_then ?_
  refine sc_cond rfl (fun hc => ?_) (fun hc => ?_)
  ·
    have hc := of_decide_eq_true hc
    refine sc_seq ?_
    refine sc_region ?_
    refine st_v (ov_move rfl) rfl ?_
    refine st_v (ov_assign rfl) rfl ?_
    refine st_v (ov_assign rfl) rfl ?_
    refine st_nil ?_
    refine pn_then ?_
    refine sc_ret ?_
    refine pr_then ?_
    refine pr_two rfl rfl rfl ?_
    obtain ⟨e1, e2⟩ := leaves_bad (data := b) hc
    exact ⟨gnil, by rw [e1, e2]; rfl, by rw [e2]; exact hp.gives0 _ _⟩
  ·
    have hc := of_decide_eq_false hc
    have hg0 : goodNo B W = 0 := by omega
    obtain ⟨m, rfl, hm1, hm2⟩ := good_block hg0
    refine sc_skip ?_
    refine pn_then ?_
    refine sc_seq ?_
    refine sc_seq ?_
    refine sc_region ?_
    refine st_v (ov_loadN rfl Tryd.underlying23 rfl (sz23.trans rfl) (hp.cells' (t := 2) rfl)) rfl ?_
    refine st_v (ov_move rfl) rfl ?_
    refine st_v (ov_len rfl Tryd.underlying24 rfl) rfl ?_
    refine st_call pl57 rfl rfl rfl (blocks_walk m b.length W (by omega) (by omega) _) ?_
    rintro _ w ⟨rfl, hch⟩
    refine ⟨_, rfl, ?_⟩
    replace hp := hp.call hch
    clear hch
    refine st_v (ov_gtr rfl rfl) rfl ?_
    refine st_nil ?_
    refine pn_then ?_
    refine sc_cond rfl (fun hc => ?_) (fun hc => ?_)
    ·
      have hc := of_decide_eq_true hc
      refine sc_seq ?_
      refine sc_region ?_
      refine st_v (ov_assign rfl) rfl ?_
      refine st_v (ov_assign rfl) rfl ?_
      refine st_nil ?_
      refine pn_then ?_
      refine sc_ret ?_
      refine pr_then ?_
      refine pr_two rfl rfl rfl ?_
      obtain ⟨e1, e2⟩ := leaves_many (data := b) hg0 (by omega)
      exact ⟨gnil, by rw [e1, e2]; rfl, by rw [e2]; exact hp.gives0 _ _⟩
    ·
      have hc := of_decide_eq_false hc
      refine sc_skip ?_
      refine pn_then ?_
      refine sc_seq ?_
      refine sc_region ?_
      refine st_v (ov_loadN rfl Tryd.underlying23 rfl (sz23.trans rfl) (hp.cells' (t := 2) rfl)) rfl ?_
      refine st_v (ov_move rfl) rfl ?_
      refine st_call pl58 rfl rfl rfl (leavesr_walk m W b _ _ _ (by omega) (h1.chg hp.chg) rfl hca hz (by omega)) ?_
      rintro _ w ⟨g19, rfl, hm19⟩
      refine ⟨_, rfl, ?_⟩
      replace hp := hp.got 19 hm19
      have hc19 := hm19.2
      clear hm19
      refine st_v (ov_assign rfl) rfl ?_
      refine st_v (ov_assign rfl) rfl ?_
      refine st_nil ?_
      refine pn_then ?_
      refine sc_ret ?_
      refine pr_two rfl rfl rfl ?_
      obtain ⟨e1, e2⟩ := leaves_ok (data := b) hg0 (by omega)
      exact ⟨g19, by rw [e1, e2], by rw [e2]; exact hp.gives 19 rfl hc19⟩

end Go.Proofs.YtjdolgfhcjnniaaDoor
