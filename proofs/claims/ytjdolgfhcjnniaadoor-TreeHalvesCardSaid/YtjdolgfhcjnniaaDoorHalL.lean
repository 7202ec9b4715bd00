/-
  The walk of the law TreeHalves.
-/
import Derived.Test.YtjdolgfhcjnniaaDoorAwkA
import Derived.Test.YtjdolgfhcjnniaaDoorOutP
namespace Go.Proofs.YtjdolgfhcjnniaaDoor
open Go Go.RowKit

set_option maxRecDepth 100000 in
theorem law_halves (B W : Int) (row : List Hs) (ao : Option Addr) (ca : Nat) (from_ : Int) (w0 : World) (h1 : Rd w0 ao (row.flatMap hcs)) (hca : row.length ≤ ca) (hz : row.length ≤ 4398046511104) (hfr : -9223372036854775808 ≤ from_ ∧ from_ ≤ 9223372036854775807) (hk : Cells w0 1 0 (kL.map B32)) (hf : Cells w0 0 0 (fL.map B32)) :
    Calls Tryd.prog 10 #[sca B W, .slice ao row.length ca, .int .i64 from_] w0 fun e w' => e = .returned (.bool true) ∧ Chg [] w0 w' := by
  refine calls_in Tryd.func10 Tryd.ntmps10 rfl rfl ?_
  have hp := Hp.start w0
  refine sc_seq ?_
  refine sc_region ?_
  refine st_box 3 hp rfl rfl rfl (fun b3 w hp => ?_)
  refine st_v (ov_assign rfl) rfl ?_
  refine st_nil ?_
  refine pn_then ?_
  refine sc_seq ?_
  refine sc_region ?_
  refine st_call pl38 rfl rfl rfl (awake_walk _ (hp.old hk (by simp)) (hp.old hf (by simp))) ?_
  rintro _ w ⟨rfl, hch⟩
  refine ⟨_, rfl, ?_⟩
  replace hp := hp.call hch
  clear hch
  refine st_v (ov_assign rfl) rfl ?_
  refine st_nil ?_
  refine pn_then ?_
  refine sc_seq ?_
  refine sc_seq ?_
  refine sc_region ?_
  refine st_v (ov_move rfl) rfl ?_
  refine st_v (ov_not rfl) rfl ?_
  refine st_nil ?_
  refine pn_then ?_
  refine sc_false rfl ?_
  refine sc_skip ?_
  refine pn_then ?_
  refine sc_seq ?_
  refine sc_region ?_
  refine st_v (ov_loadN rfl Tryd.underlying23 rfl (sz23.trans rfl) (hp.cells' (t := 3) rfl)) rfl ?_
  refine st_v (ov_move rfl) rfl ?_
  refine st_v (ov_move rfl) rfl ?_
  refine st_call pl28 rfl rfl rfl (Root_walk B W row _ _ from_ _ (h1.chg hp.chg) rfl (by omega) hfr (hp.old hk (by simp)) (hp.old hf (by simp))) ?_
  rintro _ w ⟨rfl, hch⟩
  refine ⟨_, rfl, ?_⟩
  replace hp := hp.call hch
  clear hch
  refine st_v (ov_move rfl) rfl ?_
  refine st_v (ov_extract rfl rfl) rfl ?_
  refine st_v (ov_extract rfl rfl) rfl ?_
  refine st_alloc 8 (hcs hz0) hp rfl zl34 rfl (fun b8 w hp => ?_)
  refine st_storeA 8 hp rfl rfl rfl (by simp [hcs_len]) (sz34.trans (by simp [hcs_len])) (hcs_one _) (fun w hp => ?_)
  refine st_v (ov_assign rfl) rfl ?_
  refine st_nil ?_
  refine pn_then ?_
  refine sc_seq ?_
  refine sc_seq ?_
  refine sc_region ?_
  refine st_v (ov_move rfl) rfl ?_
  refine st_v (ov_neq rfl rfl) rfl ?_
  refine st_nil ?_
  refine pn_then ?_
  refine sc_cond rfl (fun hc => ?_) (fun hc => ?_)
  ·
    have hc := of_decide_eq_true hc
    have hV := rootV_bad (row := row) (f := from_) (B := B) (W := W) hc
    rw [hV] at hp
    refine sc_seq ?_
    refine sc_region ?_
    refine st_v (ov_loadN rfl Tryd.underlying34 rfl (sz34.trans (by simp [hcs_len])) (hp.cells' (t := 8) rfl)) rfl ?_
    refine st_v (ov_buildA (cells := hcs hz0) rfl Tryd.underlying34 zl34 sz5 (by kernel_rfl)) rfl ?_
    refine st_v (v := .bool true) ((ov_eqlA (k := .u8) (g := fun x : UInt8 => (x.toNat : Int))  inj8 Tryd.underlying34 Tryd.underlying5 sz5 gd34 rfl rfl ⟨Subtype.property (p := fun l : List UInt8 => l.length = 32) _, Subtype.property (p := fun l : List UInt8 => l.length = 32) _⟩).is ((by simp))) rfl ?_
    refine st_v (ov_assign rfl) rfl ?_
    refine st_nil ?_
    refine pn_then ?_
    refine sc_ret ?_
    refine pr_then ?_
    refine pr_one rfl rfl ?_
    exact ⟨rfl, hp.chg⟩
  ·
    have hc := of_decide_eq_false hc
    have hr0 : rowE B W row.length from_ = 0 := Classical.byContradiction hc
    obtain ⟨hg0, hn1, hn2, f, rfl, hfb⟩ := rowE_ok hr0
    refine sc_skip ?_
    refine pn_then ?_
    refine sc_seq ?_
    refine sc_seq ?_
    refine sc_region ?_
    refine st_v (ov_move rfl) rfl ?_
    refine st_v (ov_len rfl Tryd.underlying26 rfl) rfl ?_
    refine st_v (ov_eql rfl rfl) rfl ?_
    refine st_nil ?_
    refine pn_then ?_
    refine sc_cond rfl (fun hc => ?_) (fun hc => ?_)
    ·
      have hc := of_decide_eq_true hc
      have hrow1 : row.length = 1 := by omega
      have hrt : rootV B W row (f : Int) = row.getD 0 hz0 := by rw [root_at hr0, hrow1]; rfl
      rw [hrt] at hp
      refine sc_seq ?_
      refine sc_draws (by kernel_rfl) (by kernel_rfl) ?_
      replace hp := hp.drew
      refine ss_v (ov_loadN rfl Tryd.underlying34 rfl (sz34.trans (by simp [hcs_len])) (hp.cells' (t := 8) rfl)) rfl ?_
      refine ss_v (ov_move rfl) rfl ?_
      obtain ⟨bb1, oo1, hadr1, hcl1⟩ := ((h1.chg hp.chg)).pos (by rw [flat_len hcs_len]; omega)
      refine ss_v (ov_indexR hadr1 rfl rfl Tryd.underlying26 sz34 (by omega)) rfl ?_
      refine ss_v (ov_loadN rfl Tryd.underlying34 rfl (sz34.trans (by simp [hcs_len])) (hcl1.elemN hcs_len (0) ⟨by rfl, by omega⟩ hz0)) rfl ?_
      refine ss_v (v := .bool true) ((ov_eqlA (k := .u8) (g := fun x : UInt8 => (x.toNat : Int))  inj8 Tryd.underlying34 Tryd.underlying5 sz5 gd34 rfl rfl ⟨Subtype.property (p := fun l : List UInt8 => l.length = 32) _, Subtype.property (p := fun l : List UInt8 => l.length = 32) _⟩).is ((by simp))) rfl ?_
      refine ss_v (ov_assign rfl) rfl ?_
      refine ss_end ?_
      refine pn_then ?_
      refine sc_ret ?_
      refine pr_then ?_
      refine pr_one rfl rfl ?_
      exact ⟨rfl, hp.chg⟩
    ·
      have hc := of_decide_eq_false hc
      have hn22 : 2 ≤ row.length := by omega
      refine sc_skip ?_
      refine pn_then ?_
      refine sc_seq ?_
      refine sc_region ?_
      refine st_v (ov_assign rfl) rfl ?_
      refine st_nil ?_
      refine pn_then ?_
      refine sc_seq ?_
      refine sc_block ?_
      refine sc_loopH2 (α := Nat) (β := Nat) (kv := [(1, _), (2, _), (3, _), (8, _)]) (kl := [(8, _), (3, _)]) (fun k P kv => (10, .int .i64 ((P : Nat) : Int)) :: kv) (fun k P kl => kl) (fun k P => (P = 2 ^ k) ∧ (P < row.length)) (fun k P => row.length - P) 0 1 hp (Sub.cons rfl (Sub.cons rfl (Sub.cons rfl (Sub.cons rfl (Sub.cons rfl (Sub.nil _)))))) (LSub.cons rfl (LSub.cons rfl (LSub.nil _))) ?_ ?_
      · exact ⟨rfl, (by first | omega | (simp; done) | (simp; omega) | (simp [*]; omega))⟩
      intro k P w hp hx
      obtain ⟨hP, hPl⟩ := hx
      have hP0 : 1 ≤ P := by rw [hP]; exact Nat.two_pow_pos k
      refine sc_seq ?_
      refine sc_seq ?_
      refine sc_region ?_
      refine st_v (ov_move rfl) rfl ?_
      refine st_v (ov_mul_n (a := 2) (b := P) rfl rfl (by omega)) rfl ?_
      refine st_v (ov_move rfl) rfl ?_
      refine st_v (ov_len rfl Tryd.underlying26 rfl) rfl ?_
      refine st_v (ov_lss rfl rfl) rfl ?_
      refine st_nil ?_
      refine pn_then ?_
      refine sc_cond rfl (fun hc => ?_) (fun hc => ?_)
      ·
        have hc := of_decide_eq_true hc
        refine sc_skip ?_
        refine pn_then ?_
        refine sc_block ?_
        refine sc_region ?_
        refine st_v (ov_move rfl) rfl ?_
        refine st_v (ov_mul_n (a := 2) (b := P) rfl rfl (by omega)) rfl ?_
        refine st_v (ov_assign rfl) rfl ?_
        refine st_nil ?_
        refine pn_block ?_
        refine pn_roundH2 (k + 1) (2 * P) hp (Sub.cons rfl (Sub.cons rfl (Sub.cons rfl (Sub.cons rfl (Sub.cons rfl (Sub.nil _)))))) ?_ (LSub.cons rfl (LSub.cons rfl (LSub.nil _))) ?_
        · omega
        exact ⟨(by rw [hP, Nat.pow_succ, Nat.mul_comm]), (by first | omega | (simp; done) | (simp; omega) | (simp [*]; omega))⟩
      ·
        have hc := of_decide_eq_false hc
        obtain ⟨hrk, hhal⟩ := halves (k := k) hr0 hn22 (by rw [← hP]; exact hPl) (by rw [← hP]; omega)
        rw [← hP] at hrk hhal
        have hzE : zeroE B W (f : Int) = 0 := by unfold zeroE; rw [if_neg (by omega), if_neg (by omega)]
        have hzV : zeroV B W (f : Int) = zeroL B W f := by unfold zeroV; rw [if_pos hzE, Int.toNat_natCast]
        obtain ⟨rg, hrg⟩ : ∃ r, r = row.drop P ++ List.replicate (2 * P - row.length) (zeroL B W f) := ⟨_, rfl⟩
        have hrgl : rg.length = P := by rw [hrg]; simp; omega
        rw [← hrg] at hhal
        have htl : (row.take P).length = P := by simp; omega
        refine sc_exit ?_
        refine pe_then ?_
        refine pe_then ?_
        refine pe_hit ?_
        refine pn_then ?_
        refine sc_seq ?_
        refine sc_region ?_
        refine st_v (ov_loadN rfl Tryd.underlying23 rfl (sz23.trans rfl) (hp.cells' (t := 3) rfl)) rfl ?_
        refine st_v (ov_move rfl) rfl ?_
        refine st_call pl22 rfl rfl rfl (Zero_walk B W (f : Int) _ (hp.old hk (by simp)) (hp.old hf (by simp))) ?_
        rintro _ w ⟨rfl, hch⟩
        refine ⟨_, rfl, ?_⟩
        replace hp := hp.call hch
        clear hch
        rw [hzE, hzV]
        refine st_v (ov_move rfl) rfl ?_
        refine st_v (ov_extract rfl rfl) rfl ?_
        refine st_v (ov_extract rfl rfl) rfl ?_
        refine st_alloc 11 (hcs hz0) hp rfl zl34 rfl (fun b11 w hp => ?_)
        refine st_storeA 11 hp rfl rfl rfl (by simp [hcs_len]) (sz34.trans (by simp [hcs_len])) (hcs_one _) (fun w hp => ?_)
        refine st_v (ov_assign rfl) rfl ?_
        refine st_nil ?_
        refine pn_then ?_
        refine sc_seq ?_
        refine sc_region ?_
        refine st_v (ov_assign rfl) rfl ?_
        replace hp := hp.nil 13 34
        refine st_nil ?_
        refine pn_then ?_
        refine sc_seq ?_
        refine sc_region ?_
        refine st_v (ov_move rfl) rfl ?_
        refine st_v (ov_move rfl) rfl ?_
        refine st_v (ov_move rfl) rfl ?_
        refine st_v (ov_slice_lo Tryd.underlying26 sz34 rfl rfl (by omega)) rfl ?_
        rw [Int.toNat_natCast]
        refine st_append 13 gnil (xs := []) hp rfl rfl rfl rfl rfl Tryd.underlying26 in34 (by decide) rfl rfl (by simp) ((Rd.dropF hcs_len (l := P) ((h1.chg hp.chg)) (by first | omega | (simp; done) | (simp; omega) | (simp [*]; omega)))) (by rw [flat_len hcs_len, List.length_drop]) (many_one _) (by omega) (fun g13 w hp hc13 hf13 => ?_)
        simp only [List.nil_append] at hp hc13
        rw [Nat.zero_add]
        refine st_v (ov_assign rfl) rfl ?_
        refine st_nil ?_
        refine pn_then ?_
        refine sc_seq ?_
        refine sc_block ?_
        replace hp := hp.as (t := 13) rfl ((row.drop P ++ List.replicate 0 (zeroL B W f)).flatMap hcs ++ g13.sp) (by simp)
        refine sc_loopH2 (α := Nat) (β := Gs) (kv := [(1, _), (2, _), (3, _), (8, _), (10, _), (11, _), (12, _)]) (kl := [(11, _), (8, _), (3, _)]) (fun j h kv => (13, .slice (adr h.ob) (row.length - P + j) h.cap) :: kv) (fun j h kl => (13, ⟨h.ob, (row.drop P ++ List.replicate j (zeroL B W f)).flatMap hcs ++ h.sp, 34⟩) :: kl) (fun j h => (j ≤ 2 * P - row.length) ∧ (((row.drop P ++ List.replicate j (zeroL B W f)).flatMap hcs ++ h.sp).length = h.cap * 32)) (fun j h => 2 * P - row.length - j) 0 g13 hp (Sub.cons rfl (Sub.cons rfl (Sub.cons rfl (Sub.cons rfl (Sub.cons rfl (Sub.cons rfl (Sub.cons rfl (Sub.cons rfl (Sub.nil _))))))))) (LSub.cons rfl (LSub.cons rfl (LSub.cons rfl (LSub.cons rfl (LSub.nil _))))) ?_ ?_
        · exact ⟨(by first | omega | (simp; done) | (simp; omega) | (simp [*]; omega)), (by simpa using hc13)⟩
        intro j h w hp hx
        obtain ⟨hj, hch⟩ := hx
        refine sc_seq ?_
        refine sc_seq ?_
        refine sc_region ?_
        refine st_v (ov_move rfl) rfl ?_
        refine st_v (ov_len rfl Tryd.underlying26 rfl) rfl ?_
        refine st_v (ov_move rfl) rfl ?_
        refine st_v (ov_lss rfl rfl) rfl ?_
        refine st_nil ?_
        refine pn_then ?_
        refine sc_cond rfl (fun hc => ?_) (fun hc => ?_)
        ·
          have hc := of_decide_eq_true hc
          refine sc_skip ?_
          refine pn_then ?_
          refine sc_block ?_
          refine sc_region ?_
          refine st_v (ov_move rfl) rfl ?_
          refine st_v (ov_loadN rfl Tryd.underlying34 rfl (sz34.trans (by simp [hcs_len])) (hp.cells' (t := 11) rfl)) rfl ?_
          refine st_app1 13 67 h (xs := (row.drop P ++ List.replicate j (zeroL B W f)).flatMap hcs) (new := hcs (zeroL B W f)) hp rfl rfl rfl rfl rfl (by simp) rfl rfl Tryd.underlying26 in34 (by decide) rfl ((flat_len hcs_len _).trans (by rw [List.length_append, List.length_drop, List.length_replicate])) hch rfl (hcs_len _) (hcs_one _) (by omega) (fun h2 b67 w hp hch2 hf13 => ?_)
          rw [flat_snoc, List.append_assoc, ← List.replicate_succ'] at hp hch2
          refine st_v (ov_assign rfl) rfl ?_
          refine st_nil ?_
          refine pn_block ?_
          refine pn_roundH2 (j + 1) h2 hp (Sub.cons rfl (Sub.cons rfl (Sub.cons rfl (Sub.cons rfl (Sub.cons rfl (Sub.cons rfl (Sub.cons rfl (Sub.cons rfl (Sub.nil _))))))))) ?_ (LSub.cons rfl (LSub.cons rfl (LSub.cons rfl (LSub.cons rfl (LSub.nil _))))) ?_
          · omega
          exact ⟨(by first | omega | (simp; done) | (simp; omega) | (simp [*]; omega)), hch2⟩
        ·
          have hc := of_decide_eq_false hc
          obtain rfl : j = 2 * P - row.length := by omega
          rw [← hrg] at hp hch
          rw [show row.length - P + (2 * P - row.length) = P by omega]
          refine sc_exit ?_
          refine pe_then ?_
          refine pe_then ?_
          refine pe_hit ?_
          refine pn_then ?_
          refine sc_seq ?_
          obtain ⟨Hs, hHs⟩ := (hp.sub (L' := [(13, _), (11, _), (8, _), (3, _)]) (LSub.cons rfl (LSub.cons rfl (LSub.cons rfl (LSub.cons rfl (LSub.nil _)))))).hs
          refine sc_plan Hs [0, 1, 2, 3, 4, 6, 7, 8, 11] [9] (.load 0 (.take 1 (.take 2 (.take 3 (.take 4 (.two 5 (.take 6 (.take 7 (.take 8 (.one 9 (.one 10 (.take 11 .nil)))))) 9 (.one 5 (.take 6 (.take 7 (.take 8 (.one 10 (.take 11 .nil)))))))))))) (by kernel_rfl) (by kernel_rfl) (by repeat (first | exact calm_body _ _ _ | refine calm_then ?_ | refine calm_block ?_ | refine calm_jump ?_ | refine calm_ng ?_)) ?_
          replace hp := hp.drew
          refine sp_load rfl ((hHs _).2 (hp.sub (LSub.cons rfl (LSub.cons rfl (LSub.cons rfl (LSub.cons rfl (LSub.nil _))))))) (fun w hs => have hp := (hHs w).1 hs; ov_loadN rfl Tryd.underlying23 rfl (sz23.trans rfl) (hp.cells' (t := 3) rfl)) rfl ?_
          refine sp_take rfl (fun w => ov_move rfl) rfl ?_
          refine sp_take rfl (fun w => ov_move rfl) rfl ?_
          refine sp_take rfl (fun w => ov_slice_hi Tryd.underlying26 sz34 rfl rfl (by omega)) rfl ?_
          rw [Int.toNat_natCast]
          refine sp_take rfl (fun w => ov_move rfl) rfl ?_
          refine sp_two ?_ ?_
          ·
            refine sp_one rfl ?_
            refine st_call pl28 rfl rfl rfl (Root_walk B W (row.take P) _ _ (f : Int) _ (Rd.takeF hcs_len (h1.chg hp.chg) P) htl (by omega) (by omega) (hp.old hk (by simp)) (hp.old hf (by simp))) ?_
            rintro _ w ⟨rfl, hch⟩
            refine ⟨_, rfl, ?_⟩
            replace hp := hp.call hch
            clear hch
            rw [htl, hrk]
            refine st_nil ?_
            refine sp_next (i := 5) (fun h => absurd h (by decide)) ?_
            refine sp_take rfl (fun w => ov_move rfl) rfl ?_
            refine sp_take rfl (fun w => ov_extract rfl rfl) rfl ?_
            refine sp_take rfl (fun w => ov_extract rfl rfl) rfl ?_
            refine sp_one rfl ?_
            refine st_alloc 14 (hcs hz0) hp rfl zl34 rfl (fun b14 w hp => ?_)
            refine st_nil ?_
            refine sp_next (i := 9) (fun _ => ((hHs _).2 (hp.sub (LSub.cons rfl (LSub.cons rfl (LSub.cons rfl (LSub.cons rfl (LSub.nil _)))))))) ?_
            refine sp_one rfl ?_
            refine st_storeA 14 hp rfl rfl rfl (by simp [hcs_len]) (sz34.trans (by simp [hcs_len])) (hcs_one _) (fun w hp => ?_)
            refine st_nil ?_
            refine sp_next (i := 10) (fun h => absurd h (by decide)) ?_
            refine sp_take rfl (fun w => ov_assign rfl) rfl ?_
            refine sp_nil ?_
            refine pn_then ?_
            refine sc_seq ?_
            refine sc_region ?_
            refine st_v (ov_loadN rfl Tryd.underlying23 rfl (sz23.trans rfl) (hp.cells' (t := 3) rfl)) rfl ?_
            refine st_v (ov_move rfl) rfl ?_
            refine st_v (ov_move rfl) rfl ?_
            refine st_call pl28 rfl rfl rfl (Root_walk B W rg _ _ (f : Int) _ (Rd.own (hp.own 13 _ rfl)) hrgl (by omega) (by omega) (hp.old hk (by simp)) (hp.old hf (by simp))) ?_
            rintro _ w ⟨rfl, hch⟩
            refine ⟨_, rfl, ?_⟩
            replace hp := hp.call hch
            clear hch
            rw [hrgl, hrk]
            refine st_v (ov_move rfl) rfl ?_
            refine st_v (ov_extract rfl rfl) rfl ?_
            refine st_v (ov_extract rfl rfl) rfl ?_
            refine st_alloc 16 (hcs hz0) hp rfl zl34 rfl (fun b16 w hp => ?_)
            refine st_storeA 16 hp rfl rfl rfl (by simp [hcs_len]) (sz34.trans (by simp [hcs_len])) (hcs_one _) (fun w hp => ?_)
            refine st_v (ov_assign rfl) rfl ?_
            refine st_nil ?_
            refine pn_then ?_
            refine sc_seq ?_
            refine sc_region ?_
            refine st_v (ov_loadN rfl Tryd.underlying23 rfl (sz23.trans rfl) (hp.cells' (t := 3) rfl)) rfl ?_
            refine st_v (ov_loadN rfl Tryd.underlying34 rfl (sz34.trans (by simp [hcs_len])) (hp.cells' (t := 14) rfl)) rfl ?_
            refine st_v (ov_loadN rfl Tryd.underlying34 rfl (sz34.trans (by simp [hcs_len])) (hp.cells' (t := 16) rfl)) rfl ?_
            refine st_call pl23 rfl rfl rfl (Pair_walk B W _ _ _ (hp.old hk (by simp)) (hp.old hf (by simp))) ?_
            rintro _ w ⟨rfl, hch⟩
            refine ⟨_, rfl, ?_⟩
            replace hp := hp.call hch
            clear hch
            rw [show pairV B W (rootV B W (row.take P) (f : Int)) (rootV B W rg (f : Int)) = rootV B W row (f : Int) by unfold pairV; rw [if_pos hg0, hhal], hg0]
            refine st_v (ov_move rfl) rfl ?_
            refine st_v (ov_extract rfl rfl) rfl ?_
            refine st_v (ov_extract rfl rfl) rfl ?_
            refine st_alloc 18 (hcs hz0) hp rfl zl34 rfl (fun b18 w hp => ?_)
            refine st_storeA 18 hp rfl rfl rfl (by simp [hcs_len]) (sz34.trans (by simp [hcs_len])) (hcs_one _) (fun w hp => ?_)
            refine st_v (ov_assign rfl) rfl ?_
            refine st_nil ?_
            refine pn_then ?_
            refine sc_seq ?_
            refine sc_region ?_
            refine st_v (ov_move rfl) rfl ?_
            refine st_v (v := .bool true) ((ov_eql rfl rfl).is ((by simp))) rfl ?_
            refine st_v (ov_move rfl) rfl ?_
            refine st_on (j := 2) rfl rfl ?_
            refine st_v (ov_move rfl) rfl ?_
            refine st_on (j := 2) rfl rfl ?_
            refine st_v (v := .bool true) ((ov_eql rfl rfl).is ((by simp))) rfl ?_
            refine st_v (ov_pick_t rfl rfl) rfl ?_
            refine st_v (ov_move rfl) rfl ?_
            refine st_on (j := 6) rfl rfl ?_
            refine st_v (ov_move rfl) rfl ?_
            refine st_on (j := 6) rfl rfl ?_
            refine st_v (v := .bool true) ((ov_eql rfl rfl).is ((by simp))) rfl ?_
            refine st_v (ov_pick_t rfl rfl) rfl ?_
            refine st_v (ov_move rfl) rfl ?_
            refine st_on (j := 10) rfl rfl ?_
            refine st_v (ov_move rfl) rfl ?_
            refine st_on (j := 10) rfl rfl ?_
            refine st_v (v := .bool true) ((ov_eql rfl rfl).is ((by simp))) rfl ?_
            refine st_v (ov_pick_t rfl rfl) rfl ?_
            refine st_v (ov_move rfl) rfl ?_
            refine st_on (j := 14) rfl rfl ?_
            refine st_v (ov_loadN rfl Tryd.underlying34 rfl (sz34.trans (by simp [hcs_len])) (hp.cells' (t := 18) rfl)) rfl ?_
            refine st_on (j := 14) rfl rfl ?_
            refine st_v (ov_loadN rfl Tryd.underlying34 rfl (sz34.trans (by simp [hcs_len])) (hp.cells' (t := 8) rfl)) rfl ?_
            refine st_on (j := 14) rfl rfl ?_
            refine st_v (v := .bool true) ((ov_eqlA (k := .u8) (g := fun x : UInt8 => (x.toNat : Int))  inj8 Tryd.underlying34 Tryd.underlying5 sz5 gd34 rfl rfl ⟨Subtype.property (p := fun l : List UInt8 => l.length = 32) _, Subtype.property (p := fun l : List UInt8 => l.length = 32) _⟩).is ((by simp))) rfl ?_
            refine st_v (ov_pick_t rfl rfl) rfl ?_
            refine st_v (ov_assign rfl) rfl ?_
            refine st_nil ?_
            refine pn_then ?_
            refine sc_ret ?_
            refine pr_one rfl rfl ?_
            exact ⟨rfl, hp.chg⟩
          ·
            refine sp_one rfl ?_
            refine st_alloc 14 (hcs hz0) hp rfl zl34 rfl (fun b14 w hp => ?_)
            refine st_nil ?_
            refine sp_next (i := 9) (fun _ => ((hHs _).2 (hp.sub (LSub.cons rfl (LSub.cons rfl (LSub.cons rfl (LSub.cons rfl (LSub.nil _)))))))) ?_
            refine sp_one rfl ?_
            refine st_call pl28 rfl rfl rfl (Root_walk B W (row.take P) _ _ (f : Int) _ (Rd.takeF hcs_len (h1.chg hp.chg) P) htl (by omega) (by omega) (hp.old hk (by simp)) (hp.old hf (by simp))) ?_
            rintro _ w ⟨rfl, hch⟩
            refine ⟨_, rfl, ?_⟩
            replace hp := hp.call hch
            clear hch
            rw [htl, hrk]
            refine st_nil ?_
            refine sp_next (i := 5) (fun h => absurd h (by decide)) ?_
            refine sp_take rfl (fun w => ov_move rfl) rfl ?_
            refine sp_take rfl (fun w => ov_extract rfl rfl) rfl ?_
            refine sp_take rfl (fun w => ov_extract rfl rfl) rfl ?_
            refine sp_one rfl ?_
            refine st_storeA 14 hp rfl rfl rfl (by simp [hcs_len]) (sz34.trans (by simp [hcs_len])) (hcs_one _) (fun w hp => ?_)
            refine st_nil ?_
            refine sp_next (i := 10) (fun h => absurd h (by decide)) ?_
            refine sp_take rfl (fun w => ov_assign rfl) rfl ?_
            refine sp_nil ?_
            refine pn_then ?_
            refine sc_seq ?_
            refine sc_region ?_
            refine st_v (ov_loadN rfl Tryd.underlying23 rfl (sz23.trans rfl) (hp.cells' (t := 3) rfl)) rfl ?_
            refine st_v (ov_move rfl) rfl ?_
            refine st_v (ov_move rfl) rfl ?_
            refine st_call pl28 rfl rfl rfl (Root_walk B W rg _ _ (f : Int) _ (Rd.own (hp.own 13 _ rfl)) hrgl (by omega) (by omega) (hp.old hk (by simp)) (hp.old hf (by simp))) ?_
            rintro _ w ⟨rfl, hch⟩
            refine ⟨_, rfl, ?_⟩
            replace hp := hp.call hch
            clear hch
            rw [hrgl, hrk]
            refine st_v (ov_move rfl) rfl ?_
            refine st_v (ov_extract rfl rfl) rfl ?_
            refine st_v (ov_extract rfl rfl) rfl ?_
            refine st_alloc 16 (hcs hz0) hp rfl zl34 rfl (fun b16 w hp => ?_)
            refine st_storeA 16 hp rfl rfl rfl (by simp [hcs_len]) (sz34.trans (by simp [hcs_len])) (hcs_one _) (fun w hp => ?_)
            refine st_v (ov_assign rfl) rfl ?_
            refine st_nil ?_
            refine pn_then ?_
            refine sc_seq ?_
            refine sc_region ?_
            refine st_v (ov_loadN rfl Tryd.underlying23 rfl (sz23.trans rfl) (hp.cells' (t := 3) rfl)) rfl ?_
            refine st_v (ov_loadN rfl Tryd.underlying34 rfl (sz34.trans (by simp [hcs_len])) (hp.cells' (t := 14) rfl)) rfl ?_
            refine st_v (ov_loadN rfl Tryd.underlying34 rfl (sz34.trans (by simp [hcs_len])) (hp.cells' (t := 16) rfl)) rfl ?_
            refine st_call pl23 rfl rfl rfl (Pair_walk B W _ _ _ (hp.old hk (by simp)) (hp.old hf (by simp))) ?_
            rintro _ w ⟨rfl, hch⟩
            refine ⟨_, rfl, ?_⟩
            replace hp := hp.call hch
            clear hch
            rw [show pairV B W (rootV B W (row.take P) (f : Int)) (rootV B W rg (f : Int)) = rootV B W row (f : Int) by unfold pairV; rw [if_pos hg0, hhal], hg0]
            refine st_v (ov_move rfl) rfl ?_
            refine st_v (ov_extract rfl rfl) rfl ?_
            refine st_v (ov_extract rfl rfl) rfl ?_
            refine st_alloc 18 (hcs hz0) hp rfl zl34 rfl (fun b18 w hp => ?_)
            refine st_storeA 18 hp rfl rfl rfl (by simp [hcs_len]) (sz34.trans (by simp [hcs_len])) (hcs_one _) (fun w hp => ?_)
            refine st_v (ov_assign rfl) rfl ?_
            refine st_nil ?_
            refine pn_then ?_
            refine sc_seq ?_
            refine sc_region ?_
            refine st_v (ov_move rfl) rfl ?_
            refine st_v (v := .bool true) ((ov_eql rfl rfl).is ((by simp))) rfl ?_
            refine st_v (ov_move rfl) rfl ?_
            refine st_on (j := 2) rfl rfl ?_
            refine st_v (ov_move rfl) rfl ?_
            refine st_on (j := 2) rfl rfl ?_
            refine st_v (v := .bool true) ((ov_eql rfl rfl).is ((by simp))) rfl ?_
            refine st_v (ov_pick_t rfl rfl) rfl ?_
            refine st_v (ov_move rfl) rfl ?_
            refine st_on (j := 6) rfl rfl ?_
            refine st_v (ov_move rfl) rfl ?_
            refine st_on (j := 6) rfl rfl ?_
            refine st_v (v := .bool true) ((ov_eql rfl rfl).is ((by simp))) rfl ?_
            refine st_v (ov_pick_t rfl rfl) rfl ?_
            refine st_v (ov_move rfl) rfl ?_
            refine st_on (j := 10) rfl rfl ?_
            refine st_v (ov_move rfl) rfl ?_
            refine st_on (j := 10) rfl rfl ?_
            refine st_v (v := .bool true) ((ov_eql rfl rfl).is ((by simp))) rfl ?_
            refine st_v (ov_pick_t rfl rfl) rfl ?_
            refine st_v (ov_move rfl) rfl ?_
            refine st_on (j := 14) rfl rfl ?_
            refine st_v (ov_loadN rfl Tryd.underlying34 rfl (sz34.trans (by simp [hcs_len])) (hp.cells' (t := 18) rfl)) rfl ?_
            refine st_on (j := 14) rfl rfl ?_
            refine st_v (ov_loadN rfl Tryd.underlying34 rfl (sz34.trans (by simp [hcs_len])) (hp.cells' (t := 8) rfl)) rfl ?_
            refine st_on (j := 14) rfl rfl ?_
            refine st_v (v := .bool true) ((ov_eqlA (k := .u8) (g := fun x : UInt8 => (x.toNat : Int))  inj8 Tryd.underlying34 Tryd.underlying5 sz5 gd34 rfl rfl ⟨Subtype.property (p := fun l : List UInt8 => l.length = 32) _, Subtype.property (p := fun l : List UInt8 => l.length = 32) _⟩).is ((by simp))) rfl ?_
            refine st_v (ov_pick_t rfl rfl) rfl ?_
            refine st_v (ov_assign rfl) rfl ?_
            refine st_nil ?_
            refine pn_then ?_
            refine sc_ret ?_
            refine pr_one rfl rfl ?_
            exact ⟨rfl, hp.chg⟩

end Go.Proofs.YtjdolgfhcjnniaaDoor
