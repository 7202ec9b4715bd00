/-
  The walk of Hex.
-/
import Derived.Test.YtcpbfnbfbladoaaDoorFacts
import Derived.Test.YtcpbfnbfbladoaaDoorHexP
import Derived.Test.YtcpbfnbfbladoaaDoorBytesA
namespace Go.Proofs.YtcpbfnbfbladoaaDoor
open Go Go.RowKit

set_option maxRecDepth 100000 in
theorem hex_walk (b : List UInt8) (ao : Option Addr) (ca : Nat) (w0 : World) (h1 : Rd w0 ao (b.map B8)) (hz : b.length ≤ 1048576) :
    Calls Tryd.prog 39 #[.slice ao b.length ca] w0 fun e w' => e = .returned (vS (hexOf b)) ∧ Chg [] w0 w' := by
  refine calls_in Tryd.func39 Tryd.ntmps39 rfl rfl ?_
  have hp := Hp.start w0
  refine sc_seq ?_
  refine sc_region ?_
  refine st_v (ov_assign rfl) rfl ?_
  refine st_nil ?_
  refine pn_then ?_
  refine sc_seq ?_
  refine sc_region ?_
  refine st_v (ov_move rfl) rfl ?_
  refine st_v (ov_len rfl Tryd.underlying33 rfl) rfl ?_
  refine st_v (ov_mul_i64 rfl rfl (by omega)) rfl ?_
  refine st_make1 9 (l := 0) (c := (2 * b.length)) hp rfl rfl rfl Tryd.underlying33 in5 ⟨by omega, by omega, by omega, by omega, by omega⟩ rfl (fun b9 w hp => ?_)
  refine st_v (ov_assign rfl) rfl ?_
  refine st_nil ?_
  refine pn_then ?_
  refine sc_seq ?_
  refine sc_seq ?_
  refine sc_region ?_
  refine st_v (ov_move rfl) rfl ?_
  refine st_v (ov_len rfl Tryd.underlying33 rfl) rfl ?_
  refine st_v (ov_move rfl) rfl ?_
  refine st_nil ?_
  refine pn_then ?_
  refine sc_block ?_
  refine sc_loop2 (α := Nat) (β := Gs) 0 ⟨some b9, 2 * b.length, List.replicate (2 * b.length) (B8 0)⟩ (fun i g => [(3, .slice (adr g.ob) (2 * i) g.cap), (10, .slice ao b.length ca), (11, .int .i64 ((b.length : Nat) : Int)), (12, .int .i64 ((i : Nat) : Int))]) (fun i g w => Hp w0 [] [(9, ⟨g.ob, (hexOf (b.take i)).map B8 ++ g.sp, 5⟩)] [] w ∧ ((hexOf (b.take i)).map B8 ++ g.sp).length = g.cap * 1 ∧ i ≤ b.length) (fun i g => b.length - i) ?_ ?_ ?_
  · exact (Sub.cons rfl (Sub.cons rfl (Sub.cons rfl (Sub.cons rfl (Sub.nil _)))))
  · exact ⟨hp, by simp [hexOf], by omega⟩
  intro i g w hw
  obtain ⟨hp, hcap, hi⟩ := hw
  have hlt := hexOf_len (b.take i)
  rw [List.length_take, Nat.min_eq_left hi] at hlt
  refine sc_seq ?_
  refine sc_region ?_
  refine st_v (ov_lss rfl rfl) rfl ?_
  refine st_nil ?_
  refine pn_then ?_
  refine sc_seq ?_
  refine sc_cond rfl (fun hc => ?_) (fun hc => ?_)
  ·
    have hc := of_decide_eq_true hc
    refine sc_skip ?_
    refine pn_then ?_
    refine sc_seq ?_
    refine sc_block ?_
    refine sc_seq ?_
    refine sc_region ?_
    obtain ⟨bb1, oo1, hadr1, hcl1⟩ := (h1.chg hp.chg).pos (by simp; omega)
    refine st_v (ov_indexR hadr1 rfl rfl Tryd.underlying33 sz5 (by omega)) rfl ?_
    refine st_v (ov_load1 rfl Tryd.underlying5 rfl (Cells.elem' hcl1 (i) (by omega) 0)) rfl ?_
    refine st_v (ov_assign rfl) rfl ?_
    refine st_nil ?_
    refine pn_then ?_
    refine sc_plan (fun _ => True) [0, 1, 2, 3, 4, 5, 6, 9] [] (.take 0 (.take 1 (.take 2 (.take 3 (.take 4 (.take 5 (.take 6 (.one 7 (.one 8 (.take 9 .nil)))))))))) (by kernel_rfl) (by kernel_rfl) (by repeat (first | exact calm_body _ _ _ | refine calm_then ?_ | refine calm_block ?_)) ?_
    replace hp := hp.drew
    have hc8 := (b.getD i 0).toNat_lt
    refine sp_take rfl (fun w => ov_move rfl) rfl ?_
    refine sp_take rfl (fun w => ov_move rfl) rfl ?_
    refine sp_take rfl (fun w => ov_shr_n (a := (b.getD i 0).toNat) (s := 4) rfl rfl ⟨rfl, by decide⟩) rfl ?_
    rw [show (b.getD i 0).toNat >>> 4 = (b.getD i 0).toNat / 16 from Nat.shiftRight_eq_div_pow _ _]
    refine sp_take rfl (fun w => ov_indexStr (s := digitsL) rfl rfl Tryd.underlying9 (by rw [digit_len]; omega)) rfl ?_
    refine sp_take rfl (fun w => ov_move rfl) rfl ?_
    refine sp_take rfl (fun w => ov_and_u8 (q := 15) rfl rfl) rfl ?_
    rw [and15]
    refine sp_take rfl (fun w => ov_indexStr (s := digitsL) rfl rfl Tryd.underlying9 (by rw [digit_len]; omega)) rfl ?_
    refine sp_one rfl ?_
    refine st_build 8 (cells := [B8 (digitsL.getD ((b.getD i 0).toNat / 16) 0), B8 (digitsL.getD ((b.getD i 0).toNat % 16) 0)]) hp rfl rfl Tryd.underlying33 (in2_of in5) (by decide) (by kernel_rfl) (fun b8 w hb8 hp => ?_)
    refine st_nil ?_
    refine sp_next (i := 7) (fun h => absurd h (by decide)) ?_
    refine sp_one rfl ?_
    refine st_append 9 g (news := [digitsL.getD ((b.getD i 0).toNat / 16) 0, digitsL.getD ((b.getD i 0).toNat % 16) 0].map B8) (m := 2) hp rfl rfl rfl rfl rfl Tryd.underlying33 in5 (by decide) rfl (by simp; omega) hcap (Rd.of (hp.cells' (t := 8) rfl)) rfl (one_all _) (by omega) (fun g2 w hp hcap hf9 => ?_)
    refine st_nil ?_
    refine sp_next (i := 8) (fun h => absurd h (by decide)) ?_
    refine sp_take rfl (fun w => ov_assign rfl) rfl ?_
    refine sp_nil ?_
    refine pn_block ?_
    refine pn_then ?_
    refine sc_region ?_
    refine st_v (ov_add_i64 rfl rfl (by omega)) rfl ?_
    refine st_v (ov_move rfl) rfl ?_
    refine st_nil ?_
    have hi2 : i < b.length := by omega
    have hlt2 : 2 * i + 2 = 2 * (i + 1) := by omega
    rw [hlt2]
    refine pn_round2 (i + 1) g2 ?_ ?_ ?_
    · exact (Sub.cons rfl (Sub.cons rfl (Sub.cons rfl (Sub.cons rfl (Sub.nil _)))))
    · omega
    ·
      rw [hexOf_take b hi2, List.map_append]
      exact ⟨hp.sub (lsub_cons rfl (lsub_nil _)), hcap, by omega⟩
  ·
    have hc := of_decide_eq_false hc
    obtain rfl : i = b.length := by omega
    rw [List.take_length] at hp hcap hlt
    refine sc_exit ?_
    refine pe_then ?_
    refine pe_then ?_
    refine pe_hit ?_
    refine pn_then ?_
    refine sc_seq ?_
    refine sc_region ?_
    refine st_v (ov_move rfl) rfl ?_
    refine st_v (ov_convBS Tryd.underlying33 Tryd.underlying5 Tryd.underlying9 rfl (Rd.own (hp.own 9 _ rfl)) (by rw [hlt])) rfl ?_
    refine st_v (ov_assign rfl) rfl ?_
    refine st_nil ?_
    refine pn_then ?_
    refine sc_ret ?_
    refine pr_one rfl rfl ?_
    exact ⟨rfl, hp.chg⟩

end Go.Proofs.YtcpbfnbfbladoaaDoor
