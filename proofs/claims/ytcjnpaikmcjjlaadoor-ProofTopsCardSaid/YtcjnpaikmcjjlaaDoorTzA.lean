/-
  The walks of TrailingZeros.
-/
import Derived.Test.YtcjnpaikmcjjlaaDoorFacts
import Derived.Test.YtcjnpaikmcjjlaaDoorTzP
namespace Go.Proofs.YtcjnpaikmcjjlaaDoor
open Go Go.RowKit

set_option maxRecDepth 100000 in
theorem tz64_walk (k : Nat) (hk : k < 63) (w0 : World) (hdb : Cells w0 2 0 (dbL.map B8)) :
    Calls Tryd.prog 103 #[.int .u64 ((2 ^ k : Nat) : Int)] w0 fun e w' => e = .returned (.int .i64 (k : Int)) ∧ Chg [] w0 w' := by
  refine calls_in Tryd.func103 Tryd.ntmps103 rfl rfl ?_
  have hp := Hp.start w0
  obtain ⟨t1, t2, t3, t4, t5⟩ := tz_all k hk
  refine sc_seq ?_
  refine sc_region ?_
  refine st_v (ov_assign rfl) rfl ?_
  refine st_nil ?_
  refine pn_then ?_
  refine sc_seq ?_
  refine sc_seq ?_
  refine sc_region ?_
  refine st_v (ov_move rfl) rfl ?_
  refine st_v (ov_eql rfl rfl) rfl ?_
  refine st_nil ?_
  refine pn_then ?_
  refine sc_cond rfl (fun hc => ?_) (fun hc => ?_)
  · exact absurd hc (by have := Nat.two_pow_pos k; simp only [decide_eq_true_eq]; omega)
  skip
  refine sc_skip ?_
  refine pn_then ?_
  refine sc_seq ?_
  refine sc_region ?_
  refine st_v (ov_move rfl) rfl ?_
  refine st_v (ov_move rfl) rfl ?_
  refine st_v (v := .int .u64 ((tzA k : Nat) : Int)) ((ov_neg rfl).is (by rw [t1])) rfl ?_
  refine st_v (v := .int .u64 ((2 ^ k : Nat) : Int)) ((ov_and rfl rfl).is (by rw [t2])) rfl ?_
  refine st_v (v := .int .u64 ((tzM k : Nat) : Int)) ((ov_mul rfl rfl).is (by rw [t3])) rfl ?_
  refine st_v (ov_shr_n (a := (tzM k)) (s := 58) rfl rfl ⟨rfl, by decide⟩) rfl ?_
  refine st_v (ov_indexA rfl rfl Tryd.underlying114 sz5 (by show (0 : Int) ≤ ((tzI k : Nat) : Int) ∧ ((tzI k : Nat) : Int) < 64; omega)) rfl ?_
  refine st_v (ov_load1 rfl Tryd.underlying5 rfl (Cells.elem' (hp.old hdb (by simp)) ((tzI k)) (by rw [dbL_len]; exact ⟨by rw [Int.toNat_natCast]; unfold tzI; omega, t4⟩) 0)) rfl ?_
  refine st_v (ov_conv_8_64 (c := (dbL).getD ((tzI k)) 0) Tryd.underlying5 Tryd.underlying3 rfl) rfl ?_
  refine st_v (ov_assign rfl) rfl ?_
  refine st_nil ?_
  refine pn_then ?_
  refine sc_ret ?_
  refine pr_one rfl rfl ?_
  exact ⟨congrArg (fun z : Nat => Ending.returned (Value.int .i64 (z : Int))) t5, hp.chg⟩

set_option maxRecDepth 100000 in
theorem tz_walk (k : Nat) (hk : k < 63) (w0 : World) (hdb : Cells w0 2 0 (dbL.map B8)) :
    Calls Tryd.prog 89 #[.int .u64 ((2 ^ k : Nat) : Int)] w0 fun e w' => e = .returned (.int .i64 (k : Int)) ∧ Chg [] w0 w' := by
  refine calls_in Tryd.func89 Tryd.ntmps89 rfl rfl ?_
  have hp := Hp.start w0
  refine sc_seq ?_
  refine sc_region ?_
  refine st_v (ov_assign rfl) rfl ?_
  refine st_nil ?_
  refine pn_then ?_
  refine sc_seq ?_
  refine sc_false rfl ?_
  refine sc_skip ?_
  refine pn_then ?_
  refine sc_seq ?_
  refine sc_region ?_
  refine st_v (ov_move rfl) rfl ?_
  refine st_call pl103 rfl rfl rfl (tz64_walk k hk _ (hp.old hdb (by simp))) ?_
  rintro _ w ⟨rfl, hch⟩
  refine ⟨_, rfl, ?_⟩
  replace hp := hp.call hch
  clear hch
  refine st_v (ov_assign rfl) rfl ?_
  refine st_nil ?_
  refine pn_then ?_
  refine sc_ret ?_
  refine pr_one rfl rfl ?_
  exact ⟨rfl, hp.chg⟩

end Go.Proofs.YtcjnpaikmcjjlaaDoor
