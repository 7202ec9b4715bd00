/-
  The walks of Held and Fault.
-/
import Derived.Test.YthebbenfmoknbaaRefA
import Derived.Test.YthebbenfmoknbaaPushA
namespace Go.Proofs.Ythebbenfmoknbaa
open Go Go.RowKit

set_option maxRecDepth 100000 in
theorem held_nil (w0 : World) :
    Calls Try.prog 28 #[.pointer none] w0 fun e w' => e = .returned (.int .i64 0) ∧ Chg [] w0 w' := by
  refine calls_in Try.func28 Try.ntmps28 rfl rfl ?_
  have hp := Hp.start w0
  refine sc_seq ?_
  refine sc_region ?_
  refine st_v (ov_assign rfl) rfl ?_
  refine st_nil ?_
  refine pn_then ?_
  refine sc_seq ?_
  refine sc_seq ?_
  refine sc_region ?_
  refine st_v (ov_move rfl) rfl ?_
  refine st_v (ov_eqlP Try.underlying42 rfl rfl) rfl ?_
  refine st_nil ?_
  refine pn_then ?_
  refine sc_cond rfl (fun hc => ?_) (fun hc => ?_)
  rotate_left
  · exact absurd hc (by simp)
  refine sc_seq ?_
  refine sc_region ?_
  refine st_v (ov_assign rfl) rfl ?_
  refine st_nil ?_
  refine pn_then ?_
  refine sc_ret ?_
  refine pr_then ?_
  refine pr_one rfl rfl ?_
  exact ⟨rfl, hp.chg⟩

set_option maxRecDepth 100000 in
theorem fault_nil (w0 : World) :
    Calls Try.prog 30 #[.pointer none] w0 fun e w' => e = .returned (.int .i64 1) ∧ Chg [] w0 w' := by
  refine calls_in Try.func30 Try.ntmps30 rfl rfl ?_
  have hp := Hp.start w0
  refine sc_seq ?_
  refine sc_region ?_
  refine st_v (ov_assign rfl) rfl ?_
  refine st_nil ?_
  refine pn_then ?_
  refine sc_seq ?_
  refine sc_seq ?_
  refine sc_region ?_
  refine st_v (ov_move rfl) rfl ?_
  refine st_v (ov_eqlP Try.underlying42 rfl rfl) rfl ?_
  refine st_nil ?_
  refine pn_then ?_
  refine sc_cond rfl (fun hc => ?_) (fun hc => ?_)
  rotate_left
  · exact absurd hc (by simp)
  refine sc_seq ?_
  refine sc_region ?_
  refine st_v (ov_assign rfl) rfl ?_
  refine st_nil ?_
  refine pn_then ?_
  refine sc_ret ?_
  refine pr_then ?_
  refine pr_one rfl rfl ?_
  exact ⟨rfl, hp.chg⟩

set_option maxRecDepth 100000 in
theorem faultq_nil (w0 : World) :
    Calls Try.prog 31 #[.pointer none] w0 fun e w' => e = .returned (.int .i64 1) ∧ Chg [] w0 w' := by
  refine calls_in Try.func31 Try.ntmps31 rfl rfl ?_
  have hp := Hp.start w0
  refine sc_seq ?_
  refine sc_region ?_
  refine st_v (ov_assign rfl) rfl ?_
  refine st_nil ?_
  refine pn_then ?_
  refine sc_seq ?_
  refine sc_seq ?_
  refine sc_region ?_
  refine st_v (ov_move rfl) rfl ?_
  refine st_v (ov_eqlP Try.underlying43 rfl rfl) rfl ?_
  refine st_nil ?_
  refine pn_then ?_
  refine sc_cond rfl (fun hc => ?_) (fun hc => ?_)
  rotate_left
  · exact absurd hc (by simp)
  refine sc_seq ?_
  refine sc_region ?_
  refine st_v (ov_assign rfl) rfl ?_
  refine st_nil ?_
  refine pn_then ?_
  refine sc_ret ?_
  refine pr_then ?_
  refine pr_one rfl rfl ?_
  exact ⟨rfl, hp.chg⟩

set_option maxRecDepth 100000 in
theorem push_nil (w0 : World) (b : Value) :
    Calls Try.prog 25 #[.pointer none, b] w0 fun e w' => e = .returned (.tuple #[.slice none 0 0, .slice none 0 0, .int .i64 1]) ∧ Chg [] w0 w' := by
  refine calls_in Try.func25 Try.ntmps25 rfl rfl ?_
  have hp := Hp.start w0
  refine sc_seq ?_
  refine sc_region ?_
  refine st_v (ov_assign rfl) rfl ?_
  refine st_v (ov_assign rfl) rfl ?_
  refine st_v (ov_assign rfl) rfl ?_
  refine st_nil ?_
  refine pn_then ?_
  refine sc_scope ?_
  refine sc_seq ?_
  refine sc_region ?_
  refine st_v (ov_assign rfl) rfl ?_
  refine st_nil ?_
  refine pn_then ?_
  refine sc_seq ?_
  refine sc_region ?_
  refine st_v (ov_assign rfl) rfl ?_
  refine st_nil ?_
  refine pn_then ?_
  refine sc_seq ?_
  refine sc_seq ?_
  refine sc_region ?_
  refine st_v (ov_move rfl) rfl ?_
  refine st_v (ov_eqlP Try.underlying42 rfl rfl) rfl ?_
  refine st_nil ?_
  refine pn_then ?_
  refine sc_cond rfl (fun hc => ?_) (fun hc => ?_)
  rotate_left
  · exact absurd hc (by simp)
  refine sc_seq ?_
  refine sc_region ?_
  refine st_v (ov_assign rfl) rfl ?_
  refine st_v (ov_assign rfl) rfl ?_
  refine st_v (ov_assign rfl) rfl ?_
  refine st_nil ?_
  refine pn_then ?_
  refine sc_ret ?_
  refine pr_then ?_
  refine pr_ng ?_
  refine pr_three rfl rfl rfl rfl ?_
  exact ⟨rfl, hp.chg⟩

set_option maxRecDepth 100000 in
theorem pushq_nil (w0 : World) (b : Value) :
    Calls Try.prog 26 #[.pointer none, b] w0 fun e w' => e = .returned (.tuple #[.slice none 0 0, .slice none 0 0, .int .i64 1]) ∧ Chg [] w0 w' := by
  refine calls_in Try.func26 Try.ntmps26 rfl rfl ?_
  have hp := Hp.start w0
  refine sc_seq ?_
  refine sc_region ?_
  refine st_v (ov_assign rfl) rfl ?_
  refine st_v (ov_assign rfl) rfl ?_
  refine st_v (ov_assign rfl) rfl ?_
  refine st_nil ?_
  refine pn_then ?_
  refine sc_seq ?_
  refine sc_seq ?_
  refine sc_region ?_
  refine st_v (ov_move rfl) rfl ?_
  refine st_v (ov_eqlP Try.underlying43 rfl rfl) rfl ?_
  refine st_nil ?_
  refine pn_then ?_
  refine sc_cond rfl (fun hc => ?_) (fun hc => ?_)
  rotate_left
  · exact absurd hc (by simp)
  refine sc_seq ?_
  refine sc_region ?_
  refine st_v (ov_assign rfl) rfl ?_
  refine st_v (ov_assign rfl) rfl ?_
  refine st_v (ov_assign rfl) rfl ?_
  refine st_nil ?_
  refine pn_then ?_
  refine sc_ret ?_
  refine pr_then ?_
  refine pr_three rfl rfl rfl rfl ?_
  exact ⟨rfl, hp.chg⟩

set_option maxRecDepth 100000 in
theorem heldq_nil (w0 : World) :
    Calls Try.prog 29 #[.pointer none] w0 fun e w' => e = .returned (.int .i64 0) ∧ Chg [] w0 w' := by
  refine calls_in Try.func29 Try.ntmps29 rfl rfl ?_
  have hp := Hp.start w0
  refine sc_seq ?_
  refine sc_region ?_
  refine st_v (ov_assign rfl) rfl ?_
  refine st_nil ?_
  refine pn_then ?_
  refine sc_seq ?_
  refine sc_seq ?_
  refine sc_region ?_
  refine st_v (ov_move rfl) rfl ?_
  refine st_v (ov_eqlP Try.underlying43 rfl rfl) rfl ?_
  refine st_v (ov_move rfl) rfl ?_
  refine st_off (j := 2) rfl rfl rfl rfl ?_
  refine st_off (j := 2) rfl rfl rfl rfl ?_
  refine st_off (j := 2) rfl rfl rfl rfl ?_
  refine st_off (j := 2) rfl rfl rfl rfl ?_
  refine st_off (j := 2) rfl rfl rfl rfl ?_
  refine st_v (ov_pick_t rfl rfl) rfl ?_
  refine st_nil ?_
  refine pn_then ?_
  refine sc_true rfl ?_
  refine sc_seq ?_
  refine sc_region ?_
  refine st_v (ov_assign rfl) rfl ?_
  refine st_nil ?_
  refine pn_then ?_
  refine sc_ret ?_
  refine pr_then ?_
  refine pr_one rfl rfl ?_
  exact ⟨rfl, hp.chg⟩

set_option maxRecDepth 100000 in
theorem held_walk (r st : Nat) (g : Gs) (n want : Nat) (f : Int) (w0 : World) (hB : Cells w0 r 0 (rdr st g n want f)) (hn : n ≤ 1099511627776) :
    Calls Try.prog 28 #[.pointer (some ⟨r, 0, none⟩)] w0 fun e w' => e = .returned (.int .i64 ((if st = 2 ∧ f = 0 then 4 + n else n : Nat) : Int)) ∧ Chg [] w0 w' := by
  refine calls_in Try.func28 Try.ntmps28 rfl rfl ?_
  have hp := Hp.start w0
  refine sc_seq ?_
  refine sc_region ?_
  refine st_v (ov_assign rfl) rfl ?_
  refine st_nil ?_
  refine pn_then ?_
  refine sc_seq ?_
  refine sc_seq ?_
  refine sc_region ?_
  refine st_v (ov_move rfl) rfl ?_
  refine st_v (ov_eqlP Try.underlying42 rfl rfl) rfl ?_
  refine st_nil ?_
  refine pn_then ?_
  refine sc_cond rfl (fun hc => ?_) (fun hc => ?_)
  · exact absurd hc (by simp)
  skip
  refine sc_skip ?_
  refine pn_then ?_
  refine sc_seq ?_
  refine sc_seq ?_
  refine sc_region ?_
  refine st_v (ov_move rfl) rfl ?_
  refine st_v (ov_nilCheck rfl) rfl ?_
  refine st_v (ov_field (q := _) rfl Try.underlying70 rfl sz3 rfl) rfl ?_
  refine st_v (ov_load1 rfl Try.underlying3 rfl ((hp.old hB (by simp)).at 0 (by first | rfl | omega) rfl)) rfl ?_
  refine st_v (ov_eql rfl rfl) rfl ?_
  refine st_v (ov_move rfl) rfl ?_
  refine st_split (j := 10) rfl (fun hb => ?_) (fun hb => ?_)
  ·
    have hb := of_decide_eq_true hb
    refine st_on (j := 5) rfl rfl ?_
    refine st_v (ov_move rfl) rfl ?_
    refine st_on (j := 5) rfl rfl ?_
    refine st_v (ov_nilCheck rfl) rfl ?_
    refine st_on (j := 5) rfl rfl ?_
    refine st_v (ov_field (q := _) rfl Try.underlying70 rfl sz31 rfl) rfl ?_
    refine st_on (j := 5) rfl rfl ?_
    refine st_v (ov_load1 rfl Try.underlying31 rfl ((hp.old hB (by simp)).at 3 (by first | rfl | omega) rfl)) rfl ?_
    refine st_on (j := 5) rfl rfl ?_
    refine st_v (ov_eql rfl rfl) rfl ?_
    refine st_v (ov_pick_t rfl rfl) rfl ?_
    refine st_nil ?_
    refine pn_then ?_
    refine sc_cond rfl (fun hc => ?_) (fun hc => ?_)
    ·
      have hc := of_decide_eq_true hc
      refine sc_seq ?_
      refine sc_region ?_
      refine st_v (ov_move rfl) rfl ?_
      refine st_v (ov_nilCheck rfl) rfl ?_
      refine st_v (ov_field (q := _) rfl Try.underlying70 rfl sz26 rfl) rfl ?_
      refine st_v (ov_load1 rfl Try.underlying26 rfl ((hp.old hB (by simp)).at 1 (by first | rfl | omega) rfl)) rfl ?_
      refine st_v (ov_len rfl Try.underlying26 rfl) rfl ?_
      refine st_v (ov_add_n (a := 4) (b := n) rfl rfl (by omega)) rfl ?_
      refine st_v (ov_assign rfl) rfl ?_
      refine st_nil ?_
      refine pn_then ?_
      refine sc_ret ?_
      refine pr_then ?_
      refine pr_one rfl rfl ?_
      exact ⟨by rw [if_pos ⟨by omega, by omega⟩], hp.chg⟩
    ·
      have hc := of_decide_eq_false hc
      refine sc_skip ?_
      refine pn_then ?_
      refine sc_seq ?_
      refine sc_region ?_
      refine st_v (ov_move rfl) rfl ?_
      refine st_v (ov_nilCheck rfl) rfl ?_
      refine st_v (ov_field (q := _) rfl Try.underlying70 rfl sz26 rfl) rfl ?_
      refine st_v (ov_load1 rfl Try.underlying26 rfl ((hp.old hB (by simp)).at 1 (by first | rfl | omega) rfl)) rfl ?_
      refine st_v (ov_len rfl Try.underlying26 rfl) rfl ?_
      refine st_v (ov_assign rfl) rfl ?_
      refine st_nil ?_
      refine pn_then ?_
      refine sc_ret ?_
      refine pr_one rfl rfl ?_
      exact ⟨by rw [if_neg (by omega)], hp.chg⟩
  ·
    have hb := of_decide_eq_false hb
    refine st_off (j := 5) rfl rfl rfl rfl ?_
    refine st_off (j := 5) rfl rfl rfl rfl ?_
    refine st_off (j := 5) rfl rfl rfl rfl ?_
    refine st_off (j := 5) rfl rfl rfl rfl ?_
    refine st_off (j := 5) rfl rfl rfl rfl ?_
    refine st_v (ov_pick_f rfl rfl) rfl ?_
    refine st_nil ?_
    refine pn_then ?_
    refine sc_false rfl ?_
    refine sc_skip ?_
    refine pn_then ?_
    refine sc_seq ?_
    refine sc_region ?_
    refine st_v (ov_move rfl) rfl ?_
    refine st_v (ov_nilCheck rfl) rfl ?_
    refine st_v (ov_field (q := _) rfl Try.underlying70 rfl sz26 rfl) rfl ?_
    refine st_v (ov_load1 rfl Try.underlying26 rfl ((hp.old hB (by simp)).at 1 (by first | rfl | omega) rfl)) rfl ?_
    refine st_v (ov_len rfl Try.underlying26 rfl) rfl ?_
    refine st_v (ov_assign rfl) rfl ?_
    refine st_nil ?_
    refine pn_then ?_
    refine sc_ret ?_
    refine pr_one rfl rfl ?_
    exact ⟨by rw [if_neg (by omega)], hp.chg⟩

set_option maxRecDepth 100000 in
theorem fault_walk (r st : Nat) (g : Gs) (n want : Nat) (f : Int) (w0 : World) (hB : Cells w0 r 0 (rdr st g n want f)) :
    Calls Try.prog 30 #[.pointer (some ⟨r, 0, none⟩)] w0 fun e w' => e = .returned (.int .i64 f) ∧ Chg [] w0 w' := by
  refine calls_in Try.func30 Try.ntmps30 rfl rfl ?_
  have hp := Hp.start w0
  refine sc_seq ?_
  refine sc_region ?_
  refine st_v (ov_assign rfl) rfl ?_
  refine st_nil ?_
  refine pn_then ?_
  refine sc_seq ?_
  refine sc_seq ?_
  refine sc_region ?_
  refine st_v (ov_move rfl) rfl ?_
  refine st_v (ov_eqlP Try.underlying42 rfl rfl) rfl ?_
  refine st_nil ?_
  refine pn_then ?_
  refine sc_cond rfl (fun hc => ?_) (fun hc => ?_)
  · exact absurd hc (by simp)
  skip
  refine sc_skip ?_
  refine pn_then ?_
  refine sc_seq ?_
  refine sc_region ?_
  refine st_v (ov_move rfl) rfl ?_
  refine st_v (ov_nilCheck rfl) rfl ?_
  refine st_v (ov_field (q := _) rfl Try.underlying70 rfl sz31 rfl) rfl ?_
  refine st_v (ov_load1 rfl Try.underlying31 rfl ((hp.old hB (by simp)).at 3 (by first | rfl | omega) rfl)) rfl ?_
  refine st_v (ov_assign rfl) rfl ?_
  refine st_nil ?_
  refine pn_then ?_
  refine sc_ret ?_
  refine pr_one rfl rfl ?_
  exact ⟨rfl, hp.chg⟩

set_option maxRecDepth 100000 in
theorem faultq_walk (q : Nat) (hello : Bool) (g : Gs) (n : Nat) (f : Int) (w0 : World) (hB : Cells w0 q 0 (rdq hello g n f)) :
    Calls Try.prog 31 #[.pointer (some ⟨q, 0, none⟩)] w0 fun e w' => e = .returned (.int .i64 f) ∧ Chg [] w0 w' := by
  refine calls_in Try.func31 Try.ntmps31 rfl rfl ?_
  have hp := Hp.start w0
  refine sc_seq ?_
  refine sc_region ?_
  refine st_v (ov_assign rfl) rfl ?_
  refine st_nil ?_
  refine pn_then ?_
  refine sc_seq ?_
  refine sc_seq ?_
  refine sc_region ?_
  refine st_v (ov_move rfl) rfl ?_
  refine st_v (ov_eqlP Try.underlying43 rfl rfl) rfl ?_
  refine st_nil ?_
  refine pn_then ?_
  refine sc_cond rfl (fun hc => ?_) (fun hc => ?_)
  · exact absurd hc (by simp)
  skip
  refine sc_skip ?_
  refine pn_then ?_
  refine sc_seq ?_
  refine sc_region ?_
  refine st_v (ov_move rfl) rfl ?_
  refine st_v (ov_nilCheck rfl) rfl ?_
  refine st_v (ov_field (q := _) rfl Try.underlying72 rfl sz31 rfl) rfl ?_
  refine st_v (ov_load1 rfl Try.underlying31 rfl ((hp.old hB (by simp)).at 2 (by first | rfl | omega) rfl)) rfl ?_
  refine st_v (ov_assign rfl) rfl ?_
  refine st_nil ?_
  refine pn_then ?_
  refine sc_ret ?_
  refine pr_one rfl rfl ?_
  exact ⟨rfl, hp.chg⟩

set_option maxRecDepth 100000 in
theorem push_broken (r st : Nat) (g : Gs) (n want : Nat) (f : Int) (hf : f ≠ 0) (b : Value) (w0 : World) (hB : Cells w0 r 0 (rdr st g n want f)) :
    Calls Try.prog 25 #[.pointer (some ⟨r, 0, none⟩), b] w0 fun e w' => e = .returned (.tuple #[.slice none 0 0, .slice none 0 0, .int .i64 103]) ∧ Chg [] w0 w' := by
  refine calls_in Try.func25 Try.ntmps25 rfl rfl ?_
  have hp := Hp.start w0
  refine sc_seq ?_
  refine sc_region ?_
  refine st_v (ov_assign rfl) rfl ?_
  refine st_v (ov_assign rfl) rfl ?_
  refine st_v (ov_assign rfl) rfl ?_
  refine st_nil ?_
  refine pn_then ?_
  refine sc_scope ?_
  refine sc_seq ?_
  refine sc_region ?_
  refine st_v (ov_assign rfl) rfl ?_
  refine st_nil ?_
  refine pn_then ?_
  refine sc_seq ?_
  refine sc_region ?_
  refine st_v (ov_assign rfl) rfl ?_
  refine st_nil ?_
  refine pn_then ?_
  refine sc_seq ?_
  refine sc_seq ?_
  refine sc_region ?_
  refine st_v (ov_move rfl) rfl ?_
  refine st_v (ov_eqlP Try.underlying42 rfl rfl) rfl ?_
  refine st_nil ?_
  refine pn_then ?_
  refine sc_cond rfl (fun hc => ?_) (fun hc => ?_)
  · exact absurd hc (by simp)
  skip
  refine sc_skip ?_
  refine pn_then ?_
  refine sc_seq ?_
  refine sc_seq ?_
  refine sc_region ?_
  refine st_v (ov_move rfl) rfl ?_
  refine st_v (ov_nilCheck rfl) rfl ?_
  refine st_v (ov_field (q := _) rfl Try.underlying70 rfl sz31 rfl) rfl ?_
  refine st_v (ov_load1 rfl Try.underlying31 rfl ((hp.old hB (by simp)).at 3 (by first | rfl | omega) rfl)) rfl ?_
  refine st_v (ov_neq rfl rfl) rfl ?_
  refine st_nil ?_
  refine pn_then ?_
  refine sc_cond rfl (fun hc => ?_) (fun hc => ?_)
  rotate_left
  · exact absurd hc (by simpa using hf)
  refine sc_seq ?_
  refine sc_region ?_
  refine st_v (ov_assign rfl) rfl ?_
  refine st_v (ov_assign rfl) rfl ?_
  refine st_v (ov_assign rfl) rfl ?_
  refine st_nil ?_
  refine pn_then ?_
  refine sc_ret ?_
  refine pr_then ?_
  refine pr_ng ?_
  refine pr_three rfl rfl rfl rfl ?_
  exact ⟨rfl, hp.chg⟩

set_option maxRecDepth 100000 in
theorem pushq_broken (q : Nat) (hello : Bool) (g : Gs) (n : Nat) (f : Int) (hf : f ≠ 0) (b : Value) (w0 : World) (hB : Cells w0 q 0 (rdq hello g n f)) :
    Calls Try.prog 26 #[.pointer (some ⟨q, 0, none⟩), b] w0 fun e w' => e = .returned (.tuple #[.slice none 0 0, .slice none 0 0, .int .i64 103]) ∧ Chg [] w0 w' := by
  refine calls_in Try.func26 Try.ntmps26 rfl rfl ?_
  have hp := Hp.start w0
  refine sc_seq ?_
  refine sc_region ?_
  refine st_v (ov_assign rfl) rfl ?_
  refine st_v (ov_assign rfl) rfl ?_
  refine st_v (ov_assign rfl) rfl ?_
  refine st_nil ?_
  refine pn_then ?_
  refine sc_seq ?_
  refine sc_seq ?_
  refine sc_region ?_
  refine st_v (ov_move rfl) rfl ?_
  refine st_v (ov_eqlP Try.underlying43 rfl rfl) rfl ?_
  refine st_nil ?_
  refine pn_then ?_
  refine sc_cond rfl (fun hc => ?_) (fun hc => ?_)
  · exact absurd hc (by simp)
  skip
  refine sc_skip ?_
  refine pn_then ?_
  refine sc_seq ?_
  refine sc_seq ?_
  refine sc_region ?_
  refine st_v (ov_move rfl) rfl ?_
  refine st_v (ov_nilCheck rfl) rfl ?_
  refine st_v (ov_field (q := _) rfl Try.underlying72 rfl sz31 rfl) rfl ?_
  refine st_v (ov_load1 rfl Try.underlying31 rfl ((hp.old hB (by simp)).at 2 (by first | rfl | omega) rfl)) rfl ?_
  refine st_v (ov_neq rfl rfl) rfl ?_
  refine st_nil ?_
  refine pn_then ?_
  refine sc_cond rfl (fun hc => ?_) (fun hc => ?_)
  rotate_left
  · exact absurd hc (by simpa using hf)
  refine sc_seq ?_
  refine sc_region ?_
  refine st_v (ov_assign rfl) rfl ?_
  refine st_v (ov_assign rfl) rfl ?_
  refine st_v (ov_assign rfl) rfl ?_
  refine st_nil ?_
  refine pn_then ?_
  refine sc_ret ?_
  refine pr_then ?_
  refine pr_three rfl rfl rfl rfl ?_
  exact ⟨rfl, hp.chg⟩

set_option maxRecDepth 100000 in
theorem heldq_walk (q : Nat) (hello : Bool) (g : Gs) (all : List UInt8) (f : Int) (hf : f = 0) (w0 : World) (hB : Cells w0 q 0 (rdq hello g all.length f)) (h1 : Rd w0 (adr g.ob) (all.map B8)) (hcap : all.length ≤ g.cap) (hz : all.length ≤ 1099511627776) (hk : (readS hello all).2.2.1 ≤ all.length) :
    Calls Try.prog 29 #[.pointer (some ⟨q, 0, none⟩)] w0 fun e w' => e = .returned (.int .i64 ((all.length - (readS hello all).2.2.1 : Nat) : Int)) ∧ Chg [] w0 w' := by
  refine calls_in Try.func29 Try.ntmps29 rfl rfl ?_
  have hp := Hp.start w0
  refine sc_seq ?_
  refine sc_region ?_
  refine st_v (ov_assign rfl) rfl ?_
  refine st_nil ?_
  refine pn_then ?_
  refine sc_seq ?_
  refine sc_seq ?_
  refine sc_region ?_
  refine st_v (ov_move rfl) rfl ?_
  refine st_v (v := .bool false) ((ov_eqlP Try.underlying43 rfl rfl).is (by simp)) rfl ?_
  refine st_v (ov_move rfl) rfl ?_
  refine st_on (j := 2) rfl rfl ?_
  refine st_v (ov_move rfl) rfl ?_
  refine st_on (j := 2) rfl rfl ?_
  refine st_v (ov_nilCheck rfl) rfl ?_
  refine st_on (j := 2) rfl rfl ?_
  refine st_v (ov_field (q := _) rfl Try.underlying72 rfl sz31 rfl) rfl ?_
  refine st_on (j := 2) rfl rfl ?_
  refine st_v (ov_load1 rfl Try.underlying31 rfl ((hp.old hB (by simp)).at 2 (by first | rfl | omega) rfl)) rfl ?_
  refine st_on (j := 2) rfl rfl ?_
  refine st_v (v := .bool false) ((ov_neq rfl rfl).is (by simp [hf])) rfl ?_
  refine st_v (ov_pick_f rfl rfl) rfl ?_
  refine st_nil ?_
  refine pn_then ?_
  refine sc_false rfl ?_
  refine sc_skip ?_
  refine pn_then ?_
  refine sc_seq ?_
  refine sc_region ?_
  refine st_v (ov_move rfl) rfl ?_
  refine st_v (ov_move rfl) rfl ?_
  refine st_v (ov_nilCheck rfl) rfl ?_
  refine st_v (ov_field (q := _) rfl Try.underlying72 rfl sz26 rfl) rfl ?_
  refine st_v (ov_load1 rfl Try.underlying26 rfl ((hp.old hB (by simp)).at 1 (by first | rfl | omega) rfl)) rfl ?_
  refine st_call pl43 rfl rfl rfl (read_walk q hello g all.length f all _ _ _ (hp.old hB (by simp)) (h1.chg hp.chg) rfl hcap hz) ?_
  rintro _ w ⟨gm, gb, mt, bs, rfl, hL, _, _, _, _, _⟩
  refine ⟨_, rfl, ?_⟩
  replace hp := hp.backX (o1 := [⟨gm.ob, mt.flatMap hcs ++ gm.sp, 25⟩, ⟨gb.ob, bs.map Bs.v ++ gb.sp, 26⟩]) [] [3, 4] (by simp) rfl hL (by simp) rfl (by simp)
  refine st_v (ov_move rfl) rfl ?_
  refine st_v (ov_extract rfl rfl) rfl ?_
  refine st_v (ov_extract rfl rfl) rfl ?_
  refine st_v (ov_extract rfl rfl) rfl ?_
  refine st_v (ov_extract rfl rfl) rfl ?_
  refine st_v (ov_assign rfl) rfl ?_
  refine st_v (ov_assign rfl) rfl ?_
  refine st_v (ov_assign rfl) rfl ?_
  refine st_v (ov_assign rfl) rfl ?_
  refine st_nil ?_
  refine pn_then ?_
  refine sc_seq ?_
  refine sc_region ?_
  refine st_v (ov_move rfl) rfl ?_
  refine st_v (ov_nilCheck rfl) rfl ?_
  refine st_v (ov_field (q := _) rfl Try.underlying72 rfl sz26 rfl) rfl ?_
  refine st_v (ov_load1 rfl Try.underlying26 rfl ((hp.old hB (by simp)).at 1 (by first | rfl | omega) rfl)) rfl ?_
  refine st_v (ov_len rfl Try.underlying26 rfl) rfl ?_
  refine st_v (ov_move rfl) rfl ?_
  refine st_v (ov_sub_n (a := all.length) (b := (readS hello all).2.2.1) rfl rfl (by omega)) rfl ?_
  refine st_v (ov_assign rfl) rfl ?_
  refine st_nil ?_
  refine pn_then ?_
  refine sc_ret ?_
  refine pr_one rfl rfl ?_
  exact ⟨rfl, hp.chg⟩

set_option maxRecDepth 100000 in
theorem heldq_broken (q : Nat) (hello : Bool) (g : Gs) (n : Nat) (f : Int) (hf : f ≠ 0) (w0 : World) (hB : Cells w0 q 0 (rdq hello g n f)) :
    Calls Try.prog 29 #[.pointer (some ⟨q, 0, none⟩)] w0 fun e w' => e = .returned (.int .i64 0) ∧ Chg [] w0 w' := by
  refine calls_in Try.func29 Try.ntmps29 rfl rfl ?_
  have hp := Hp.start w0
  refine sc_seq ?_
  refine sc_region ?_
  refine st_v (ov_assign rfl) rfl ?_
  refine st_nil ?_
  refine pn_then ?_
  refine sc_seq ?_
  refine sc_seq ?_
  refine sc_region ?_
  refine st_v (ov_move rfl) rfl ?_
  refine st_v (v := .bool false) ((ov_eqlP Try.underlying43 rfl rfl).is (by simp)) rfl ?_
  refine st_v (ov_move rfl) rfl ?_
  refine st_on (j := 2) rfl rfl ?_
  refine st_v (ov_move rfl) rfl ?_
  refine st_on (j := 2) rfl rfl ?_
  refine st_v (ov_nilCheck rfl) rfl ?_
  refine st_on (j := 2) rfl rfl ?_
  refine st_v (ov_field (q := _) rfl Try.underlying72 rfl sz31 rfl) rfl ?_
  refine st_on (j := 2) rfl rfl ?_
  refine st_v (ov_load1 rfl Try.underlying31 rfl ((hp.old hB (by simp)).at 2 (by first | rfl | omega) rfl)) rfl ?_
  refine st_on (j := 2) rfl rfl ?_
  refine st_v (v := .bool true) ((ov_neq rfl rfl).is (by simp [hf])) rfl ?_
  refine st_v (ov_pick_f rfl rfl) rfl ?_
  refine st_nil ?_
  refine pn_then ?_
  refine sc_true rfl ?_
  refine sc_seq ?_
  refine sc_region ?_
  refine st_v (ov_assign rfl) rfl ?_
  refine st_nil ?_
  refine pn_then ?_
  refine sc_ret ?_
  refine pr_then ?_
  refine pr_one rfl rfl ?_
  exact ⟨rfl, hp.chg⟩

set_option maxRecDepth 100000 in
theorem sameh_walk (l : List Hl) {nl nm : Nat} (ao bo : Option Addr) (ca cb : Nat) (w0 : World) (h1 : Rd w0 ao (l.flatMap hcs)) (h2 : Rd w0 bo (l.flatMap hcs)) (hl : l.length = nl) (hm : l.length = nm) (hz : l.length ≤ 281474976710656) :
    Calls Try.prog 27 #[.slice ao nl ca, .slice bo nm cb] w0 fun e w' => e = .returned (.bool true) ∧ Chg [] w0 w' := by
  refine calls_in Try.func27 Try.ntmps27 rfl rfl ?_
  have hp := Hp.start w0
  subst hl
  have hm' := hm
  subst hm'
  refine sc_seq ?_
  refine sc_region ?_
  refine st_v (ov_assign rfl) rfl ?_
  refine st_nil ?_
  refine pn_then ?_
  refine sc_seq ?_
  refine sc_seq ?_
  refine sc_region ?_
  refine st_v (ov_move rfl) rfl ?_
  refine st_v (ov_len rfl Try.underlying48 rfl) rfl ?_
  refine st_v (ov_move rfl) rfl ?_
  refine st_v (ov_len rfl Try.underlying48 rfl) rfl ?_
  refine st_v (v := .bool false) ((ov_neq rfl rfl).is ((by simp))) rfl ?_
  refine st_nil ?_
  refine pn_then ?_
  refine sc_false rfl ?_
  refine sc_skip ?_
  refine pn_then ?_
  refine sc_seq ?_
  refine sc_seq ?_
  refine sc_region ?_
  refine st_v (ov_assign rfl) rfl ?_
  refine st_nil ?_
  refine pn_then ?_
  refine sc_block ?_
  refine sc_loopH1 (α := Nat) (kv := [(0, _), (1, _)]) (kl := []) (fun i kv => (5, .int .i64 ((i : Nat) : Int)) :: kv) (fun i kl => kl) (fun i => (i ≤ l.length)) (fun i => l.length - i) 0 hp (Sub.cons rfl (Sub.cons rfl (Sub.cons rfl (Sub.nil _)))) (LSub.nil _) ?_ ?_
  · exact (by first | omega | (simp; done) | (simp; omega) | (simp [*]; omega))
  intro i w hp hx
  have hi : i ≤ l.length := hx
  refine sc_seq ?_
  refine sc_seq ?_
  refine sc_region ?_
  refine st_v (ov_move rfl) rfl ?_
  refine st_v (ov_move rfl) rfl ?_
  refine st_v (ov_len rfl Try.underlying48 rfl) rfl ?_
  refine st_v (ov_lss rfl rfl) rfl ?_
  refine st_nil ?_
  refine pn_then ?_
  refine sc_cond rfl (fun hc => ?_) (fun hc => ?_)
  ·
    have hc := of_decide_eq_true hc
    refine sc_skip ?_
    refine pn_then ?_
    refine sc_seq ?_
    refine sc_block ?_
    refine sc_seq ?_
    refine sc_draws (by kernel_rfl) (by kernel_rfl) ?_
    replace hp := hp.drew
    refine ss_v (ov_move rfl) rfl ?_
    refine ss_v (ov_move rfl) rfl ?_
    obtain ⟨bb1, oo1, hadr1, hcl1⟩ := (h1.chg hp.chg).pos (by rw [flat_len hcs_len]; omega)
    refine ss_v (ov_indexR hadr1 rfl rfl Try.underlying48 sz25 (by omega)) rfl ?_
    refine ss_v (ov_loadN rfl Try.underlying25 rfl (sz25.trans (congrArg some (hcs_len _).symm)) (hcl1.elemN hcs_len (i) ⟨by rfl, by omega⟩ hz0)) rfl ?_
    refine ss_v (ov_move rfl) rfl ?_
    refine ss_v (ov_move rfl) rfl ?_
    obtain ⟨bb2, oo2, hadr2, hcl2⟩ := (h2.chg hp.chg).pos (by rw [flat_len hcs_len]; omega)
    refine ss_v (ov_indexR hadr2 rfl rfl Try.underlying48 sz25 (by omega)) rfl ?_
    refine ss_v (ov_loadN rfl Try.underlying25 rfl (sz25.trans (congrArg some (hcs_len _).symm)) (hcl2.elemN hcs_len (i) ⟨by rfl, by omega⟩ hz0)) rfl ?_
    refine ss_v (v := .bool false) ((ov_neqF Try.underlying25 rfl fl25 (sz25.trans (congrArg some (hcs_len _).symm)) gd25 rfl rfl (hcs_like _)).is ((by simp [eqv_self]))) rfl ?_
    refine ss_end ?_
    refine pn_then ?_
    refine sc_false rfl ?_
    refine sc_skip ?_
    refine pn_block ?_
    refine pn_then ?_
    refine sc_region ?_
    refine st_v (ov_move rfl) rfl ?_
    refine st_v (ov_add_n (a := i) (b := 1) rfl rfl (by omega)) rfl ?_
    refine st_v (ov_assign rfl) rfl ?_
    refine st_nil ?_
    refine pn_roundH1 (i + 1) hp (Sub.cons rfl (Sub.cons rfl (Sub.cons rfl (Sub.nil _)))) ?_ (LSub.nil _) ?_
    · omega
    exact (by first | omega | (simp; done) | (simp; omega) | (simp [*]; omega))
  ·
    have hc := of_decide_eq_false hc
    refine sc_exit ?_
    refine pe_then ?_
    refine pe_then ?_
    refine pe_hit ?_
    refine pn_then ?_
    refine sc_seq ?_
    refine sc_region ?_
    refine st_v (ov_assign rfl) rfl ?_
    refine st_nil ?_
    refine pn_then ?_
    refine sc_ret ?_
    refine pr_one rfl rfl ?_
    exact ⟨rfl, hp.chg⟩

end Go.Proofs.Ythebbenfmoknbaa
