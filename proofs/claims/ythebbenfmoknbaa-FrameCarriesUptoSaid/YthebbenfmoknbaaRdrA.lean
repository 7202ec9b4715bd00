/-
  The walks of fill, turn, breaks, New.
-/
import Derived.Test.YthebbenfmoknbaaFacts
import Derived.Test.YthebbenfmoknbaaRdrP
import Derived.Test.YthebbenfmoknbaaMeetA
import Derived.Test.YthebbenfmoknbaaSplitA
namespace Go.Proofs.Ythebbenfmoknbaa
open Go Go.RowKit

set_option maxRecDepth 100000 in
theorem fill_walk (r stage : Nat) (g : Gs) (part : List UInt8) (want : Nat) (fault : Int) (b : List UInt8) {nb : Nat} (ao : Option Addr) (ca : Nat) (w0 : World) (hO : Owns w0 (rck r stage g part want fault)) (hcg : (part.map B8 ++ g.sp).length = g.cap * 1)
    (h1 : Rd w0 ao (b.map B8)) (hoff : Offs (rck r stage g part want fault) ao (b.map B8)) (hb : b.length = nb) (hca : nb ≤ ca) (hle : part.length ≤ want) (hwa : want ≤ 1099511627776) (hz : b.length ≤ 1099511627776) (n : Nat) (hn : n = min (want - part.length) b.length) :
    Calls Try.prog 40 #[.pointer (some ⟨r, 0, none⟩), .slice ao nb ca] w0 fun e w' => e = .returned (.slice (sla ao ca n 1) (nb - n) (ca - n)) ∧
      ∃ g' : Gs, Left w0 w' (rck r stage g part want fault) (rck r stage g' (part ++ b.take n) want fault) ∧ ((part ++ b.take n).map B8 ++ g'.sp).length = g'.cap * 1 := by
  refine calls_in Try.func40 Try.ntmps40 rfl rfl ?_
  have hp : Hp w0 (blks (rck r stage g part want fault)) [(0, ⟨some r, rdr stage g part.length want fault, 70⟩), (100, ⟨g.ob, part.map B8 ++ g.sp, 5⟩)] [] w0 := Hp.begin [0, 100] hO
  subst hb
  have hnw : part.length + n ≤ want := by omega
  refine sc_seq ?_
  refine sc_region ?_
  refine st_v (ov_assign rfl) rfl ?_
  refine st_nil ?_
  refine pn_then ?_
  refine sc_seq ?_
  refine sc_draws (by kernel_rfl) (by kernel_rfl) ?_
  replace hp := hp.drew
  refine ss_v (ov_move rfl) rfl ?_
  refine ss_v (ov_nilCheck rfl) rfl ?_
  refine ss_v (ov_field (q := 2) rfl Try.underlying70 rfl sz3 rfl) rfl ?_
  refine ss_v (ov_load1 rfl Try.underlying3 rfl ((hp.cells' (t := 0) rfl).at 2 (by simp) rfl)) rfl ?_
  refine ss_v (ov_move rfl) rfl ?_
  refine ss_v (ov_nilCheck rfl) rfl ?_
  refine ss_v (ov_field (q := 1) rfl Try.underlying70 rfl sz26 rfl) rfl ?_
  refine ss_v (ov_load1 rfl Try.underlying26 rfl ((hp.cells' (t := 0) rfl).at 1 (by simp) rfl)) rfl ?_
  refine ss_v (ov_len rfl Try.underlying26 rfl) rfl ?_
  refine ss_v (ov_sub_n (a := want) (b := part.length) rfl rfl (by omega)) rfl ?_
  refine ss_v (ov_move rfl) rfl ?_
  refine ss_v (ov_len rfl Try.underlying26 rfl) rfl ?_
  refine ss_v (ov_minN (m := n) rfl rfl (by omega)) rfl ?_
  refine ss_v (ov_assign rfl) rfl ?_
  refine ss_end ?_
  refine pn_then ?_
  refine sc_seq ?_
  obtain ⟨Hs, hHs⟩ := (hp.sub (L' := [(0, _), (100, _)]) (LSub.cons rfl (LSub.cons rfl (LSub.nil _)))).hs
  refine sc_plan Hs [0, 1, 2, 3, 4, 5, 6, 7, 9, 10] [] (.take 0 (.take 1 (.take 2 (.take 3 (.load 4 (.take 5 (.take 6 (.take 7 (.one 8 (.take 9 (.take 10 (.one 11 .nil)))))))))))) (by kernel_rfl) (by kernel_rfl) (by repeat (first | exact calm_body _ _ _ | refine calm_then ?_ | refine calm_block ?_ | refine calm_jump ?_ | refine calm_ng ?_)) ?_
  replace hp := hp.drew
  refine sp_take rfl (fun w => ov_move rfl) rfl ?_
  refine sp_take rfl (fun w => ov_move rfl) rfl ?_
  refine sp_take rfl (fun w => ov_nilCheck rfl) rfl ?_
  refine sp_take rfl (fun w => ov_field (q := 1) rfl Try.underlying70 rfl sz26 rfl) rfl ?_
  refine sp_load rfl ((hHs _).2 (hp.sub (LSub.cons rfl (LSub.cons rfl (LSub.nil _))))) (fun w hs => have hp := (hHs w).1 hs; ov_load1 rfl Try.underlying26 rfl ((hp.cells' (t := 0) rfl).at 1 (by simp) rfl)) rfl ?_
  refine sp_take rfl (fun w => ov_move rfl) rfl ?_
  refine sp_take rfl (fun w => ov_move rfl) rfl ?_
  refine sp_take rfl (fun w => ov_slice_hi Try.underlying26 sz5 rfl rfl (by omega)) rfl ?_
  refine sp_one rfl ?_
  refine st_append 100 g (xs := part.map B8) (news := (b.take n).map B8) (m := n) hp rfl rfl rfl rfl rfl Try.underlying26 in5 (by decide) rfl (by simp) hcg ((h1.chgL hp.chg hoff).takeM n) (by simp; omega) (one_all _) (by omega) (fun g2 w hp hcap hf100 => ?_)
  refine st_nil ?_
  refine sp_next (i := 8) (fun h => absurd h (by decide)) ?_
  rw [← List.map_append] at hp hcap
  have e2 : part.length + n = (part ++ b.take n).length := by simp; omega
  rw [e2]
  refine sp_take rfl (fun w => ov_nilCheck rfl) rfl ?_
  refine sp_take rfl (fun w => ov_field (q := 1) rfl Try.underlying70 rfl sz26 rfl) rfl ?_
  refine sp_one rfl ?_
  refine st_store1 0 hp rfl rfl rfl rfl sz26 (by simp) (fun w hp => ?_)
  simp only [List.set_cons_zero, List.set_cons_succ] at hp
  refine st_nil ?_
  refine sp_next (i := 11) (fun h => absurd h (by decide)) ?_
  refine sp_nil ?_
  refine pn_then ?_
  refine sc_seq ?_
  refine sc_region ?_
  refine st_v (ov_move rfl) rfl ?_
  refine st_v (ov_move rfl) rfl ?_
  refine st_v (ov_slice_lo Try.underlying26 sz5 rfl rfl (by omega)) rfl ?_
  rw [Int.toNat_natCast]
  refine st_v (ov_assign rfl) rfl ?_
  refine st_nil ?_
  refine pn_then ?_
  refine sc_ret ?_
  refine pr_one rfl rfl ?_
  exact ⟨rfl, g2, hp.left' (i := rck r stage g part want fault) [0, 100] (by simp) rfl, hcap⟩

set_option maxRecDepth 100000 in
theorem turn_walk (r stage : Nat) (g : Gs) (n want st2 want2 : Nat) (fault : Int) (w0 : World) (hO : Owns w0 [⟨some r, rdr stage g n want fault, 70⟩]) :
    Calls Try.prog 42 #[.pointer (some ⟨r, 0, none⟩), .int .i64 (st2 : Int), .int .i64 (want2 : Int)] w0 fun e w' => e = .returned (.tuple #[]) ∧ Left w0 w' [⟨some r, rdr stage g n want fault, 70⟩] [⟨some r, rdr st2 gnil 0 want2 fault, 70⟩] := by
  refine calls_in Try.func42 Try.ntmps42 rfl rfl ?_
  have hp : Hp w0 (blks [⟨some r, rdr stage g n want fault, 70⟩]) [(0, ⟨some r, rdr stage g n want fault, 70⟩)] [] w0 := Hp.begin [0] hO
  refine sc_region ?_
  refine st_v (ov_move rfl) rfl ?_
  refine st_v (ov_move rfl) rfl ?_
  refine st_v (ov_move rfl) rfl ?_
  refine st_v (ov_move rfl) rfl ?_
  refine st_v (ov_move rfl) rfl ?_
  refine st_v (ov_nilCheck rfl) rfl ?_
  refine st_v (ov_field (q := 0) rfl Try.underlying70 rfl sz3 rfl) rfl ?_
  refine st_store1 0 hp rfl rfl rfl rfl sz3 (by simp) (fun w hp => ?_)
  simp only [List.set_cons_zero, List.set_cons_succ] at hp
  refine st_v (ov_nilCheck rfl) rfl ?_
  refine st_v (ov_field (q := 2) rfl Try.underlying70 rfl sz3 rfl) rfl ?_
  refine st_store1 0 hp rfl rfl rfl rfl sz3 (by simp) (fun w hp => ?_)
  simp only [List.set_cons_zero, List.set_cons_succ] at hp
  refine st_v (ov_nilCheck rfl) rfl ?_
  refine st_v (ov_field (q := 1) rfl Try.underlying70 rfl sz26 rfl) rfl ?_
  refine st_store1 0 hp rfl rfl rfl rfl sz26 (by simp) (fun w hp => ?_)
  simp only [List.set_cons_zero, List.set_cons_succ] at hp
  refine st_nil ?_
  refine pn_end ?_
  refine pr_none rfl ?_
  exact ⟨rfl, hp.left' (i := [⟨some r, rdr stage g n want fault, 70⟩]) [0] (by simp) rfl⟩

set_option maxRecDepth 100000 in
theorem breaks_walk (r stage : Nat) (g : Gs) (n want : Nat) (fault e0 : Int) (w0 : World) (hO : Owns w0 [⟨some r, rdr stage g n want fault, 70⟩]) :
    Calls Try.prog 41 #[.pointer (some ⟨r, 0, none⟩), .int .i64 e0] w0 fun e w' => e = .returned (.tuple #[]) ∧ Left w0 w' [⟨some r, rdr stage g n want fault, 70⟩] [⟨some r, rdr stage gnil 0 0 e0, 70⟩] := by
  refine calls_in Try.func41 Try.ntmps41 rfl rfl ?_
  have hp : Hp w0 (blks [⟨some r, rdr stage g n want fault, 70⟩]) [(0, ⟨some r, rdr stage g n want fault, 70⟩)] [] w0 := Hp.begin [0] hO
  refine sc_region ?_
  refine st_v (ov_move rfl) rfl ?_
  refine st_v (ov_move rfl) rfl ?_
  refine st_v (ov_move rfl) rfl ?_
  refine st_v (ov_move rfl) rfl ?_
  refine st_v (ov_nilCheck rfl) rfl ?_
  refine st_v (ov_field (q := 3) rfl Try.underlying70 rfl sz31 rfl) rfl ?_
  refine st_store1 0 hp rfl rfl rfl rfl sz31 (by simp) (fun w hp => ?_)
  simp only [List.set_cons_zero, List.set_cons_succ] at hp
  refine st_v (ov_nilCheck rfl) rfl ?_
  refine st_v (ov_field (q := 1) rfl Try.underlying70 rfl sz26 rfl) rfl ?_
  refine st_store1 0 hp rfl rfl rfl rfl sz26 (by simp) (fun w hp => ?_)
  simp only [List.set_cons_zero, List.set_cons_succ] at hp
  refine st_v (ov_nilCheck rfl) rfl ?_
  refine st_v (ov_field (q := 2) rfl Try.underlying70 rfl sz3 rfl) rfl ?_
  refine st_store1 0 hp rfl rfl rfl rfl sz3 (by simp) (fun w hp => ?_)
  simp only [List.set_cons_zero, List.set_cons_succ] at hp
  refine st_nil ?_
  refine pn_end ?_
  refine pr_none rfl ?_
  exact ⟨rfl, hp.left' (i := [⟨some r, rdr stage g n want fault, 70⟩]) [0] (by simp) rfl⟩

set_option maxRecDepth 100000 in
theorem new_walk (hello : Bool) (w0 : World) :
    Calls Try.prog 23 #[.bool hello] w0 fun e w' => ∃ r, e = .returned (.pointer (some ⟨r, 0, none⟩)) ∧ Left w0 w' [] (rck0 r hello) := by
  refine calls_in Try.func23 Try.ntmps23 rfl rfl ?_
  have hp := Hp.start w0
  refine sc_seq ?_
  refine sc_region ?_
  refine st_v (ov_assign rfl) rfl ?_
  refine st_nil ?_
  refine pn_then ?_
  refine sc_seq ?_
  refine sc_seq ?_
  refine sc_region ?_
  refine st_v (ov_move rfl) rfl ?_
  refine st_nil ?_
  refine pn_then ?_
  refine sc_cond rfl (fun hc => ?_) (fun hc => ?_)
  ·
    subst hc
    refine sc_seq ?_
    refine sc_region ?_
    refine st_v (ov_buildS (pl := #[(0, 1), (1, 1), (2, 1), (3, 1)]) (cells := rdr 0 gnil 0 68 0) rfl Try.underlying70 zl70 (by intro w; kernel_rfl) (by kernel_rfl)) rfl ?_
    refine st_box 5 hp rfl rfl rfl (fun b5 w hp => ?_)
    refine st_v (ov_assign rfl) rfl ?_
    refine st_nil ?_
    refine pn_then ?_
    refine sc_ret ?_
    refine pr_then ?_
    refine pr_one rfl rfl ?_
    replace hp := hp.nil 100 5
    exact ⟨_, rfl, hp.left' (i := []) [5, 100] (by simp) rfl⟩
  ·
    subst hc
    refine sc_skip ?_
    refine pn_then ?_
    refine sc_seq ?_
    refine sc_region ?_
    refine st_v (ov_buildS (pl := #[(0, 1), (1, 1), (2, 1), (3, 1)]) (cells := rdr 1 gnil 0 4 0) rfl Try.underlying70 zl70 (by intro w; kernel_rfl) (by kernel_rfl)) rfl ?_
    refine st_box 7 hp rfl rfl rfl (fun b7 w hp => ?_)
    refine st_v (ov_assign rfl) rfl ?_
    refine st_nil ?_
    refine pn_then ?_
    refine sc_ret ?_
    refine pr_one rfl rfl ?_
    replace hp := hp.nil 100 5
    exact ⟨_, rfl, hp.left' (i := []) [7, 100] (by simp) rfl⟩

end Go.Proofs.Ythebbenfmoknbaa
