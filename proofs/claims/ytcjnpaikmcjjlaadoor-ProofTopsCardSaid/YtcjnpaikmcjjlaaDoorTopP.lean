/-
  The top of a proof, in plain terms.
-/
import Derived.Test.YtcjnpaikmcjjlaaDoorPrfP
namespace Go.Proofs.YtcjnpaikmcjjlaaDoor
open Go Go.RowKit

theorem check_zero {n low : Int} {q : Qr} (h : checkE n low q = 0) : 0 ≤ q.lv ∧ q.lv ≤ 48 ∧ logL q.len ≠ 0 ∧ 0 ≤ q.off ∧ 0 ≤ q.up ∧ q.up ≤ 48 ∧ logL q.len ≤ 9 ∧ uncL q ≤ 49 := by
  by_cases h0 : treeE n low = 0
  · obtain ⟨m, l, rfl, rfl, h1, h2, h3, h4⟩ := treeE_zero h0
    rw [checkE_ok h0] at h
    obtain ⟨f1, f2, f3, f4, f5, f6, f7, f8⟩ := fits_zero h
    exact ⟨by omega, by omega, f3, f4, f7, by omega, (logL_is f3).2, by unfold uncL; omega⟩
  · rw [checkE_bad h0] at h; exact absurd h h0
def topU (q : Qr) : Nat := logL q.len + uncL q
def topV (n low : Int) (q : Qr) : Int := if checkE n low q = 0 then q.lv + (topU q : Int) else 0
def topO (n low : Int) (q : Qr) : Int := if checkE n low q = 0 then ((q.off.toNat / 2 ^ topU q : Nat) : Int) else 0

end Go.Proofs.YtcjnpaikmcjjlaaDoor
