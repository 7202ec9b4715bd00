/-
  What the kernel counts.
-/
import Derived.Test.YtcpbfnbfbladoaaDoorTabP
namespace Go.Proofs.YtcpbfnbfbladoaaDoor
open Go Go.RowKit

/-- What the kernel counts. -/
theorem tables_next : ∀ i : Fin 64, nextB (if i.val = 0 then 1 else primeL.getD (i.val - 1) 0) (primeL.getD i.val 0) = true ∧ primeL.getD i.val 0 < 1000 := by decide +kernel
theorem tables_cube : ∀ i : Fin 64, rootL (kL.getD i.val 0).toNat 3 (primeL.getD i.val 0) = true := by decide +kernel
theorem tables_square : ∀ i : Fin 8, rootL (fL.getD i.val 0).toNat 2 (primeL.getD i.val 0) = true := by decide +kernel

theorem tables_pos (i : Nat) (h : i < 64) : 1 ≤ (if i = 0 then 1 else primeL.getD (i - 1) 0) := by
  have all : ∀ j : Fin 64, 1 ≤ (if j.val = 0 then 1 else primeL.getD (j.val - 1) 0) := by decide +kernel
  exact all ⟨i, h⟩

end Go.Proofs.YtcpbfnbfbladoaaDoor
