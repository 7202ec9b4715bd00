/-
  Trailing zeros of powers of two.
-/
import Derived.Test.YtcjnpaikmcjjlaaDoorEq
namespace Go.Proofs.YtcjnpaikmcjjlaaDoor
open Go Go.RowKit

def dbL : List UInt8 := [0, 1, 56, 2, 57, 49, 28, 3, 61, 58, 42, 50, 38, 29, 17, 4, 62, 47, 59, 36, 45, 43, 51, 22, 53, 39, 33, 30, 24, 18, 12, 5, 63, 55, 48, 27, 60, 41, 37, 16, 46, 35, 44, 21, 52, 32, 23, 11, 54, 26, 40, 15, 34, 20, 31, 10, 25, 14, 19, 9, 13, 8, 7, 6]
theorem dbL_len : dbL.length = 64 := by decide +kernel
def tzA (k : Nat) : Nat := 18446744073709551616 - 2 ^ k
def tzM (k : Nat) : Nat := 2 ^ k * 285870213051353865 % 18446744073709551616
def tzI (k : Nat) : Nat := tzM k >>> 58
theorem tz_all (k : Nat) (h : k < 63) : IntKind.u64.wrap (-((2 ^ k : Nat) : Int)) = ((tzA k : Nat) : Int) ∧ IntKind.u64.wrap ((BitVec.ofInt IntKind.u64.bits ((2 ^ k : Nat) : Int) &&& BitVec.ofInt IntKind.u64.bits ((tzA k : Nat) : Int)).toNat : Int) = ((2 ^ k : Nat) : Int) ∧ IntKind.u64.wrap (((2 ^ k : Nat) : Int) * 285870213051353865) = ((tzM k : Nat) : Int) ∧ tzI k < 64 ∧ (dbL.getD (tzI k) 0).toNat = k := by
  have all : ∀ i : Fin 63, IntKind.u64.wrap (-((2 ^ i.val : Nat) : Int)) = ((tzA i.val : Nat) : Int) ∧ IntKind.u64.wrap ((BitVec.ofInt IntKind.u64.bits ((2 ^ i.val : Nat) : Int) &&& BitVec.ofInt IntKind.u64.bits ((tzA i.val : Nat) : Int)).toNat : Int) = ((2 ^ i.val : Nat) : Int) ∧ IntKind.u64.wrap (((2 ^ i.val : Nat) : Int) * 285870213051353865) = ((tzM i.val : Nat) : Int) ∧ tzI i.val < 64 ∧ (dbL.getD (tzI i.val) 0).toNat = i.val := by decide +kernel
  exact all ⟨k, h⟩
section
variable {P : Program} {F : Fr} {w : World}
theorem ov_neg {ty t : TypeId} {x : Operand} {k : IntKind} {a : Int} (hx : evF F x = some (.int k a)) : OpV P F w (.unOp .neg t x) ty (.int k (k.wrap (-a))) := by
  intro n ac ha o ho _; simp [execOp, ho, ha.eval hx, Op.unary, Op.intArith]
end

end Go.Proofs.YtcjnpaikmcjjlaaDoor
