/-
  Lengths of numbers.
-/
import Derived.Test.YtjdolgfhcjnniaaDoorEq
import Derived.Laws.MathBits
namespace Go.Proofs.YtjdolgfhcjnniaaDoor
open Go Go.RowKit

def len8L : List UInt8 := [0, 1, 2, 2, 3, 3, 3, 3, 4, 4, 4, 4, 4, 4, 4, 4, 5, 5, 5, 5, 5, 5, 5, 5, 5, 5, 5, 5, 5, 5, 5, 5, 6, 6, 6, 6, 6, 6, 6, 6, 6, 6, 6, 6, 6, 6, 6, 6, 6, 6, 6, 6, 6, 6, 6, 6, 6, 6, 6, 6, 6, 6, 6, 6, 7, 7, 7, 7, 7, 7, 7, 7, 7, 7, 7, 7, 7, 7, 7, 7, 7, 7, 7, 7, 7, 7, 7, 7, 7, 7, 7, 7, 7, 7, 7, 7, 7, 7, 7, 7, 7, 7, 7, 7, 7, 7, 7, 7, 7, 7, 7, 7, 7, 7, 7, 7, 7, 7, 7, 7, 7, 7, 7, 7, 7, 7, 7, 7, 8, 8, 8, 8, 8, 8, 8, 8, 8, 8, 8, 8, 8, 8, 8, 8, 8, 8, 8, 8, 8, 8, 8, 8, 8, 8, 8, 8, 8, 8, 8, 8, 8, 8, 8, 8, 8, 8, 8, 8, 8, 8, 8, 8, 8, 8, 8, 8, 8, 8, 8, 8, 8, 8, 8, 8, 8, 8, 8, 8, 8, 8, 8, 8, 8, 8, 8, 8, 8, 8, 8, 8, 8, 8, 8, 8, 8, 8, 8, 8, 8, 8, 8, 8, 8, 8, 8, 8, 8, 8, 8, 8, 8, 8, 8, 8, 8, 8, 8, 8, 8, 8, 8, 8, 8, 8, 8, 8, 8, 8, 8, 8, 8, 8, 8, 8, 8, 8, 8, 8, 8, 8, 8, 8, 8, 8, 8, 8]
theorem len8_get (i : Nat) (h : i < 256) : ((len8L.getD i 0).toNat) = bitLen i := by
  have all : ∀ j : Fin 256, (len8L.getD j.val 0).toNat = bitLen j.val := by decide +kernel
  exact all ⟨i, h⟩
theorem len8_len : len8L.length = 256 := by decide +kernel
theorem len_step {x b : Nat} (h : 2 ^ b ≤ x) : bitLen x = b + bitLen (x >>> b) := by
  rw [Nat.shiftRight_eq_div_pow]
  have : 0 < x / 2 ^ b := Nat.div_pos h (Nat.two_pow_pos b)
  exact bitLen_shift x b (by omega)
theorem len_cut {x y m b : Nat} (h : bitLen x = m + bitLen y) (hb : 2 ^ b ≤ y) : bitLen x = (m + b) + bitLen (y >>> b) := by
  rw [h, len_step hb]; omega
theorem len_half {x : Nat} (h : 0 < x) : bitLen x = 1 + bitLen (x / 2) := by
  by_cases h1 : x / 2 = 0
  · have : x = 1 := by omega
    subst this; decide
  · exact bitLen_shift x 1 (by simpa using h1)
theorem len_le {x b : Nat} (h : x < 2 ^ b) : bitLen x ≤ b := by
  unfold bitLen
  split
  · omega
  · rename_i h0
    have := (Nat.log2_lt h0).2 h
    omega
theorem len_63 {x : Nat} (h : x < 9223372036854775808) : bitLen x ≤ 63 := len_le h
theorem len_last {y : Nat} (h : y < 256) : (len8L.getD (UInt8.ofNat y).toNat 0).toNat = bitLen y := by
  rw [show (UInt8.ofNat y).toNat = y by simp; omega]; exact len8_get y h
theorem shr_lt {y a b : Nat} (h : y < a * 2 ^ b) : y >>> b < a := by
  rw [Nat.shiftRight_eq_div_pow]; exact Nat.div_lt_of_lt_mul (by rw [Nat.mul_comm]; exact h)

def hgt (n : Int) : Nat := if n < 1 then 0 else bitLen (n.toNat - 1)
def hgtE (n : Int) : Int := if n < 1 then 11 else 0

end Go.Proofs.YtjdolgfhcjnniaaDoor
