/-
  The padding, in plain terms.
-/
import Derived.Test.YtjdolgfhcjnniaaDoorBytesP
import Derived.Test.YtjdolgfhcjnniaaDoorFld
namespace Go.Proofs.YtjdolgfhcjnniaaDoor
open Go Go.RowKit

def zerosOf (n : Nat) : Nat := (64 - (n % 64 + 9) % 64) % 64
def be8 (m : Nat) (k : Nat) : List UInt8 := (List.range k).map fun i => UInt8.ofNat (m >>> (56 - 8 * i))
/-- What is laid behind a text of n bytes. -/
def padOf (n : Nat) : List UInt8 := 128 :: (List.replicate (zerosOf n) 0 ++ be8 (n * 8) 8)
theorem be8_len (m k : Nat) : (be8 m k).length = k := by simp [be8]
theorem be8_succ (m k : Nat) : be8 m (k + 1) = be8 m k ++ [UInt8.ofNat (m >>> (56 - 8 * k))] := by simp [be8, List.range_succ]
theorem pad_len (n : Nat) : (padOf n).length = 1 + zerosOf n + 8 := by simp [padOf, be8_len]; omega
theorem zerosOf_lt (n : Nat) : zerosOf n < 64 := Nat.mod_lt _ (by omega)
theorem zeros_more {n j : Nat} (hj : j ≤ zerosOf n) (h : (n % 64 + (1 + j) + 8) % 64 ≠ 0) : j + 1 ≤ zerosOf n := by
  rcases Nat.lt_or_ge j (zerosOf n) with h1 | h1
  · omega
  · exfalso
    have e : j = zerosOf n := by omega
    subst e
    unfold zerosOf at h
    omega
theorem zeros_end {n j : Nat} (hj : j ≤ zerosOf n) (h : (n % 64 + (1 + j) + 8) % 64 = 0) : j = zerosOf n := by
  unfold zerosOf at hj ⊢; omega
/-- The row while its last eight bytes are laid. -/
def padAt (n k : Nat) : List UInt8 := 128 :: (List.replicate (zerosOf n) 0 ++ be8 (n * 8) k ++ List.replicate (8 - k) 0)
theorem padAt_zero (n : Nat) : padAt n 0 = (List.replicate (1 + zerosOf n + 8) (0 : UInt8)).set 0 128 := by
  unfold padAt be8
  have e : List.replicate (1 + zerosOf n + 8) (0 : UInt8) = 0 :: (List.replicate (zerosOf n) 0 ++ List.replicate 8 0) := by
    rw [List.replicate_append_replicate, ← List.replicate_succ]; congr 1; omega
  rw [e, List.set_cons_zero]
  simp
theorem padAt_len (n k : Nat) (hk : k ≤ 8) : (padAt n k).length = 1 + zerosOf n + 8 := by simp [padAt, be8_len]; omega
theorem padAt_succ (n k : Nat) (hk : k < 8) : (padAt n k).set (1 + zerosOf n + k) (UInt8.ofNat ((n * 8) >>> (56 - 8 * k))) = padAt n (k + 1) := by
  unfold padAt
  rw [show 1 + zerosOf n + k = (zerosOf n + k) + 1 by omega, List.set_cons_succ, be8_succ, show 8 - k = (8 - (k + 1)) + 1 by omega, List.replicate_succ]
  congr 1
  rw [List.set_append_right _ _ (by simp [be8_len])]
  have e : zerosOf n + k - (List.replicate (zerosOf n) (0 : UInt8) ++ be8 (n * 8) k).length = 0 := by simp [be8_len]
  rw [e, List.set_cons_zero]
  simp
theorem padAt_end (n : Nat) : padAt n 8 = padOf n := by simp [padAt, padOf]

def padBad (n : Int) : Prop := n < 0 ∨ 2305843009213693951 < n
instance (n : Int) : Decidable (padBad n) := inferInstanceAs (Decidable (n < 0 ∨ 2305843009213693951 < n))
def padL (n : Int) : List UInt8 := if padBad n then [] else padOf n.toNat
def padE (n : Int) : Int := if padBad n then 11 else 0
theorem padL_len (n : Int) : (padL n).length ≤ 73 := by
  unfold padL
  split
  · simp
  · have := zerosOf_lt n.toNat
    rw [pad_len]; omega

end Go.Proofs.YtjdolgfhcjnniaaDoor
