/-
  Primes, in plain terms.
-/
import Derived.Test.YtcpbfnbfbladoaaBytesP
import Derived.Test.YtcpbfnbfbladoaaFld
namespace Go.Proofs.Ytcpbfnbfbladoaa
open Go Go.RowKit

abbrev BI (k : Nat) : Value := .int .i64 ((k : Nat) : Int)
/-- Has n no divisor between 1 and itself? -/
def isP (n : Nat) : Bool := (List.range n).all fun d => decide (d < 2) || n % d != 0
/-- The primes below c. -/
def primesB (c : Nat) : List Nat := (List.range c).filter fun k => decide (2 ≤ k) && isP k
theorem primesB_succ (c : Nat) (hc : 2 ≤ c) : primesB (c + 1) = primesB c ++ (if isP c then [c] else []) := by
  unfold primesB
  rw [List.range_succ, List.filter_append]
  congr 1
  by_cases h : isP c = true <;> simp [h, hc]
theorem primesB_yes {c : Nat} (hc : 2 ≤ c) (h : isP c = true) : primesB (c + 1) = primesB c ++ [c] := by rw [primesB_succ c hc, if_pos h]
theorem primesB_no {c : Nat} (hc : 2 ≤ c) (h : isP c = false) : primesB (c + 1) = primesB c := by rw [primesB_succ c hc, if_neg (by simp [h])]; simp
set_option maxRecDepth 100000 in
theorem primes_all : (primesB 312).length = 64 := by decide +kernel
set_option maxRecDepth 100000 in
theorem sieve_all : (List.range 312).all (fun c => decide (c < 2) || ((primesB c).all (fun p => c % p != 0) == isP c)) = true := by decide +kernel
theorem sieve {c : Nat} (h2 : 2 ≤ c) (h : c < 312) : (primesB c).all (fun p => c % p != 0) = isP c := by
  have := List.all_eq_true.1 sieve_all c (List.mem_range.2 h)
  simp only [Bool.or_eq_true, decide_eq_true_eq, beq_iff_eq] at this
  rcases this with h | h
  · omega
  · exact h
theorem primesB_pre {c d : Nat} (h : c ≤ d) : primesB c <+: primesB d := by
  unfold primesB
  refine List.IsPrefix.filter _ ?_
  exact ⟨(List.range d).drop c, by rw [← List.take_append_drop c (List.range d), List.take_range, Nat.min_eq_left h]; simp⟩
theorem primes_lt {c n : Nat} (hn : n ≤ 64) (hl : (primesB c).length < n) : c < 312 := by
  rcases Nat.lt_or_ge c 312 with h | h
  · exact h
  · have := (primesB_pre h).length_le
    rw [primes_all] at this; omega
def primeBad (n : Int) : Prop := n < 0 ∨ 64 < n
instance (n : Int) : Decidable (primeBad n) := inferInstanceAs (Decidable (n < 0 ∨ 64 < n))
def primeL (n : Int) : List Nat := if primeBad n then [] else (primesB 312).take n.toNat
def primeE (n : Int) : Int := if primeBad n then 11 else 0
theorem primes_end {c n : Nat} (hc : c ≤ 312) (hl : (primesB c).length = n) : primesB c = (primesB 312).take n := by
  obtain ⟨r, hr⟩ := primesB_pre hc
  rw [← hr, ← hl, List.take_left]
theorem primesB_ge {c i : Nat} (h : i < (primesB c).length) : 2 ≤ (primesB c).getD i 0 := by
  rw [List.getD, List.getElem?_eq_getElem h, Option.getD_some]
  have := List.getElem_mem h
  unfold primesB at this
  rw [List.mem_filter] at this
  simp only [Bool.and_eq_true, decide_eq_true_eq] at this
  exact this.2.1
theorem primesB_len (c : Nat) : (primesB c).length ≤ c := by
  unfold primesB
  exact Nat.le_trans (List.length_filter_le _ _) (by simp)
theorem sieve_hit {c i : Nat} (h2 : 2 ≤ c) (h : c < 312) (hi : i < (primesB c).length) (hm : c % (primesB c).getD i 0 = 0) : isP c = false := by
  rw [← sieve h2 h, List.all_eq_false]
  refine ⟨_, List.getElem_mem hi, ?_⟩
  rw [List.getD, List.getElem?_eq_getElem hi, Option.getD_some] at hm
  simp [hm]
theorem sieve_none {c i : Nat} (h2 : 2 ≤ c) (h : c < 312) (hi : (primesB c).length ≤ i) (hno : ∀ j, j < i → j < (primesB c).length → c % (primesB c).getD j 0 ≠ 0) : isP c = true := by
  rw [← sieve h2 h, List.all_eq_true]
  intro p hp
  obtain ⟨j, hj, rfl⟩ := List.mem_iff_getElem.1 hp
  have := hno j (by omega) hj
  rw [List.getD, List.getElem?_eq_getElem hj, Option.getD_some] at this
  simpa using this
theorem isP_hit {c d : Nat} (h2 : 2 ≤ d) (hd : d < c) (hm : c % d = 0) : isP c = false := by
  unfold isP
  rw [List.all_eq_false]
  exact ⟨d, List.mem_range.2 hd, by simp [hm]; omega⟩
theorem isP_none {c d : Nat} (hd : c ≤ d) (hno : ∀ k, 2 ≤ k → k < d → c % k ≠ 0) : isP c = true := by
  unfold isP
  rw [List.all_eq_true]
  intro k hk
  have := List.mem_range.1 hk
  rcases Nat.lt_or_ge k 2 with h | h
  · simp [h]
  · simpa [h] using Or.inr (hno k h (by omega))
theorem primeL_len (n : Int) : (primeL n).length ≤ 64 := by
  unfold primeL
  split
  · simp
  · rw [List.length_take, primes_all]; omega
theorem mod_nat {c p : Nat} (h : ((c : Int) % (p : Int)) = 0) : c % p = 0 := by omega
theorem primesB_two : primesB 2 = [] := by unfold primesB isP; rfl
attribute [irreducible] primesB isP

theorem bad_p (n : Int) (h : n < 0 ∨ 64 < n) : primeL n = [] ∧ primeE n = 11 := by
  unfold primeL primeE
  rw [if_pos (show primeBad n from h), if_pos (show primeBad n from h)]; simp
theorem good_p (n : Nat) (h : n ≤ 64) : primeL n = (primesB 312).take n ∧ primeE n = 0 := by
  have hb : ¬ primeBad (n : Int) := fun h => by unfold primeBad at h; omega
  unfold primeL primeE
  rw [if_neg hb, if_neg hb]; simp

end Go.Proofs.Ytcpbfnbfbladoaa
