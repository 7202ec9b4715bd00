/-
  Long numbers, roots, primes, in plain terms.
-/
import Derived.Test.YtcpbfnbfbladoaaDoorListP
import Derived.Test.YtcpbfnbfbladoaaDoorCompP
import Derived.Test.YtcpbfnbfbladoaaDoorStreamP
namespace Go.Proofs.YtcpbfnbfbladoaaDoor
open Go Go.RowKit

/-- A row of numbers that are not negative. -/
def NI (n : Nat) : Value := .int .i64 (n : Int)
theorem ni_one (l : List Nat) : ∀ u ∈ l.map NI, u.oneCell' = true := fun u hu => by
  obtain ⟨n, _, rfl⟩ := List.mem_map.1 hu; rfl
/-- times: the inner loop's row and carry behind k rounds; the outer loop's row behind i rounds. -/
def inn (x : Nat) (b : List Nat) (i : Nat) (p : List Nat) : Nat → List Nat × Nat
  | 0 => (p, 0)
  | k + 1 => ((inn x b i p k).1.set (i + k) (((inn x b i p k).1.getD (i + k) 0 + x * b.getD k 0 + (inn x b i p k).2) % 65536), ((inn x b i p k).1.getD (i + k) 0 + x * b.getD k 0 + (inn x b i p k).2) / 65536)
def out (a b : List Nat) : Nat → List Nat
  | 0 => List.replicate (a.length + b.length) 0
  | i + 1 => (inn (a.getD i 0) b i (out a b i) b.length).1.set (i + b.length) ((inn (a.getD i 0) b i (out a b i) b.length).1.getD (i + b.length) 0 + (inn (a.getD i 0) b i (out a b i) b.length).2)
def timesL (a b : List Nat) : List Nat := out a b a.length
def Dig (l : List Nat) : Prop := ∀ j, l.getD j 0 < 65536
theorem inn_len (x : Nat) (b : List Nat) (i : Nat) (p : List Nat) : ∀ k, (inn x b i p k).1.length = p.length
  | 0 => rfl
  | k + 1 => by rw [inn, List.length_set, inn_len x b i p k]
theorem out_len (a b : List Nat) : ∀ i, (out a b i).length = a.length + b.length
  | 0 => by simp [out]
  | i + 1 => by rw [out, List.length_set, inn_len, out_len a b i]
theorem getD_set (l : List Nat) (i j v : Nat) : (l.set i v).getD j 0 = if i = j ∧ i < l.length then v else l.getD j 0 := by
  rw [List.getD, List.getD, List.getElem?_set]
  by_cases h : i = j
  · subst h
    by_cases h2 : i < l.length
    · rw [if_pos rfl, if_pos h2, if_pos ⟨rfl, h2⟩]; rfl
    · rw [if_pos rfl, if_neg h2, if_neg (fun h => h2 h.2), List.getElem?_eq_none (by omega)]
  · rw [if_neg h, if_neg (fun h2 => h h2.1)]
theorem inn_dig {x : Nat} {b : List Nat} {i : Nat} {p : List Nat} (hp : Dig p) (hx : x < 65536) (hb : Dig b) : ∀ k, Dig (inn x b i p k).1 ∧ (inn x b i p k).2 < 65536
  | 0 => ⟨hp, by show 0 < 65536; omega⟩
  | k + 1 => by
    obtain ⟨h1, h2⟩ := inn_dig (i := i) hp hx hb k
    have h3 := h1 (i + k)
    have h4 : x * b.getD k 0 ≤ 65535 * 65535 := Nat.mul_le_mul (by omega) (by have := hb k; omega)
    rw [inn]
    refine ⟨fun j => ?_, by show _ / 65536 < 65536; omega⟩
    show ((inn x b i p k).1.set _ _).getD j 0 < 65536
    rw [getD_set]
    split
    · omega
    · exact h1 j
theorem inn_far {x : Nat} {b : List Nat} {i : Nat} {p : List Nat} {j : Nat} : ∀ k, i + k ≤ j → (inn x b i p k).1.getD j 0 = p.getD j 0
  | 0, _ => rfl
  | k + 1, h => by
    rw [inn]
    show ((inn x b i p k).1.set _ _).getD j 0 = _
    rw [getD_set, if_neg (fun h2 => by omega), inn_far k (by omega)]
theorem out_far {a b : List Nat} {j : Nat} : ∀ i, i + b.length ≤ j → (out a b i).getD j 0 = 0
  | 0, _ => by
    rw [out, List.getD]
    by_cases h : j < a.length + b.length
    · rw [List.getElem?_replicate, if_pos h]; rfl
    · rw [List.getElem?_replicate, if_neg h]; rfl
  | i + 1, h => by
    rw [out, getD_set, if_neg (fun h2 => by omega), inn_far _ (by omega), out_far i (by omega)]
theorem out_dig {a b : List Nat} (ha : Dig a) (hb : Dig b) : ∀ i, Dig (out a b i)
  | 0 => fun j => by
    by_cases h : j < a.length + b.length
    · rw [out, List.getD, List.getElem?_replicate, if_pos h]; show 0 < 65536; omega
    · rw [out, List.getD, List.getElem?_replicate, if_neg h]; show 0 < 65536; omega
  | i + 1 => fun j => by
    obtain ⟨h1, h2⟩ := inn_dig (i := i) (out_dig ha hb i) (ha i) hb b.length
    rw [out, getD_set]
    split
    · rw [inn_far _ (Nat.le_refl _), out_far i (Nat.le_refl _)]; omega
    · exact h1 j
theorem times_dig {a b : List Nat} (ha : Dig a) (hb : Dig b) : Dig (timesL a b) := out_dig ha hb _
theorem times_len (a b : List Nat) : (timesL a b).length = a.length + b.length := out_len a b _
def wholeL (n : Nat) : List Nat := [n % 65536, n / 65536 % 65536, n / 4294967296]
theorem whole_dig {n : Nat} (h : n < 281474976710656) : Dig (wholeL n) := fun j => by
  match j with
  | 0 => show n % 65536 < 65536; omega
  | 1 => show n / 65536 % 65536 < 65536; omega
  | 2 => show n / 4294967296 < 65536; omega
  | k + 3 => show 0 < 65536; omega
def powL (n : Nat) : Nat → List Nat
  | 0 => [1]
  | k + 1 => timesL (powL n k) (wholeL n)
theorem pow_dig {n : Nat} (h : n < 281474976710656) : ∀ k, Dig (powL n k)
  | 0 => fun j => by
    match j with
    | 0 => show 1 < 65536; omega
    | k + 1 => show 0 < 65536; omega
  | k + 1 => times_dig (pow_dig h k) (whole_dig h)
theorem pow_len (n : Nat) : ∀ k, (powL n k).length = 1 + 3 * k
  | 0 => rfl
  | k + 1 => by rw [powL, times_len, pow_len n k]; show 1 + 3 * k + 3 = _; omega
/-- atMost, from place i down. -/
def leN (a b : List Nat) : Nat → Bool
  | 0 => true
  | i + 1 => if a.getD i 0 ≠ b.getD i 0 then decide (a.getD i 0 < b.getD i 0) else leN a b i
def leL (a b : List Nat) : Bool := leN a b (max a.length b.length)
/-- root's look at w. -/
def lookL (word k p w : Nat) : Bool := leL (powL (w * 4294967296 + word) k) (timesL (powL 4294967296 k) (wholeL p)) && !leL (powL (w * 4294967296 + word + 1) k) (timesL (powL 4294967296 k) (wholeL p))
def rootL (word k p : Nat) : Bool := (List.range 64).any (lookL word k p)
/-- Has c a divisor from 2 on, below d? -/
def hasD (c d : Nat) : Bool := (List.range d).any fun e => decide (2 ≤ e) && decide (c % e = 0)
theorem hasD_succ (c d : Nat) : hasD c (d + 1) = (hasD c d || (decide (2 ≤ d) && decide (c % d = 0))) := by
  unfold hasD; rw [List.range_succ, List.any_append]; simp
def nextB (n m : Nat) : Bool := decide (n < m) && decide (1 < m) && !hasD m m && (List.range m).all fun c => decide (c ≤ n) || decide (c ≤ 1) || hasD c c
def primeL : List Nat := [2, 3, 5, 7, 11, 13, 17, 19, 23, 29, 31, 37, 41, 43, 47, 53, 59, 61, 67, 71, 73, 79, 83, 89, 97, 101, 103, 107, 109, 113, 127, 131, 137, 139, 149, 151, 157, 163, 167, 173, 179, 181, 191, 193, 197, 199, 211, 223, 227, 229, 233, 239, 241, 251, 257, 263, 269, 271, 277, 281, 283, 293, 307, 311]

theorem next_parts {n m : Nat} (h : nextB n m = true) : n < m ∧ 1 < m ∧ hasD m m = false ∧ ∀ c, c < m → n < c → 1 < c → hasD c c = true := by
  unfold nextB at h
  simp only [Bool.and_eq_true, decide_eq_true_eq, Bool.not_eq_true', List.all_eq_true, List.mem_range, Bool.or_eq_true] at h
  obtain ⟨⟨⟨h1, h2⟩, h3⟩, h4⟩ := h
  refine ⟨h1, h2, h3, fun c hc hn h1c => ?_⟩
  rcases h4 c hc with (h5 | h5) | h5
  · omega
  · omega
  · exact h5

end Go.Proofs.YtcpbfnbfbladoaaDoor
