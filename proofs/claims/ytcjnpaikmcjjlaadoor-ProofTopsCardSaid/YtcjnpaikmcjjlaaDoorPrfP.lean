/-
  Trees and queries, in plain terms.
-/
import Derived.Test.YtcjnpaikmcjjlaaDoorBitP
import Derived.Test.YtcjnpaikmcjjlaaDoorListP
namespace Go.Proofs.YtcjnpaikmcjjlaaDoor
open Go Go.RowKit

/-- A query, and its cells. -/
structure Qr where
  root : List UInt8
  hr : root.length = 32
  lv : Int
  off : Int
  len : Int
  up : Int
def qcs (q : Qr) : List Value := q.root.map B8 ++ [.int .i64 q.lv, .int .i64 q.off, .int .i64 q.len, .int .i64 q.up]
theorem qcs_len (q : Qr) : (qcs q).length = 36 := by simp [qcs, q.hr]
theorem qcs_get (q : Qr) : (qcs q)[32]? = some (.int .i64 q.lv) ∧ (qcs q)[33]? = some (.int .i64 q.off) ∧ (qcs q)[34]? = some (.int .i64 q.len) ∧ (qcs q)[35]? = some (.int .i64 q.up) := by
  have h : (q.root.map B8).length = 32 := by simp [q.hr]
  unfold qcs
  refine ⟨?_, ?_, ?_, ?_⟩ <;> (rw [List.getElem?_append_right (by omega), h]; rfl)
def I64 (n : Int) : Prop := -9223372036854775808 ≤ n ∧ n ≤ 9223372036854775807
def QOk (q : Qr) : Prop := I64 q.lv ∧ I64 q.off ∧ I64 q.len ∧ I64 q.up
/-- May there be such a tree? -/
def treeE (n low : Int) : Int := if n < 1 ∨ 1048576 < n then 79 else if low < 0 ∨ 48 - (bitLen (n.toNat - 1) : Int) < low then 60 else 0
def topH (n low : Int) : Int := if treeE n low = 0 then low + (bitLen (n.toNat - 1) : Int) else 0
theorem len_20 {m : Nat} (h : m ≤ 1048576) : bitLen (m - 1) ≤ 20 := len_le (by omega)
theorem treeE_zero {n low : Int} (h : treeE n low = 0) : ∃ m l : Nat, n = (m : Int) ∧ low = (l : Int) ∧ 1 ≤ m ∧ m ≤ 1048576 ∧ l + bitLen (m - 1) ≤ 48 ∧ bitLen (m - 1) ≤ 20 := by
  unfold treeE at h
  split at h
  · cases h
  · split at h
    · cases h
    · refine ⟨n.toNat, low.toNat, by omega, by omega, by omega, by omega, ?_, len_20 (by omega)⟩
      have := len_20 (m := n.toNat) (by omega)
      omega
theorem rise_is {n h : Nat} (hn : 1 ≤ n) (h1 : n ≤ 2 ^ h) (h2 : h = 0 ∨ 2 ^ (h - 1) < n) : bitLen (n - 1) = h := by
  obtain ⟨a, b⟩ := bitLen_spec (n - 1)
  rcases Nat.lt_trichotomy (bitLen (n - 1)) h with hlt | he | hgt
  · rcases h2 with h2 | h2
    · omega
    · have : 2 ^ bitLen (n - 1) ≤ 2 ^ (h - 1) := Nat.pow_le_pow_right (by omega) (by omega)
      omega
  · exact he
  · by_cases h0 : n - 1 = 0
    · rw [h0] at hgt; simp [bitLen] at hgt
    · have := b h0
      have h3 : 2 ^ h ≤ 2 ^ (bitLen (n - 1) - 1) := Nat.pow_le_pow_right (by omega) (by omega)
      omega
theorem pow_lt20 {h n : Nat} (h1 : 2 ^ h < n) (hn : n ≤ 1048576) : h < 20 := by
  rcases Nat.lt_or_ge h 20 with h2 | h2
  · exact h2
  · have : 2 ^ 20 ≤ 2 ^ h := Nat.pow_le_pow_right (by omega) h2
    omega
theorem pow_le9 {h : Nat} (h1 : 2 ^ h ≤ 512) : h ≤ 9 := by
  rcases Nat.lt_or_ge h 10 with h2 | h2
  · omega
  · have : 2 ^ 10 ≤ 2 ^ h := Nat.pow_le_pow_right (by omega) h2
    omega
/-- The power of two that a length is. -/
def logL (x : Int) : Nat := if x = 2 then 1 else if x = 4 then 2 else if x = 8 then 3 else if x = 16 then 4 else if x = 32 then 5 else if x = 64 then 6 else if x = 128 then 7 else if x = 256 then 8 else if x = 512 then 9 else 0
theorem logL_pow {k : Nat} {x : Int} (h1 : 1 ≤ k) (h2 : k ≤ 9) (h : ((2 ^ k : Nat) : Int) = x) : logL x = k := by
  subst h
  rcases (by omega : k = 1 ∨ k = 2 ∨ k = 3 ∨ k = 4 ∨ k = 5 ∨ k = 6 ∨ k = 7 ∨ k = 8 ∨ k = 9) with rfl | rfl | rfl | rfl | rfl | rfl | rfl | rfl | rfl <;> decide
theorem logL_none {x : Int} (h : ∀ j, 1 ≤ j → j < 10 → ((2 ^ j : Nat) : Int) ≠ x) : logL x = 0 := by
  have h1 := h 1 (by omega) (by omega); have h2 := h 2 (by omega) (by omega); have h3 := h 3 (by omega) (by omega)
  have h4 := h 4 (by omega) (by omega); have h5 := h 5 (by omega) (by omega); have h6 := h 6 (by omega) (by omega)
  have h7 := h 7 (by omega) (by omega); have h8 := h 8 (by omega) (by omega); have h9 := h 9 (by omega) (by omega)
  unfold logL
  rw [if_neg (fun e => h1 (by rw [e]; rfl)), if_neg (fun e => h2 (by rw [e]; rfl)), if_neg (fun e => h3 (by rw [e]; rfl)), if_neg (fun e => h4 (by rw [e]; rfl)), if_neg (fun e => h5 (by rw [e]; rfl)), if_neg (fun e => h6 (by rw [e]; rfl)), if_neg (fun e => h7 (by rw [e]; rfl)), if_neg (fun e => h8 (by rw [e]; rfl)), if_neg (fun e => h9 (by rw [e]; rfl))]
theorem logL_range {x : Int} (h : logL x ≠ 0) : 2 ≤ x ∧ x ≤ 512 := by
  unfold logL at h
  repeat' split at h
  all_goals omega
theorem logL_out {x : Int} (h : x < 2 ∨ 512 < x) : logL x = 0 := by
  rcases Nat.eq_zero_or_pos (logL x) with h1 | h1
  · exact h1
  · have := logL_range (x := x) (by omega); omega
theorem logL_and {n : Nat} (h : 2 ≤ n ∧ n ≤ 512) : logL (n : Int) = 0 ↔ n &&& (n - 1) ≠ 0 := by
  have all : ∀ i : Fin 513, 2 ≤ i.val → (logL (i.val : Int) = 0 ↔ i.val &&& (i.val - 1) ≠ 0) := by decide +kernel
  exact all ⟨n, by omega⟩ h.1
/-- Does a query fit a tree? -/
def fitsE (low top : Nat) (q : Qr) : Int :=
  if q.lv < low ∨ top ≤ q.lv then 70 else if logL q.len = 0 then 71 else
  if q.off < 0 ∨ q.off % q.len ≠ 0 ∨ ((2 ^ (top - q.lv.toNat) : Nat) : Int) - q.len < q.off then 72 else if q.up < 0 ∨ top - q.lv ≤ q.up then 73 else 0
def checkE (n low : Int) (q : Qr) : Int := if treeE n low = 0 then fitsE low.toNat (low.toNat + bitLen (n.toNat - 1)) q else treeE n low
theorem checkE_bad {n low : Int} {q : Qr} (h : treeE n low ≠ 0) : checkE n low q = treeE n low := if_neg h
theorem checkE_ok {m l : Nat} {q : Qr} (h : treeE m l = 0) : checkE m l q = fitsE l (l + bitLen (m - 1)) q := by
  unfold checkE; rw [if_pos h]; rfl

theorem logL_is {x : Int} (h : logL x ≠ 0) : x = ((2 ^ logL x : Nat) : Int) ∧ logL x ≤ 9 := by
  have hr := logL_range h
  have all : ∀ i : Fin 513, logL (i.val : Int) ≠ 0 → i.val = 2 ^ logL (i.val : Int) ∧ logL (i.val : Int) ≤ 9 := by decide +kernel
  obtain ⟨n, rfl⟩ : ∃ n : Nat, x = (n : Int) := ⟨x.toNat, by omega⟩
  obtain ⟨h1, h2⟩ := all ⟨n, by omega⟩ h
  exact ⟨congrArg Nat.cast h1, h2⟩
def uncL (q : Qr) : Nat := (q.up - logL q.len + 1).toNat
/-- What a query that fits is bound by. -/
theorem fits_zero {low top : Nat} {q : Qr} (h : fitsE low top q = 0) : (low : Int) ≤ q.lv ∧ q.lv < top ∧ logL q.len ≠ 0 ∧ 0 ≤ q.off ∧ q.off % q.len = 0 ∧ q.off ≤ ((2 ^ (top - q.lv.toNat) : Nat) : Int) - q.len ∧ 0 ≤ q.up ∧ q.up < top - q.lv := by
  unfold fitsE at h
  split at h
  · cases h
  · split at h
    · cases h
    · split at h
      · cases h
      · split at h
        · cases h
        · rename_i h1 h2 h3 h4
          refine ⟨by omega, by omega, h2, ?_, ?_, ?_, by omega, by omega⟩
          · exact Int.not_lt.1 fun h => h3 (.inl h)
          · exact Decidable.not_not.1 fun h => h3 (.inr (.inl h))
          · exact Int.not_lt.1 fun h => h3 (.inr (.inr h))
def amountL (q : Qr) : Int := if fitsE 0 48 q = 0 then q.len + uncL q else 0

end Go.Proofs.YtcjnpaikmcjjlaaDoor
