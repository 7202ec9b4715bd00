/-
  Which scales may be, in plain terms.
-/
import Derived.Test.YtjdolgfhcjnniaaDoorStr
namespace Go.Proofs.YtjdolgfhcjnniaaDoor
open Go Go.RowKit

/-- May the scale be? -/
def good (b w : Int) : Bool := (b == 64 || b == 128 || b == 256 || b == 512 || b == 1024 || b == 2048 || b == 4096 || b == 8192 || b == 16384) && decide (1 ≤ w) && decide (w ≤ 32)
abbrev errno (n : Nat) : Value := .int .i64 ((n : Nat) : Int)
abbrev sca (b w : Int) : Value := .agg [Value.int .i64 b, Value.int .i64 w].toArray
def goodNo (b w : Int) : Int := if good b w then 0 else 10
set_option maxRecDepth 100000 in
theorem pow_all : (List.range 16385).all (fun b => b < 64 || ((b &&& (b - 1) == 0) == (b == 64 || b == 128 || b == 256 || b == 512 || b == 1024 || b == 2048 || b == 4096 || b == 8192 || b == 16384))) = true := by decide +kernel
theorem pow_two {b : Nat} (h1 : 64 ≤ b) (h2 : b ≤ 16384) : (b &&& (b - 1) = 0) ↔ (b == 64 || b == 128 || b == 256 || b == 512 || b == 1024 || b == 2048 || b == 4096 || b == 8192 || b == 16384) = true := by
  have := List.all_eq_true.1 pow_all b (List.mem_range.2 (by omega))
  simp only [Bool.or_eq_true, decide_eq_true_eq, beq_iff_eq] at this
  rcases this with h | h
  · omega
  · rw [← h]; simp
theorem and_i64 {b : Int} (h1 : 64 ≤ b) (h2 : b ≤ 16384) : IntKind.i64.wrap ((BitVec.ofInt IntKind.i64.bits b &&& BitVec.ofInt IntKind.i64.bits (b - 1)).toNat : Int) = ((b.toNat &&& (b.toNat - 1) : Nat) : Int) := by
  obtain ⟨n, rfl⟩ : ∃ n : Nat, b = n := ⟨b.toNat, by omega⟩
  have e1 : (BitVec.ofInt IntKind.i64.bits ((n : Nat) : Int)).toNat = n := by
    simp [IntKind.bits, BitVec.toNat_ofInt]; omega
  have e2 : (BitVec.ofInt IntKind.i64.bits (((n : Nat) : Int) - 1)).toNat = n - 1 := by
    simp [IntKind.bits, BitVec.toNat_ofInt]; omega
  rw [BitVec.toNat_and, e1, e2, Int.toNat_natCast]
  have hle : n &&& (n - 1) ≤ n := Nat.and_le_left
  exact wrap_i64 (by omega) (by omega)
theorem good_lo {b w : Int} (h : b < 64) : goodNo b w = 10 := by
  unfold goodNo good; rw [if_neg]; simp; omega
theorem good_hi {b w : Int} (h : 16384 < b) : goodNo b w = 10 := by
  unfold goodNo good; rw [if_neg]; simp; omega
theorem good_w {b w : Int} (h : w < 1 ∨ 32 < w) : goodNo b w = 10 := by
  unfold goodNo good; rw [if_neg]; simp; omega
theorem good_odd {b w : Int} (h1 : 64 ≤ b) (h2 : b ≤ 16384) (h : ¬ ((b.toNat &&& (b.toNat - 1) : Nat) : Int) = 0) : goodNo b w = 10 := by
  have hn : ¬ (b.toNat &&& (b.toNat - 1) = 0) := by omega
  rw [pow_two (by omega) (by omega)] at hn
  unfold goodNo good; rw [if_neg]; simp at hn ⊢; omega
theorem good_yes {b w : Int} (h1 : 64 ≤ b) (h2 : b ≤ 16384) (h : ((b.toNat &&& (b.toNat - 1) : Nat) : Int) = 0) (hw : 1 ≤ w ∧ w ≤ 32) : goodNo b w = 0 := by
  have hn : (b.toNat &&& (b.toNat - 1) = 0) := by omega
  rw [pow_two (by omega) (by omega)] at hn
  unfold goodNo good; rw [if_pos]; simp at hn ⊢; omega
set_option maxRecDepth 100000 in
theorem pow_of {k : Nat} (hk : k ≤ 8) : (64 * 2 ^ k = 64 ∨ 64 * 2 ^ k = 128 ∨ 64 * 2 ^ k = 256 ∨ 64 * 2 ^ k = 512 ∨ 64 * 2 ^ k = 1024 ∨ 64 * 2 ^ k = 2048 ∨ 64 * 2 ^ k = 4096 ∨ 64 * 2 ^ k = 8192 ∨ 64 * 2 ^ k = 16384) := by
  match k, hk with
  | 0, _ | 1, _ | 2, _ | 3, _ | 4, _ | 5, _ | 6, _ | 7, _ | 8, _ => simp
set_option maxRecDepth 100000 in
theorem good_at {k : Nat} {w : Int} (hk : k ≤ 8) (hw : 1 ≤ w ∧ w ≤ 32) : goodNo ((64 * 2 ^ k : Nat) : Int) w = 0 := by
  have := pow_of hk
  unfold goodNo good; rw [if_pos]; simp only [Bool.or_eq_true, Bool.and_eq_true, beq_iff_eq, decide_eq_true_eq]; omega
set_option maxRecDepth 100000 in
theorem good_never {b w : Int} (h : ∀ i, i < 9 → b ≠ ((64 * 2 ^ i : Nat) : Int)) : goodNo b w = 10 := by
  have h0 := h 0 (by omega); have h1 := h 1 (by omega); have h2 := h 2 (by omega); have h3 := h 3 (by omega); have h4 := h 4 (by omega); have h5 := h 5 (by omega); have h6 := h 6 (by omega); have h7 := h 7 (by omega); have h8 := h 8 (by omega)
  simp at h0 h1 h2 h3 h4 h5 h6 h7 h8
  unfold goodNo good; rw [if_neg]; simp; omega
set_option maxRecDepth 100000 in
theorem pow_end {k : Nat} (hk : k ≤ 8) (h : ¬ (((64 * 2 ^ k : Nat) : Int) < 16384)) : k = 8 := by
  match k, hk with
  | 0, _ | 1, _ | 2, _ | 3, _ | 4, _ | 5, _ | 6, _ | 7, _ => simp at h
  | 8, _ => rfl
set_option maxRecDepth 100000 in
theorem pow_mid {k : Nat} (hk : k ≤ 8) (h : ((64 * 2 ^ k : Nat) : Int) < 16384) : k + 1 ≤ 8 := by
  rcases Nat.lt_or_ge k 8 with h8 | h8
  · omega
  · obtain rfl : k = 8 := by omega
    simp at h
theorem goodNo_or (b w : Int) : goodNo b w = 0 ∨ goodNo b w = 10 := by
  unfold goodNo; split <;> simp

end Go.Proofs.YtjdolgfhcjnniaaDoor
