/-
  Layers, in plain terms.
-/
import Derived.Test.YtjdolgfhcjnniaaDoorLeaP
import Derived.Test.YtjdolgfhcjnniaaDoorBitP
namespace Go.Proofs.YtjdolgfhcjnniaaDoor
open Go Go.RowKit

/-- A row, filled up to an even number. -/
def evL (z : Hs) (l : List Hs) : List Hs := if l.length % 2 = 1 then l ++ [z] else l
theorem evL_len (z : Hs) (l : List Hs) : (evL z l).length = 2 * ((l.length + 1) / 2) := by
  unfold evL; split
  · rw [List.length_append]; simp only [List.length_singleton]; omega
  · omega
theorem evL_get (z : Hs) (l : List Hs) (i : Nat) (z' : Hs) (hi : i < (evL z l).length) : (evL z l).getD i z' = l.getD i z := by
  rw [evL_len] at hi
  unfold evL; split
  · rcases Nat.lt_or_ge i l.length with h | h
    · rw [getD_append_left' h, List.getD, List.getD, List.getElem?_eq_getElem h]; rfl
    · rw [getD_append_right' h, show i - l.length = 0 by omega, List.getD, List.getD, List.getElem?_eq_none h]; rfl
  · rw [List.getD, List.getD, List.getElem?_eq_getElem (by omega)]; rfl
/-- The row above a row. -/
def upL (B W : Int) (z : Hs) (l : List Hs) : List Hs := (List.range ((l.length + 1) / 2)).map fun i => aboveL B W (l.getD (2 * i) z) (l.getD (2 * i + 1) z)
theorem upL_len (B W : Int) (z : Hs) (l : List Hs) : (upL B W z l).length = (l.length + 1) / 2 := by simp [upL]
theorem upL_get (B W : Int) (z : Hs) (l : List Hs) (i : Nat) (z' : Hs) (hi : i < (l.length + 1) / 2) : (upL B W z l).getD i z' = aboveL B W (l.getD (2 * i) z) (l.getD (2 * i + 1) z) := by
  unfold upL
  rw [List.getD, List.getElem?_map, List.getElem?_range hi]; rfl
def layL (B W : Int) (f : Nat) (row : List Hs) : Nat → List Hs
  | 0 => row
  | k + 1 => upL B W (zeroL B W (f + k)) (layL B W f row k)
def nodeL (B W : Int) (f : Nat) (row : List Hs) : Nat → Nat → Hs
  | 0, i => row.getD i (zeroL B W f)
  | k + 1, i => if row.length ≤ i * 2 ^ (k + 1) then zeroL B W (f + (k + 1)) else aboveL B W (nodeL B W f row k (2 * i)) (nodeL B W f row k (2 * i + 1))
theorem node_out {B W : Int} {f : Nat} {row : List Hs} {k i : Nat} (h : row.length ≤ i * 2 ^ k) : nodeL B W f row k i = zeroL B W (f + k) := by
  cases k with
  | zero => simp only [nodeL]; rw [List.getD, List.getElem?_eq_none (by simpa using h)]; rfl
  | succ k => simp only [nodeL]; rw [if_pos h]
theorem node_in {B W : Int} {f : Nat} {row : List Hs} {k i : Nat} (h : ¬ row.length ≤ i * 2 ^ (k + 1)) : nodeL B W f row (k + 1) i = aboveL B W (nodeL B W f row k (2 * i)) (nodeL B W f row k (2 * i + 1)) := by
  simp only [nodeL]; rw [if_neg h]
theorem two_mul_pow (i k : Nat) : 2 * i * 2 ^ k = i * 2 ^ (k + 1) := by rw [Nat.pow_succ, Nat.mul_comm (2 ^ k) 2, ← Nat.mul_assoc, Nat.mul_comm 2 i]
theorem lay_lt (B W : Int) (f : Nat) (row : List Hs) : ∀ k i, i < (layL B W f row k).length ↔ i * 2 ^ k < row.length
  | 0, i => by simp [layL]
  | k + 1, i => by
    simp only [layL, upL_len]
    rw [← two_mul_pow, ← lay_lt B W f row k (2 * i)]
    omega
theorem node_lay (B W : Int) (f : Nat) (row : List Hs) : ∀ k i, nodeL B W f row k i = (layL B W f row k).getD i (zeroL B W (f + k))
  | 0, i => rfl
  | k + 1, i => by
    by_cases h : row.length ≤ i * 2 ^ (k + 1)
    · have h1 : ¬ i < (layL B W f row (k + 1)).length := fun h2 => by have := (lay_lt B W f row (k + 1) i).1 h2; omega
      rw [node_out h, List.getD, List.getElem?_eq_none (by omega)]; rfl
    · rw [node_in h, node_lay B W f row k (2 * i), node_lay B W f row k (2 * i + 1)]
      have h1 : i < (layL B W f row (k + 1)).length := (lay_lt B W f row (k + 1) i).2 (by omega)
      simp only [layL, upL_len] at h1
      simp only [layL]
      rw [upL_get _ _ _ _ _ _ h1]
theorem lay_le (B W : Int) (f : Nat) (row : List Hs) (k : Nat) : (layL B W f row k).length ≤ row.length := by
  rcases Nat.eq_zero_or_pos (layL B W f row k).length with h | h
  · omega
  · have h1 := (lay_lt B W f row k ((layL B W f row k).length - 1)).1 (by omega)
    have h2 : ((layL B W f row k).length - 1) * 1 ≤ ((layL B W f row k).length - 1) * 2 ^ k := Nat.mul_le_mul_left _ (Nat.two_pow_pos k)
    omega
theorem lay_mul (B W : Int) (f : Nat) (row : List Hs) (k i : Nat) (h : i ≤ (layL B W f row k).length) : i * 2 ^ k ≤ row.length + 2 ^ k := by
  rcases Nat.eq_zero_or_pos i with h1 | h1
  · subst h1; rw [Nat.zero_mul]; exact Nat.zero_le _
  · have h2 := (lay_lt B W f row k (i - 1)).1 (by omega)
    have h3 : i * 2 ^ k = (i - 1) * 2 ^ k + 2 ^ k := by rw [← Nat.succ_mul]; congr 1; omega
    omega
/-- The height of a row of n. -/
theorem bit_pow {n : Nat} (h : 1 ≤ n) : n ≤ 2 ^ bitLen (n - 1) := by
  unfold bitLen
  split
  · omega
  · rename_i h0
    have := Nat.lt_log2_self (n := n - 1)
    omega
theorem bit_le20 {n : Nat} (h : n ≤ 1048576) : bitLen (n - 1) ≤ 20 := len_le (by omega)
theorem lay_one (B W : Int) (f : Nat) (row : List Hs) (k : Nat) (h1 : 1 ≤ row.length) (h2 : row.length ≤ 2 ^ k) : (layL B W f row k).length = 1 := by
  have a := (lay_lt B W f row k 0).2 (by omega)
  have b : ¬ 1 < (layL B W f row k).length := fun h => by have := (lay_lt B W f row k 1).1 h; omega
  omega
/-- May there be a tree over n nodes? -/
def rowE (B W : Int) (n : Nat) (from_ : Int) : Int := if goodNo B W ≠ 0 then goodNo B W else if n = 0 then 61 else if 1048576 < n then 62 else if from_ < 0 ∨ 48 - (bitLen (n - 1) : Int) < from_ then 60 else 0
def layE (B W : Int) (n : Nat) (from_ to_ : Int) : Int := if rowE B W n from_ ≠ 0 then rowE B W n from_ else if to_ < from_ ∨ from_ + (bitLen (n - 1) : Int) < to_ then 60 else 0
def layV (B W : Int) (row : List Hs) (from_ to_ : Int) : List Hs := if layE B W row.length from_ to_ = 0 then layL B W from_.toNat row (to_ - from_).toNat else []
def rootV (B W : Int) (row : List Hs) (from_ : Int) : Hs := if rowE B W row.length from_ = 0 then (layL B W from_.toNat row (bitLen (row.length - 1))).getD 0 hz0 else hz0
theorem rowE_ok {B W : Int} {n : Nat} {from_ : Int} (h : rowE B W n from_ = 0) : goodNo B W = 0 ∧ 1 ≤ n ∧ n ≤ 1048576 ∧ ∃ f : Nat, from_ = (f : Int) ∧ f + bitLen (n - 1) ≤ 48 := by
  unfold rowE at h
  split at h
  · rename_i h1; exact absurd h h1
  · split at h
    · cases h
    · split at h
      · cases h
      · split at h
        · cases h
        · refine ⟨by omega, by omega, by omega, from_.toNat, by omega, by omega⟩
theorem layE_ok {B W : Int} {n : Nat} {from_ to_ : Int} (h : layE B W n from_ to_ = 0) : rowE B W n from_ = 0 ∧ ∃ f k : Nat, from_ = (f : Int) ∧ to_ = ((f + k : Nat) : Int) ∧ k ≤ bitLen (n - 1) ∧ f + bitLen (n - 1) ≤ 48 := by
  unfold layE at h
  split at h
  · rename_i h1; exact absurd h h1
  · rename_i h1
    have h0 : rowE B W n from_ = 0 := by omega
    split at h
    · cases h
    · obtain ⟨_, _, _, f, hf, hb⟩ := rowE_ok h0
      refine ⟨h0, f, (to_ - from_).toNat, hf, by omega, by omega, hb⟩
theorem layV_ok {B W : Int} {row : List Hs} {f k : Nat} (h : layE B W row.length (f : Int) ((f + k : Nat) : Int) = 0) : layV B W row (f : Int) ((f + k : Nat) : Int) = layL B W f row k := by
  unfold layV; rw [if_pos h, Int.toNat_natCast]; congr 1; omega
theorem layV_bad {B W : Int} {row : List Hs} {from_ to_ : Int} (h : layE B W row.length from_ to_ ≠ 0) : layV B W row from_ to_ = [] := by unfold layV; rw [if_neg h]
theorem layV_len (B W : Int) (row : List Hs) (from_ to_ : Int) : (layV B W row from_ to_).length ≤ row.length := by
  unfold layV; split
  · exact lay_le _ _ _ _ _
  · simp
/-- A row that is written over by the one above it. -/
def mixL (u l : List Hs) (p : Nat) : List Hs := u.take p ++ l.drop p
theorem mix_len {u l : List Hs} {p : Nat} (h1 : p ≤ u.length) (h2 : p ≤ l.length) : (mixL u l p).length = l.length := by unfold mixL; simp; omega
theorem mix_get {u l : List Hs} {p i : Nat} (h1 : p ≤ u.length) (h2 : p ≤ i) (z : Hs) : (mixL u l p).getD i z = l.getD i z := by
  unfold mixL
  rw [getD_append_right' (by simp; omega), getD_drop, List.length_take, Nat.min_eq_left h1]
  congr 1; omega
theorem mix_zero (u l : List Hs) : mixL u l 0 = l := by simp [mixL]
theorem mix_drop {l : List Hs} {p : Nat} (h : p < l.length) (sp : List Value) : ((l.drop p).flatMap hcs ++ sp).drop 32 = (l.drop (p + 1)).flatMap hcs ++ sp := by
  rw [List.drop_eq_getElem_cons h, List.flatMap_cons, List.append_assoc, List.drop_left' (hcs_len _)]
theorem upL_ev (B W : Int) (z : Hs) (l : List Hs) (p : Nat) (hp : 2 * p < (evL z l).length) : aboveL B W ((evL z l).getD (2 * p) hz0) ((evL z l).getD (2 * p + 1) hz0) = (upL B W z l).getD p hz0 := by
  have h := evL_len z l
  rw [evL_get _ _ _ _ hp, evL_get _ _ _ _ (by omega), upL_get _ _ _ _ _ _ (by omega)]

end Go.Proofs.YtjdolgfhcjnniaaDoor
