/-
  Layers, pieces and files, in plain terms.
-/
import Derived.Test.YtjdolgfhcjnniaaDoorTreP
import Derived.Test.YtjdolgfhcjnniaaDoorBitP
namespace Go.Proofs.YtjdolgfhcjnniaaDoor
open Go Go.RowKit

/-- A row, filled up to an even number. -/
def evL (z : Hs) (l : List Hs) : List Hs := if l.length % 2 = 1 then l ++ [z] else l
theorem evL_len (z : Hs) (l : List Hs) : (evL z l).length = 2 * ((l.length + 1) / 2) := by
  unfold evL; split
  · rw [List.length_append]; simp only [List.length_singleton]; omega
  · omega
theorem evL_get (z : Hs) (l : List Hs) (i : Nat) (z' : Hs) (hi : i < (evL z l).length) : (evL z l).getD i z' = l.getD i z := by
  rw [evL_len] at hi
  unfold evL; split
  · rcases Nat.lt_or_ge i l.length with h | h
    · rw [getD_append_left' h, List.getD, List.getD, List.getElem?_eq_getElem h]; rfl
    · rw [getD_append_right' h, show i - l.length = 0 by omega, List.getD, List.getD, List.getElem?_eq_none h]; rfl
  · rw [List.getD, List.getD, List.getElem?_eq_getElem (by omega)]; rfl
/-- The row above a row. -/
def upL (B W : Int) (z : Hs) (l : List Hs) : List Hs := (List.range ((l.length + 1) / 2)).map fun i => aboveL B W (l.getD (2 * i) z) (l.getD (2 * i + 1) z)
theorem upL_len (B W : Int) (z : Hs) (l : List Hs) : (upL B W z l).length = (l.length + 1) / 2 := by simp [upL]
theorem upL_get (B W : Int) (z : Hs) (l : List Hs) (i : Nat) (z' : Hs) (hi : i < (l.length + 1) / 2) : (upL B W z l).getD i z' = aboveL B W (l.getD (2 * i) z) (l.getD (2 * i + 1) z) := by
  unfold upL
  rw [List.getD, List.getElem?_map, List.getElem?_range hi]; rfl
def layL (B W : Int) (f : Nat) (row : List Hs) : Nat → List Hs
  | 0 => row
  | k + 1 => upL B W (zeroL B W (f + k)) (layL B W f row k)
def nodeL (B W : Int) (f : Nat) (row : List Hs) : Nat → Nat → Hs
  | 0, i => row.getD i (zeroL B W f)
  | k + 1, i => if row.length ≤ i * 2 ^ (k + 1) then zeroL B W (f + (k + 1)) else aboveL B W (nodeL B W f row k (2 * i)) (nodeL B W f row k (2 * i + 1))
theorem node_out {B W : Int} {f : Nat} {row : List Hs} {k i : Nat} (h : row.length ≤ i * 2 ^ k) : nodeL B W f row k i = zeroL B W (f + k) := by
  cases k with
  | zero => simp only [nodeL]; rw [List.getD, List.getElem?_eq_none (by simpa using h)]; rfl
  | succ k => simp only [nodeL]; rw [if_pos h]
theorem node_in {B W : Int} {f : Nat} {row : List Hs} {k i : Nat} (h : ¬ row.length ≤ i * 2 ^ (k + 1)) : nodeL B W f row (k + 1) i = aboveL B W (nodeL B W f row k (2 * i)) (nodeL B W f row k (2 * i + 1)) := by
  simp only [nodeL]; rw [if_neg h]
theorem two_mul_pow (i k : Nat) : 2 * i * 2 ^ k = i * 2 ^ (k + 1) := by rw [Nat.pow_succ, Nat.mul_comm (2 ^ k) 2, ← Nat.mul_assoc, Nat.mul_comm 2 i]
theorem lay_lt (B W : Int) (f : Nat) (row : List Hs) : ∀ k i, i < (layL B W f row k).length ↔ i * 2 ^ k < row.length
  | 0, i => by simp [layL]
  | k + 1, i => by
    simp only [layL, upL_len]
    rw [← two_mul_pow, ← lay_lt B W f row k (2 * i)]
    omega
theorem node_lay (B W : Int) (f : Nat) (row : List Hs) : ∀ k i, nodeL B W f row k i = (layL B W f row k).getD i (zeroL B W (f + k))
  | 0, i => rfl
  | k + 1, i => by
    by_cases h : row.length ≤ i * 2 ^ (k + 1)
    · have h1 : ¬ i < (layL B W f row (k + 1)).length := fun h2 => by have := (lay_lt B W f row (k + 1) i).1 h2; omega
      rw [node_out h, List.getD, List.getElem?_eq_none (by omega)]; rfl
    · rw [node_in h, node_lay B W f row k (2 * i), node_lay B W f row k (2 * i + 1)]
      have h1 : i < (layL B W f row (k + 1)).length := (lay_lt B W f row (k + 1) i).2 (by omega)
      simp only [layL, upL_len] at h1
      simp only [layL]
      rw [upL_get _ _ _ _ _ _ h1]
theorem lay_le (B W : Int) (f : Nat) (row : List Hs) (k : Nat) : (layL B W f row k).length ≤ row.length := by
  rcases Nat.eq_zero_or_pos (layL B W f row k).length with h | h
  · omega
  · have h1 := (lay_lt B W f row k ((layL B W f row k).length - 1)).1 (by omega)
    have h2 : ((layL B W f row k).length - 1) * 1 ≤ ((layL B W f row k).length - 1) * 2 ^ k := Nat.mul_le_mul_left _ (Nat.two_pow_pos k)
    omega
theorem lay_mul (B W : Int) (f : Nat) (row : List Hs) (k i : Nat) (h : i ≤ (layL B W f row k).length) : i * 2 ^ k ≤ row.length + 2 ^ k := by
  rcases Nat.eq_zero_or_pos i with h1 | h1
  · subst h1; rw [Nat.zero_mul]; exact Nat.zero_le _
  · have h2 := (lay_lt B W f row k (i - 1)).1 (by omega)
    have h3 : i * 2 ^ k = (i - 1) * 2 ^ k + 2 ^ k := by rw [← Nat.succ_mul]; congr 1; omega
    omega
/-- The height of a row of n. -/
theorem bit_pow {n : Nat} (h : 1 ≤ n) : n ≤ 2 ^ bitLen (n - 1) := by
  unfold bitLen
  split
  · omega
  · rename_i h0
    have := Nat.lt_log2_self (n := n - 1)
    omega
theorem bit_le20 {n : Nat} (h : n ≤ 1048576) : bitLen (n - 1) ≤ 20 := len_le (by omega)
theorem lay_one (B W : Int) (f : Nat) (row : List Hs) (k : Nat) (h1 : 1 ≤ row.length) (h2 : row.length ≤ 2 ^ k) : (layL B W f row k).length = 1 := by
  have a := (lay_lt B W f row k 0).2 (by omega)
  have b : ¬ 1 < (layL B W f row k).length := fun h => by have := (lay_lt B W f row k 1).1 h; omega
  omega
/-- May there be a tree over n nodes? -/
def rowE (B W : Int) (n : Nat) (from_ : Int) : Int := if goodNo B W ≠ 0 then goodNo B W else if n = 0 then 61 else if 1048576 < n then 62 else if from_ < 0 ∨ 48 - (bitLen (n - 1) : Int) < from_ then 60 else 0
def layE (B W : Int) (n : Nat) (from_ to_ : Int) : Int := if rowE B W n from_ ≠ 0 then rowE B W n from_ else if to_ < from_ ∨ from_ + (bitLen (n - 1) : Int) < to_ then 60 else 0
def layV (B W : Int) (row : List Hs) (from_ to_ : Int) : List Hs := if layE B W row.length from_ to_ = 0 then layL B W from_.toNat row (to_ - from_).toNat else []
def rootV (B W : Int) (row : List Hs) (from_ : Int) : Hs := if rowE B W row.length from_ = 0 then (layL B W from_.toNat row (bitLen (row.length - 1))).getD 0 hz0 else hz0
theorem rowE_ok {B W : Int} {n : Nat} {from_ : Int} (h : rowE B W n from_ = 0) : goodNo B W = 0 ∧ 1 ≤ n ∧ n ≤ 1048576 ∧ ∃ f : Nat, from_ = (f : Int) ∧ f + bitLen (n - 1) ≤ 48 := by
  unfold rowE at h
  split at h
  · rename_i h1; exact absurd h h1
  · split at h
    · cases h
    · split at h
      · cases h
      · split at h
        · cases h
        · refine ⟨by omega, by omega, by omega, from_.toNat, by omega, by omega⟩
theorem layE_ok {B W : Int} {n : Nat} {from_ to_ : Int} (h : layE B W n from_ to_ = 0) : rowE B W n from_ = 0 ∧ ∃ f k : Nat, from_ = (f : Int) ∧ to_ = ((f + k : Nat) : Int) ∧ k ≤ bitLen (n - 1) ∧ f + bitLen (n - 1) ≤ 48 := by
  unfold layE at h
  split at h
  · rename_i h1; exact absurd h h1
  · rename_i h1
    have h0 : rowE B W n from_ = 0 := by omega
    split at h
    · cases h
    · obtain ⟨_, _, _, f, hf, hb⟩ := rowE_ok h0
      refine ⟨h0, f, (to_ - from_).toNat, hf, by omega, by omega, hb⟩
theorem layV_ok {B W : Int} {row : List Hs} {f k : Nat} (h : layE B W row.length (f : Int) ((f + k : Nat) : Int) = 0) : layV B W row (f : Int) ((f + k : Nat) : Int) = layL B W f row k := by
  unfold layV; rw [if_pos h, Int.toNat_natCast]; congr 1; omega
theorem layV_bad {B W : Int} {row : List Hs} {from_ to_ : Int} (h : layE B W row.length from_ to_ ≠ 0) : layV B W row from_ to_ = [] := by unfold layV; rw [if_neg h]
theorem layV_len (B W : Int) (row : List Hs) (from_ to_ : Int) : (layV B W row from_ to_).length ≤ row.length := by
  unfold layV; split
  · exact lay_le _ _ _ _ _
  · simp
/-- A row that is written over by the one above it. -/
def mixL (u l : List Hs) (p : Nat) : List Hs := u.take p ++ l.drop p
theorem mix_len {u l : List Hs} {p : Nat} (h1 : p ≤ u.length) (h2 : p ≤ l.length) : (mixL u l p).length = l.length := by unfold mixL; simp; omega
theorem mix_get {u l : List Hs} {p i : Nat} (h1 : p ≤ u.length) (h2 : p ≤ i) (z : Hs) : (mixL u l p).getD i z = l.getD i z := by
  unfold mixL
  rw [getD_append_right' (by simp; omega), getD_drop, List.length_take, Nat.min_eq_left h1]
  congr 1; omega
theorem mix_zero (u l : List Hs) : mixL u l 0 = l := by simp [mixL]
theorem mix_drop {l : List Hs} {p : Nat} (h : p < l.length) (sp : List Value) : ((l.drop p).flatMap hcs ++ sp).drop 32 = (l.drop (p + 1)).flatMap hcs ++ sp := by
  rw [List.drop_eq_getElem_cons h, List.flatMap_cons, List.append_assoc, List.drop_left' (hcs_len _)]
theorem upL_ev (B W : Int) (z : Hs) (l : List Hs) (p : Nat) (hp : 2 * p < (evL z l).length) : aboveL B W ((evL z l).getD (2 * p) hz0) ((evL z l).getD (2 * p + 1) hz0) = (upL B W z l).getD p hz0 := by
  have h := evL_len z l
  rw [evL_get _ _ _ _ hp, evL_get _ _ _ _ (by omega), upL_get _ _ _ _ _ _ (by omega)]

theorem testBit_top {x a : Nat} (h1 : 2 ^ a ≤ x) (h2 : x < 2 ^ (a + 1)) : x.testBit a = true := by
  have e : x = 2 ^ a + (x - 2 ^ a) := by omega
  rw [Nat.pow_succ] at h2
  rw [e, Nat.testBit_two_pow_add_eq, Nat.testBit_lt_two_pow (by omega)]
  rfl
theorem pow_and {x : Nat} (h : 0 < x) : (x &&& (x - 1) = 0) ↔ ∃ a, x = 2 ^ a := by
  constructor
  · intro h0
    refine ⟨Nat.log2 x, Classical.byContradiction fun hne => ?_⟩
    have h1 : 2 ^ Nat.log2 x ≤ x := Nat.log2_self_le (by omega)
    have h2 : x < 2 ^ (Nat.log2 x + 1) := Nat.lt_log2_self
    have h3 : (x &&& (x - 1)).testBit (Nat.log2 x) = true := by
      rw [Nat.testBit_and, testBit_top h1 h2, testBit_top (by omega) (by omega)]; rfl
    rw [h0, Nat.zero_testBit] at h3
    cases h3
  · rintro ⟨a, rfl⟩
    apply Nat.eq_of_testBit_eq
    intro i
    rw [Nat.testBit_and, Nat.zero_testBit, Nat.testBit_two_pow]
    by_cases h1 : a = i
    · subst h1
      rw [Nat.testBit_lt_two_pow (by have := Nat.two_pow_pos a; omega)]
      simp
    · simp [h1]
theorem good_pow {B W : Int} (h : goodNo B W = 0) : ∃ k, k ≤ 8 ∧ B = ((2 ^ (6 + k) : Nat) : Int) := by
  refine Classical.byContradiction fun hno => ?_
  have := good_never (b := B) (w := W) fun i hi e => hno ⟨i, by omega, by rw [e, Nat.pow_add]⟩
  omega
/-- Is p a piece length over blocks of m bytes? -/
def pieceOk (m : Nat) (p : Int) : Bool := (List.range 11).any fun j => decide (p = ((2 ^ j * m : Nat) : Int))
theorem pieceOk_iff {m : Nat} {p : Int} : pieceOk m p = true ↔ ∃ j, j ≤ 10 ∧ p = ((2 ^ j * m : Nat) : Int) := by
  unfold pieceOk
  rw [List.any_eq_true]
  constructor
  · rintro ⟨j, hj, h⟩; exact ⟨j, by have := List.mem_range.1 hj; omega, of_decide_eq_true h⟩
  · rintro ⟨j, hj, h⟩; exact ⟨j, List.mem_range.2 (by omega), decide_eq_true h⟩
def pieceE (B W p : Int) : Int := if goodNo B W ≠ 0 then goodNo B W else if pieceOk B.toNat p = true then 0 else 63
theorem pieceE_ok {B W p : Int} (h : pieceE B W p = 0) : goodNo B W = 0 ∧ ∃ m j : Nat, B = (m : Int) ∧ 64 ≤ m ∧ m ≤ 16384 ∧ j ≤ 10 ∧ p = ((2 ^ j * m : Nat) : Int) := by
  unfold pieceE at h
  split at h
  · rename_i h1; exact absurd h h1
  · rename_i h1
    have hg : goodNo B W = 0 := by omega
    split at h
    · rename_i h2
      obtain ⟨m, rfl, h3, h4⟩ := good_block hg
      rw [Int.toNat_natCast] at h2
      obtain ⟨j, h5, h6⟩ := pieceOk_iff.1 h2
      exact ⟨hg, m, j, rfl, h3, h4, h5, h6⟩
    · cases h
theorem pow_le_of {a b : Nat} (h : 2 ^ a ≤ 2 ^ b) : a ≤ b := (Nat.pow_le_pow_iff_right (by omega)).1 h
/-- The program's way to tell a piece length. -/
theorem piece_lo {m : Nat} {p : Int} (h : p < m) : pieceOk m p = false := by
  rw [Bool.eq_false_iff]
  intro h9
  obtain ⟨j, _, rfl⟩ := pieceOk_iff.1 h9
  have : 1 * m ≤ 2 ^ j * m := Nat.mul_le_mul_right _ (Nat.two_pow_pos j)
  omega
theorem piece_odd {m k : Nat} {p : Nat} (hm : m = 2 ^ (6 + k)) (h : p &&& (p - 1) ≠ 0) : pieceOk m (p : Int) = false := by
  rw [Bool.eq_false_iff]
  intro h9
  obtain ⟨j, _, h2⟩ := pieceOk_iff.1 h9
  have e : p = 2 ^ (j + (6 + k)) := by rw [Nat.pow_add, ← hm]; omega
  exact h ((pow_and (by rw [e]; exact Nat.two_pow_pos _)).2 ⟨_, e⟩)
theorem piece_many {m : Nat} {p : Nat} (hm : 0 < m) (h : 1024 < p / m) : pieceOk m (p : Int) = false := by
  rw [Bool.eq_false_iff]
  intro h9
  obtain ⟨j, hj, h2⟩ := pieceOk_iff.1 h9
  have e : p = 2 ^ j * m := by omega
  rw [e, Nat.mul_div_cancel _ hm] at h
  have : 2 ^ j ≤ 2 ^ 10 := Nat.pow_le_pow_right (by omega) hj
  omega
theorem piece_yes {m k p : Nat} (hm : m = 2 ^ (6 + k)) (h1 : m ≤ p) (h2 : p &&& (p - 1) = 0) (h3 : p / m ≤ 1024) : pieceOk m (p : Int) = true := by
  have hm0 : 0 < m := by rw [hm]; exact Nat.two_pow_pos _
  obtain ⟨a, ha⟩ := (pow_and (by omega)).1 h2
  have h4 : 6 + k ≤ a := pow_le_of (by rw [← hm, ← ha]; exact h1)
  have e : p = 2 ^ (a - (6 + k)) * m := by rw [hm, ← Nat.pow_add, ha]; congr 1; omega
  rw [e, Nat.mul_div_cancel _ hm0] at h3
  exact pieceOk_iff.2 ⟨a - (6 + k), pow_le_of (by show _ ≤ 2 ^ 10; exact h3), by rw [e]⟩
theorem bit_pow2 (j : Nat) : bitLen (2 ^ j - 1) = j := by
  have h1 : bitLen (2 ^ j - 1) ≤ j := len_le (by have := Nat.two_pow_pos j; omega)
  have h2 := bit_pow (n := 2 ^ j) (Nat.two_pow_pos j)
  have := pow_le_of h2
  omega
/-- A power of two up to 2^20. -/
def pow20 (x : Int) : Bool := (List.range 21).any fun j => decide (x = ((2 ^ j : Nat) : Int))
theorem pow20_iff {x : Int} : pow20 x = true ↔ ∃ j, j ≤ 20 ∧ x = ((2 ^ j : Nat) : Int) := by
  unfold pow20
  rw [List.any_eq_true]
  constructor
  · rintro ⟨j, hj, h⟩; exact ⟨j, by have := List.mem_range.1 hj; omega, of_decide_eq_true h⟩
  · rintro ⟨j, hj, h⟩; exact ⟨j, List.mem_range.2 (by omega), decide_eq_true h⟩
theorem pow20_lo {x : Int} (h : x < 1) : pow20 x = false := by
  rw [Bool.eq_false_iff]; intro h9
  obtain ⟨j, _, rfl⟩ := pow20_iff.1 h9
  have := Nat.two_pow_pos j
  omega
theorem pow20_hi {x : Int} (h : 1048576 < x) : pow20 x = false := by
  rw [Bool.eq_false_iff]; intro h9
  obtain ⟨j, hj, rfl⟩ := pow20_iff.1 h9
  have : 2 ^ j ≤ 2 ^ 20 := Nat.pow_le_pow_right (by omega) hj
  omega
theorem pow20_and {x : Nat} (h1 : 1 ≤ x) (h2 : x ≤ 1048576) : pow20 (x : Int) = true ↔ x &&& (x - 1) = 0 := by
  rw [pow_and (by omega), pow20_iff]
  constructor
  · rintro ⟨j, _, h⟩; exact ⟨j, by omega⟩
  · rintro ⟨j, h⟩; exact ⟨j, pow_le_of (by show _ ≤ 2 ^ 20; rw [← h]; exact h2), by rw [h]⟩
/-- What LayerRoot answers. -/
def lrE (B W p fl : Int) (n : Nat) : Int := if pieceE B W p ≠ 0 then pieceE B W p else if fl ≤ p ∨ 1099511627776 < fl ∨ n ≠ (fl.toNat + p.toNat - 1) / p.toNat then 64 else if 1048576 < n then 62 else 0
def lrV (B W p fl : Int) (row : List Hs) : Hs := if lrE B W p fl row.length = 0 then rootV B W row (bitLen ((p / B).toNat - 1) : Nat) else hz0
theorem rowE_small {B W : Int} {n f : Nat} (hg : goodNo B W = 0) (h1 : 1 ≤ n) (h2 : n ≤ 1048576) (hf : f ≤ 28) : rowE B W n (f : Int) = 0 := by
  have := bit_le20 (n := n) h2
  unfold rowE
  rw [if_neg (by omega), if_neg (by omega), if_neg (by omega), if_neg (by omega)]
theorem rowE_many {B W : Int} {n : Nat} {f : Int} (hg : goodNo B W = 0) (h2 : 1048576 < n) : rowE B W n f = 62 := by
  unfold rowE
  rw [if_neg (by omega), if_neg (by omega), if_pos h2]
theorem rowE_zero {B W : Int} {f : Int} (hg : goodNo B W = 0) : rowE B W 0 f = 61 := by
  unfold rowE
  rw [if_neg (by omega), if_pos rfl]
theorem rootV_bad {B W : Int} {row : List Hs} {f : Int} (h : rowE B W row.length f ≠ 0) : rootV B W row f = hz0 := by unfold rootV; rw [if_neg h]
theorem root_at {B W : Int} {row : List Hs} {f : Nat} (h : rowE B W row.length (f : Int) = 0) : rootV B W row (f : Int) = (layL B W f row (bitLen (row.length - 1))).getD 0 hz0 := by unfold rootV; rw [if_pos h, Int.toNat_natCast]
theorem node_top {B W : Int} {row : List Hs} {f k : Nat} (h1 : 1 ≤ row.length) : nodeL B W f row k 0 = (layL B W f row k).getD 0 hz0 := by
  have : 0 < (layL B W f row k).length := (lay_lt B W f row k 0).2 (by omega)
  rw [node_lay, List.getD, List.getD, List.getElem?_eq_getElem this]; rfl
/-- What FileRoot answers. -/
def frE (B W : Int) (n : Nat) : Int := if leavesE B W n ≠ 0 then leavesE B W n else if n = 0 then 61 else 0
def frV (B W : Int) (data : List UInt8) : Hs := if frE B W data.length = 0 then rootV B W (leavesV B W data) 0 else hz0
theorem leavesV_cnt {B W : Int} {data : List UInt8} (h : leavesE B W data.length = 0) : (leavesV B W data).length = cntB data.length B.toNat := by
  unfold leavesV; rw [if_pos h]; unfold leavesL; rw [leavesK_len]
theorem cnt_zero {n m : Nat} (hm : 0 < m) : cntB n m = 0 ↔ n = 0 := by
  have := cnt_lt (n := n) (k := 0) hm
  omega
/-- What PieceRoot answers. -/
def prE (B W : Int) (n : Nat) (lv : Int) : Int := if goodNo B W ≠ 0 then goodNo B W else if pow20 lv = false then 63 else if n = 0 then 61 else if lv < (cntB n B.toNat : Int) then 64 else 0
def prV (B W : Int) (data : List UInt8) (lv : Int) : Hs := if prE B W data.length lv = 0 then (layL B W 0 (leavesL B W B.toNat data) (bitLen (lv.toNat - 1))).getD 0 hz0 else hz0
/-- What PieceLayer answers. -/
def plE (B W p : Int) (n : Nat) : Int := if pieceE B W p ≠ 0 then pieceE B W p else leavesE B W n
def plV (B W p : Int) (data : List UInt8) : List Hs := if plE B W p data.length = 0 ∧ p < (data.length : Int) then layL B W 0 (leavesV B W data) (bitLen ((p / B).toNat - 1)) else []
theorem plV_len (B W p : Int) (data : List UInt8) : (plV B W p data).length ≤ 1048576 := by
  unfold plV; split
  · exact Nat.le_trans (lay_le _ _ _ _ _) (leavesV_len _ _ _)
  · simp

theorem quo_nat {q m : Nat} (hq : q ≤ 9223372036854775807) : IntKind.i64.wrap ((q : Int).tdiv (m : Int)) = ((q / m : Nat) : Int) := by
  rw [Int.tdiv_eq_ediv_of_nonneg (by omega), ← Int.natCast_ediv]
  have := Nat.div_le_self q m
  generalize q / m = r at *
  exact wrap_i64 (by omega) (by omega)
theorem piece_div {q m j : Nat} (hq : q = 2 ^ j * m) (hm : 0 < m) : q / m = 2 ^ j := by rw [hq, Nat.mul_div_cancel _ hm]
theorem piece_bit {q m j : Nat} (hq : q = 2 ^ j * m) (hm : 0 < m) : bitLen (((q : Int) / (m : Int)).toNat - 1) = j := by rw [← Int.natCast_ediv, Int.toNat_natCast, piece_div hq hm, bit_pow2]

end Go.Proofs.YtjdolgfhcjnniaaDoor
