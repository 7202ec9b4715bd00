/-
  Trees, outright, in plain terms.
-/
import Derived.Test.YtjdolgfhcjnniaaDoorPieP
namespace Go.Proofs.YtjdolgfhcjnniaaDoor
open Go Go.RowKit

theorem lay_lay (B W : Int) (f : Nat) (row : List Hs) (a : Nat) : ∀ b, layL B W (f + a) (layL B W f row a) b = layL B W f row (a + b)
  | 0 => rfl
  | b + 1 => by
    show upL B W (zeroL B W (f + a + b)) (layL B W (f + a) (layL B W f row a) b) = upL B W (zeroL B W (f + (a + b))) (layL B W f row (a + b))
    rw [lay_lay B W f row a b, Nat.add_assoc]
theorem lay_bit (B W : Int) (f : Nat) (row : List Hs) (a : Nat) (h1 : 1 ≤ row.length) (ha : a ≤ bitLen (row.length - 1)) : a + bitLen ((layL B W f row a).length - 1) = bitLen (row.length - 1) := by
  have hl : (layL B W f row a).length - 1 = (row.length - 1) / 2 ^ a := by
    have hp := Nat.two_pow_pos a
    have h0 : 0 < (layL B W f row a).length := (lay_lt B W f row a 0).2 (by omega)
    apply Nat.le_antisymm
    · rw [Nat.le_div_iff_mul_le hp]
      have := (lay_lt B W f row a ((layL B W f row a).length - 1)).1 (by omega)
      omega
    · have h2 : (row.length - 1) / 2 ^ a < (layL B W f row a).length := (lay_lt B W f row a _).2 (by have := Nat.div_mul_le_self (row.length - 1) (2 ^ a); omega)
      omega
  rw [hl]
  by_cases hz : (row.length - 1) / 2 ^ a = 0
  · rw [hz]
    have h3 : row.length - 1 < 2 ^ a := by
      rcases Nat.div_eq_zero_iff.1 hz with h | h
      · have := Nat.two_pow_pos a; omega
      · exact h
    have h4 := len_le h3
    have h5 : bitLen 0 = 0 := rfl
    omega
  · exact (bitLen_shift _ a hz).symm
/-- What Layer of a layer answers. -/
theorem climbs {B W : Int} {row : List Hs} {from_ mid : Int} (h : layE B W row.length from_ mid = 0) :
    rowE B W row.length from_ = 0 ∧ rowE B W (layV B W row from_ mid).length mid = 0 ∧ rootV B W (layV B W row from_ mid) mid = rootV B W row from_ ∧
    (∀ to_, to_ < mid → layE B W (layV B W row from_ mid).length mid to_ = 60 ∧ layV B W (layV B W row from_ mid) mid to_ = []) ∧
    (∀ to_, mid ≤ to_ → layE B W (layV B W row from_ mid).length mid to_ = layE B W row.length from_ to_ ∧ layV B W (layV B W row from_ mid) mid to_ = layV B W row from_ to_) := by
  obtain ⟨hr0, f, a, rfl, rfl, ha, hfb⟩ := layE_ok h
  obtain ⟨hg, hn1, hn2, _⟩ := rowE_ok hr0
  rw [layV_ok h]
  obtain ⟨l, hl⟩ : ∃ l, l = layL B W f row a := ⟨_, rfl⟩
  have hlb := lay_bit B W f row a hn1 ha
  have hl1 : 1 ≤ l.length := by rw [hl]; exact (lay_lt B W f row a 0).2 (by omega)
  have hl2 : l.length ≤ row.length := by rw [hl]; exact lay_le _ _ _ _ _
  rw [← hl] at hlb ⊢
  have hrl : rowE B W l.length ((f + a : Nat) : Int) = 0 := by
    unfold rowE
    rw [if_neg (by omega), if_neg (by omega), if_neg (by omega), if_neg (by omega)]
  refine ⟨hr0, hrl, ?_, fun to_ ht => ?_, fun to_ ht => ?_⟩
  · rw [root_at hrl, root_at hr0, hl, lay_lay, ← hlb, ← hl]
  · have hE : layE B W l.length ((f + a : Nat) : Int) to_ = 60 := by unfold layE; rw [if_neg (by omega), if_pos (by omega)]
    exact ⟨hE, layV_bad (by rw [hE]; decide)⟩
  · by_cases hb : to_ ≤ ((f + bitLen (row.length - 1) : Nat) : Int)
    · obtain ⟨k, rfl⟩ : ∃ k : Nat, to_ = ((f + a + k : Nat) : Int) := ⟨(to_ - (f + a)).toNat, by omega⟩
      have e1 : layE B W l.length ((f + a : Nat) : Int) ((f + a + k : Nat) : Int) = 0 := by unfold layE; rw [if_neg (by omega), if_neg (by omega)]
      have e2 : layE B W row.length (f : Int) ((f + (a + k) : Nat) : Int) = 0 := by unfold layE; rw [if_neg (by omega), if_neg (by omega)]
      rw [e1, layV_ok e1, Nat.add_assoc f a k, e2, layV_ok e2, hl, lay_lay]
      exact ⟨rfl, rfl⟩
    · have e1 : layE B W l.length ((f + a : Nat) : Int) to_ = 60 := by unfold layE; rw [if_neg (by omega), if_pos (by omega)]
      have e2 : layE B W row.length (f : Int) to_ = 60 := by unfold layE; rw [if_neg (by omega), if_pos (by omega)]
      rw [e1, e2, layV_bad (by rw [e1]; decide), layV_bad (by rw [e2]; decide)]
      exact ⟨rfl, rfl⟩

end Go.Proofs.YtjdolgfhcjnniaaDoor
