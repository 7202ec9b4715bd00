/-
  Trees, outright, in plain terms.
-/
import Derived.Test.YtjdolgfhcjnniaaDoorLayP
namespace Go.Proofs.YtjdolgfhcjnniaaDoor
open Go Go.RowKit

theorem lay_lay (B W : Int) (f : Nat) (row : List Hs) (a : Nat) : ∀ b, layL B W (f + a) (layL B W f row a) b = layL B W f row (a + b)
  | 0 => rfl
  | b + 1 => by
    show upL B W (zeroL B W (f + a + b)) (layL B W (f + a) (layL B W f row a) b) = upL B W (zeroL B W (f + (a + b))) (layL B W f row (a + b))
    rw [lay_lay B W f row a b, Nat.add_assoc]
theorem lay_bit (B W : Int) (f : Nat) (row : List Hs) (a : Nat) (h1 : 1 ≤ row.length) (ha : a ≤ bitLen (row.length - 1)) : a + bitLen ((layL B W f row a).length - 1) = bitLen (row.length - 1) := by
  have hl : (layL B W f row a).length - 1 = (row.length - 1) / 2 ^ a := by
    have hp := Nat.two_pow_pos a
    have h0 : 0 < (layL B W f row a).length := (lay_lt B W f row a 0).2 (by omega)
    apply Nat.le_antisymm
    · rw [Nat.le_div_iff_mul_le hp]
      have := (lay_lt B W f row a ((layL B W f row a).length - 1)).1 (by omega)
      omega
    · have h2 : (row.length - 1) / 2 ^ a < (layL B W f row a).length := (lay_lt B W f row a _).2 (by have := Nat.div_mul_le_self (row.length - 1) (2 ^ a); omega)
      omega
  rw [hl]
  by_cases hz : (row.length - 1) / 2 ^ a = 0
  · rw [hz]
    have h3 : row.length - 1 < 2 ^ a := by
      rcases Nat.div_eq_zero_iff.1 hz with h | h
      · have := Nat.two_pow_pos a; omega
      · exact h
    have h4 := len_le h3
    have h5 : bitLen 0 = 0 := rfl
    omega
  · exact (bitLen_shift _ a hz).symm
/-- What Layer of a layer answers. -/
theorem climbs {B W : Int} {row : List Hs} {from_ mid : Int} (h : layE B W row.length from_ mid = 0) :
    rowE B W row.length from_ = 0 ∧ rowE B W (layV B W row from_ mid).length mid = 0 ∧ rootV B W (layV B W row from_ mid) mid = rootV B W row from_ ∧
    (∀ to_, to_ < mid → layE B W (layV B W row from_ mid).length mid to_ = 60 ∧ layV B W (layV B W row from_ mid) mid to_ = []) ∧
    (∀ to_, mid ≤ to_ → layE B W (layV B W row from_ mid).length mid to_ = layE B W row.length from_ to_ ∧ layV B W (layV B W row from_ mid) mid to_ = layV B W row from_ to_) := by
  obtain ⟨hr0, f, a, rfl, rfl, ha, hfb⟩ := layE_ok h
  obtain ⟨hg, hn1, hn2, _⟩ := rowE_ok hr0
  rw [layV_ok h]
  obtain ⟨l, hl⟩ : ∃ l, l = layL B W f row a := ⟨_, rfl⟩
  have hlb := lay_bit B W f row a hn1 ha
  have hl1 : 1 ≤ l.length := by rw [hl]; exact (lay_lt B W f row a 0).2 (by omega)
  have hl2 : l.length ≤ row.length := by rw [hl]; exact lay_le _ _ _ _ _
  rw [← hl] at hlb ⊢
  have hrl : rowE B W l.length ((f + a : Nat) : Int) = 0 := by
    unfold rowE
    rw [if_neg (by omega), if_neg (by omega), if_neg (by omega), if_neg (by omega)]
  refine ⟨hr0, hrl, ?_, fun to_ ht => ?_, fun to_ ht => ?_⟩
  · rw [root_at hrl, root_at hr0, hl, lay_lay, ← hlb, ← hl]
  · have hE : layE B W l.length ((f + a : Nat) : Int) to_ = 60 := by unfold layE; rw [if_neg (by omega), if_pos (by omega)]
    exact ⟨hE, layV_bad (by rw [hE]; decide)⟩
  · by_cases hb : to_ ≤ ((f + bitLen (row.length - 1) : Nat) : Int)
    · obtain ⟨k, rfl⟩ : ∃ k : Nat, to_ = ((f + a + k : Nat) : Int) := ⟨(to_ - (f + a)).toNat, by omega⟩
      have e1 : layE B W l.length ((f + a : Nat) : Int) ((f + a + k : Nat) : Int) = 0 := by unfold layE; rw [if_neg (by omega), if_neg (by omega)]
      have e2 : layE B W row.length (f : Int) ((f + (a + k) : Nat) : Int) = 0 := by unfold layE; rw [if_neg (by omega), if_neg (by omega)]
      rw [e1, layV_ok e1, Nat.add_assoc f a k, e2, layV_ok e2, hl, lay_lay]
      exact ⟨rfl, rfl⟩
    · have e1 : layE B W l.length ((f + a : Nat) : Int) to_ = 60 := by unfold layE; rw [if_neg (by omega), if_pos (by omega)]
      have e2 : layE B W row.length (f : Int) to_ = 60 := by unfold layE; rw [if_neg (by omega), if_pos (by omega)]
      rw [e1, e2, layV_bad (by rw [e1]; decide), layV_bad (by rw [e2]; decide)]
      exact ⟨rfl, rfl⟩

theorem node_rec (B W : Int) (f : Nat) (row : List Hs) (k i : Nat) : nodeL B W f row (k + 1) i = aboveL B W (nodeL B W f row k (2 * i)) (nodeL B W f row k (2 * i + 1)) := by
  by_cases h : row.length ≤ i * 2 ^ (k + 1)
  · have h0 : row.length ≤ 2 * i * 2 ^ k := by rw [two_mul_pow]; exact h
    have h1 : row.length ≤ (2 * i + 1) * 2 ^ k := Nat.le_trans h0 (Nat.mul_le_mul_right _ (by omega))
    rw [node_out h, node_out h0, node_out h1]; rfl
  · exact node_in h
/-- A node hangs on the part of the row below it. -/
theorem node_ext (B W : Int) (f : Nat) (row row' : List Hs) : ∀ (k i i' : Nat), (∀ q, q < 2 ^ k → row.getD (i * 2 ^ k + q) (zeroL B W f) = row'.getD (i' * 2 ^ k + q) (zeroL B W f)) → nodeL B W f row k i = nodeL B W f row' k i'
  | 0, i, i', h => by
    have := h 0 (by simp)
    simpa [nodeL] using this
  | k + 1, i, i', h => by
    rw [node_rec, node_rec]
    have e1 : 2 ^ (k + 1) = 2 ^ k + 2 ^ k := by rw [Nat.pow_succ]; omega
    have a1 : nodeL B W f row k (2 * i) = nodeL B W f row' k (2 * i') := node_ext B W f row row' k (2 * i) (2 * i') fun q hq => by
      have := h q (by omega)
      rwa [← two_mul_pow, ← two_mul_pow] at this
    have a2 : nodeL B W f row k (2 * i + 1) = nodeL B W f row' k (2 * i' + 1) := node_ext B W f row row' k (2 * i + 1) (2 * i' + 1) fun q hq => by
      have := h (2 ^ k + q) (by omega)
      rw [← two_mul_pow, ← two_mul_pow, ← Nat.add_assoc, ← Nat.add_assoc, ← Nat.succ_mul, ← Nat.succ_mul] at this
      exact this
    rw [a1, a2]
theorem root_node {B W : Int} {row : List Hs} {f : Nat} (h : rowE B W row.length (f : Int) = 0) : rootV B W row (f : Int) = nodeL B W f row (bitLen (row.length - 1)) 0 := by
  rw [root_at h, node_top (rowE_ok h).2.1]
theorem getD_ge {α : Type} {l : List α} {i : Nat} (h : l.length ≤ i) (z : α) : l.getD i z = z := by rw [List.getD, List.getElem?_eq_none h]; rfl
theorem getD_rep {l : List Hs} {z : Hs} (m i : Nat) : (l ++ List.replicate m z).getD i z = l.getD i z := by
  rcases Nat.lt_or_ge i l.length with h | h
  · exact getD_append_left' h z
  · rw [getD_append_right' h, getD_ge h]
    rcases Nat.lt_or_ge (i - l.length) m with h1 | h1
    · rw [List.getD, List.getElem?_replicate, if_pos h1]; rfl
    · exact getD_ge (by simpa using h1) z
/-- The root of a row is the pair of the roots of its halves. -/
theorem halves {B W : Int} {row : List Hs} {f k : Nat} (h : rowE B W row.length (f : Int) = 0) (h2 : 2 ≤ row.length) (hk : 2 ^ k < row.length) (hk2 : row.length ≤ 2 * 2 ^ k) :
    rowE B W (2 ^ k) (f : Int) = 0 ∧ rootV B W row (f : Int) = aboveL B W (rootV B W (row.take (2 ^ k)) (f : Int)) (rootV B W (row.drop (2 ^ k) ++ List.replicate (2 * 2 ^ k - row.length) (zeroL B W f)) (f : Int)) := by
  obtain ⟨hg, hn1, hn2, f', hf, hfb⟩ := rowE_ok h
  obtain rfl : f = f' := by omega
  have hp := Nat.two_pow_pos k
  have hb : bitLen (row.length - 1) = k + 1 := by
    have h1 : bitLen (row.length - 1) ≤ k + 1 := len_le (by rw [Nat.pow_succ]; omega)
    have h3 := bit_pow hn1
    rcases Nat.lt_or_ge k (bitLen (row.length - 1)) with h4 | h4
    · omega
    · exfalso
      have := Nat.pow_le_pow_right (show 0 < 2 by omega) h4
      omega
  have hr : rowE B W (2 ^ k) (f : Int) = 0 := by
    unfold rowE
    rw [if_neg (by omega), if_neg (by omega), if_neg (by omega), if_neg (by rw [bit_pow2]; omega)]
  have hl1 : (row.take (2 ^ k)).length = 2 ^ k := by simp; omega
  have hl2 : (row.drop (2 ^ k) ++ List.replicate (2 * 2 ^ k - row.length) (zeroL B W f)).length = 2 ^ k := by simp; omega
  refine ⟨hr, ?_⟩
  rw [root_node h, hb, root_node (by rw [hl1]; exact hr), root_node (by rw [hl2]; exact hr), hl1, hl2, bit_pow2, node_rec]
  congr 1
  · refine node_ext B W f _ _ k 0 0 fun q hq => ?_
    rw [Nat.zero_mul, Nat.zero_add, getD_take hq]
  · refine node_ext B W f _ _ k 1 0 fun q hq => ?_
    rw [Nat.zero_mul, Nat.zero_add, Nat.one_mul, getD_rep, getD_drop]
/-- Padding written out. -/
theorem pads {B W : Int} {row : List Hs} {f m k : Nat} : nodeL B W f (row ++ List.replicate m (zeroL B W f)) k = nodeL B W f row k := by
  funext i
  exact node_ext B W f _ _ k i i fun q _ => getD_rep _ _

theorem bit_same {n n' : Nat} (h1 : 1 ≤ n) (h2 : n ≤ n') (h3 : n' ≤ 2 ^ bitLen (n - 1)) : bitLen (n' - 1) = bitLen (n - 1) := by
  have a : bitLen (n' - 1) ≤ bitLen (n - 1) := len_le (by omega)
  have b := bit_pow (n := n') (by omega)
  have c : bitLen (n - 1) ≤ bitLen (n' - 1) := len_le (by omega)
  omega
theorem pads_root {B W : Int} {row : List Hs} {f m : Nat} (h : rowE B W row.length (f : Int) = 0) (hm : row.length + m ≤ 2 ^ bitLen (row.length - 1)) :
    rowE B W (row ++ List.replicate m (zeroL B W f)).length (f : Int) = 0 ∧ rootV B W (row ++ List.replicate m (zeroL B W f)) (f : Int) = rootV B W row (f : Int) := by
  obtain ⟨hg, hn1, hn2, f', hf, hfb⟩ := rowE_ok h
  have hl : (row ++ List.replicate m (zeroL B W f)).length = row.length + m := by simp
  have hb := bit_same hn1 (show row.length ≤ row.length + m by omega) hm
  have h20 : 2 ^ bitLen (row.length - 1) ≤ 2 ^ 20 := Nat.pow_le_pow_right (by omega) (bit_le20 hn2)
  have hr : rowE B W (row ++ List.replicate m (zeroL B W f)).length (f : Int) = 0 := by
    rw [hl]
    unfold rowE
    rw [if_neg (by omega), if_neg (by omega), if_neg (by omega), if_neg (by rw [hb]; omega)]
  exact ⟨hr, by rw [root_node hr, root_node h, hl, hb, pads]⟩
theorem lay_getD {B W : Int} {row : List Hs} {f m j : Nat} (i : Nat) : (layL B W f (row ++ List.replicate m (zeroL B W f)) j).getD i (zeroL B W (f + j)) = (layL B W f row j).getD i (zeroL B W (f + j)) := by
  rw [← node_lay, ← node_lay, pads]
theorem lay_more {B W : Int} {row : List Hs} {f m j : Nat} : (layL B W f row j).length ≤ (layL B W f (row ++ List.replicate m (zeroL B W f)) j).length := by
  rcases Nat.lt_or_ge (layL B W f (row ++ List.replicate m (zeroL B W f)) j).length (layL B W f row j).length with h | h
  · exfalso
    have h1 := (lay_lt B W f row j _).1 h
    have h2 : ¬ _ := fun h3 => Nat.lt_irrefl _ ((lay_lt B W f (row ++ List.replicate m (zeroL B W f)) j (layL B W f (row ++ List.replicate m (zeroL B W f)) j).length).2 h3)
    rw [List.length_append] at h2
    omega
  · exact h
theorem lay_take {B W : Int} {row : List Hs} {f m j : Nat} : (layL B W f (row ++ List.replicate m (zeroL B W f)) j).take (layL B W f row j).length = layL B W f row j := by
  have hl := lay_more (B := B) (W := W) (row := row) (f := f) (m := m) (j := j)
  apply List.ext_getElem
  · rw [List.length_take]; omega
  · intro i h1 h2
    have h := lay_getD (B := B) (W := W) (row := row) (f := f) (m := m) (j := j) i
    rw [List.getD, List.getD, List.getElem?_eq_getElem h2, List.getElem?_eq_getElem (by omega)] at h
    rw [List.getElem_take]
    simpa using h
theorem lay_rest {B W : Int} {row : List Hs} {f m j p : Nat} (h1 : (layL B W f row j).length ≤ p) (h2 : p < (layL B W f (row ++ List.replicate m (zeroL B W f)) j).length) (z : Hs) : (layL B W f (row ++ List.replicate m (zeroL B W f)) j).getD p z = zeroL B W (f + j) := by
  have h := lay_getD (B := B) (W := W) (row := row) (f := f) (m := m) (j := j) p
  rw [getD_ge h1] at h
  rw [← h, List.getD, List.getD, List.getElem?_eq_getElem h2]; rfl

end Go.Proofs.YtjdolgfhcjnniaaDoor
