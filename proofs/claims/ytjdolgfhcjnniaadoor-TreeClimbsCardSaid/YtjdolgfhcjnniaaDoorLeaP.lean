/-
  Leaves, in plain terms.
-/
import Derived.Test.YtjdolgfhcjnniaaDoorTreP
namespace Go.Proofs.YtjdolgfhcjnniaaDoor
open Go Go.RowKit

theorem good_block {B W : Int} (h : goodNo B W = 0) : ∃ m : Nat, B = (m : Int) ∧ 64 ≤ m ∧ m ≤ 16384 := by
  have h1 : ¬ B < 64 := fun h9 => by rw [good_lo h9] at h; cases h
  have h2 : ¬ 16384 < B := fun h9 => by rw [good_hi h9] at h; cases h
  exact ⟨B.toNat, by omega, by omega, by omega⟩
/-- How many blocks n bytes have. -/
def cntB (n m : Nat) : Nat := (n + m - 1) / m
theorem cnt_lt {n m k : Nat} (hm : 0 < m) : k < cntB n m ↔ k * m < n := by
  unfold cntB
  rw [Nat.lt_iff_add_one_le, Nat.le_div_iff_mul_le hm, Nat.succ_mul]
  omega
theorem cnt_le {n m k : Nat} (hm : 0 < m) : cntB n m ≤ k ↔ n ≤ k * m := by
  have := cnt_lt (n := n) (k := k) hm
  omega
theorem cnt_eq {n m : Nat} (hm : 0 < m) : n / m + (if 0 < n % m then 1 else 0) = cntB n m := by
  have h1 := Nat.div_add_mod n m
  have h2 := Nat.mod_lt n hm
  have h3 : m * (n / m) = n / m * m := Nat.mul_comm _ _
  apply Nat.le_antisymm
  · split
    · have := (cnt_lt (n := n) (k := n / m) hm).2 (by omega)
      omega
    · rw [Nat.add_zero]
      rcases Nat.eq_zero_or_pos (n / m) with h | h
      · omega
      · have h4 : (n / m - 1) * m + m = n / m * m := by rw [← Nat.succ_mul]; congr 1; omega
        have := (cnt_lt (n := n) (k := n / m - 1) hm).2 (by omega)
        omega
  · split
    · rw [cnt_le hm, Nat.succ_mul]; omega
    · rw [Nat.add_zero, cnt_le hm]; omega
theorem cnt_min {n m : Nat} (hm : 0 < m) : n / m + min (n % m) 1 = cntB n m := by
  rw [← cnt_eq hm]
  split <;> omega
/-- The hash of the i-th block. -/
def leafL (B W : Int) (m : Nat) (data : List UInt8) (i : Nat) : Hs := hashL B W ((data.drop (i * m)).take m)
def leavesK (B W : Int) (m : Nat) (data : List UInt8) (k : Nat) : List Hs := (List.range k).map (leafL B W m data)
theorem leavesK_len (B W : Int) (m : Nat) (data : List UInt8) (k : Nat) : (leavesK B W m data k).length = k := by simp [leavesK]
theorem leavesK_succ (B W : Int) (m : Nat) (data : List UInt8) (k : Nat) : leavesK B W m data (k + 1) = leavesK B W m data k ++ [leafL B W m data k] := by simp [leavesK, List.range_succ]
def leavesL (B W : Int) (m : Nat) (data : List UInt8) : List Hs := leavesK B W m data (cntB data.length m)
/-- What Leaves answers. -/
def leavesE (B W : Int) (n : Nat) : Int := if goodNo B W ≠ 0 then goodNo B W else if 1048576 < cntB n B.toNat then 62 else 0
def leavesV (B W : Int) (data : List UInt8) : List Hs := if leavesE B W data.length = 0 then leavesL B W B.toNat data else []
theorem leaves_bad {B W : Int} {data : List UInt8} (h : goodNo B W ≠ 0) : leavesE B W data.length = goodNo B W ∧ leavesV B W data = [] := by
  have h1 : leavesE B W data.length = goodNo B W := by unfold leavesE; rw [if_pos h]
  exact ⟨h1, by unfold leavesV; rw [h1, if_neg h]⟩
theorem leaves_many {m : Nat} {W : Int} {data : List UInt8} (hg : goodNo (m : Int) W = 0) (h : 1048576 < cntB data.length m) : leavesE (m : Int) W data.length = 62 ∧ leavesV (m : Int) W data = [] := by
  have h1 : leavesE (m : Int) W data.length = 62 := by unfold leavesE; rw [if_neg (by omega), Int.toNat_natCast, if_pos h]
  exact ⟨h1, by unfold leavesV; rw [h1]; rfl⟩
theorem leaves_ok {m : Nat} {W : Int} {data : List UInt8} (hg : goodNo (m : Int) W = 0) (h : cntB data.length m ≤ 1048576) : leavesE (m : Int) W data.length = 0 ∧ leavesV (m : Int) W data = leavesL (m : Int) W m data := by
  have h1 : leavesE (m : Int) W data.length = 0 := by unfold leavesE; rw [if_neg (by omega), Int.toNat_natCast, if_neg (by omega)]
  exact ⟨h1, by unfold leavesV; rw [if_pos h1, Int.toNat_natCast]⟩
theorem leavesE_good {B W : Int} {n : Nat} (h : leavesE B W n = 0) : goodNo B W = 0 := by
  unfold leavesE at h
  split at h
  · rename_i h1; exact absurd h h1
  · rename_i h1; omega
theorem leavesV_len (B W : Int) (data : List UInt8) : (leavesV B W data).length ≤ 1048576 := by
  unfold leavesV
  split
  · rename_i h
    unfold leavesE at h
    split at h
    · rename_i h1; exact absurd h h1
    · split at h
      · cases h
      · unfold leavesL; rw [leavesK_len]; omega
  · simp
/-- A row that is grown: its scale, its list. -/
abbrev rws (B W : Int) (ao : Option Addr) (n cap : Nat) : List Value := [Value.int .i64 B, Value.int .i64 W] ++ [Value.slice ao n cap]
def rwk (r : Nat) (B W : Int) (row : List Hs) (g : Gs) : List Ck := [⟨some r, rws B W (adr g.ob) row.length g.cap, 85⟩, ⟨g.ob, row.flatMap hcs ++ g.sp, 34⟩]
theorem flat_snoc (l : List Hs) (x : Hs) : l.flatMap hcs ++ hcs x = (l ++ [x]).flatMap hcs := by simp
theorem drop_more (data : List UInt8) (q n m : Nat) (h : n = min m (data.length - q)) : data.drop (q + n) = data.drop (q + m) := by
  rcases Nat.lt_or_ge (data.length - q) m with h1 | h1
  · rw [List.drop_of_length_le (by omega), List.drop_of_length_le (by omega)]
  · rw [show n = m by omega]
theorem Offs.take {l : List Ck} {ao : Option Addr} {cs : List UInt8} (h : Offs l ao (cs.map B8)) (k : Nat) : Offs l ao ((cs.take k).map B8) := fun b hb a e hne => h b hb a e fun h9 => hne (by rw [List.map_eq_nil_iff] at h9; rw [h9]; simp)

theorem kL_ne : kL.map B32 ≠ [] := by simp [kL]
theorem fL_ne : fL.map B32 ≠ [] := by simp [fL]

theorem rws_row {w : World} {b : Nat} {B W : Int} {ao : Option Addr} {n cap : Nat} (h : Cells w b 0 (rws B W ao n cap)) : w.cell? ⟨b, 2, none⟩ = some (.slice ao n cap) := h 2 _ rfl

theorem many_one (l : List Hs) : ∀ u ∈ l.flatMap hcs, u.oneCell' = true := fun u hu => by
  obtain ⟨x, _, hx⟩ := List.mem_flatMap.1 hu
  exact hcs_one x u hx

end Go.Proofs.YtjdolgfhcjnniaaDoor
