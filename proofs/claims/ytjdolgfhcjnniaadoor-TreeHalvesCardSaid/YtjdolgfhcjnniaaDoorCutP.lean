/-
  Digests cut to a scale, in plain terms.
-/
import Derived.Test.YtjdolgfhcjnniaaDoorGoodP
namespace Go.Proofs.YtjdolgfhcjnniaaDoor
open Go Go.RowKit

theorem good_range {B W : Int} (h : goodNo B W = 0) : 1 ≤ W ∧ W ≤ 32 := by
  unfold goodNo at h
  split at h
  · rename_i hg
    unfold good at hg
    simp only [Bool.and_eq_true, decide_eq_true_eq] at hg
    exact ⟨hg.1.2, hg.2⟩
  · omega
/-- The first i bytes of a digest, zeros behind. -/
def cutN (h : List UInt8) (i : Nat) : List UInt8 := h.take i ++ List.replicate (32 - i) 0
theorem cutN_len {h : List UInt8} (hh : h.length = 32) {i : Nat} (hi : i ≤ 32) : (cutN h i).length = 32 := by simp [cutN, hh]; omega
theorem cutN_zero (h : List UInt8) : cutN h 0 = List.replicate 32 0 := by simp [cutN]
theorem cutN_succ {h : List UInt8} (hh : h.length = 32) {i : Nat} (hi : i < 32) : (cutN h i).set i (h.getD i 0) = cutN h (i + 1) := by
  have e : h.take (i + 1) = h.take i ++ [h.getD i 0] := by rw [List.take_add_one, List.getD, List.getElem?_eq_getElem (by omega)]; rfl
  unfold cutN
  rw [e, List.set_append_right _ _ (by rw [List.length_take]; omega), List.length_take, Nat.min_eq_left (by omega), Nat.sub_self, show 32 - i = (32 - (i + 1)) + 1 by omega, List.replicate_succ, List.set_cons_zero, List.append_assoc]
  rfl
/-- A digest cut to a scale. -/
def cutL (B W : Int) (h : List UInt8) : List UInt8 := if goodNo B W = 0 then cutN h W.toNat else List.replicate 32 0
theorem cutL_len {h : List UInt8} (hh : h.length = 32) (B W : Int) : (cutL B W h).length = 32 := by
  unfold cutL
  split
  · rename_i hg
    have := good_range hg
    exact cutN_len hh (by omega)
  · simp
theorem cutL_bad {B W : Int} {h : List UInt8} (hg : goodNo B W ≠ 0) : cutL B W h = List.replicate 32 0 := by unfold cutL; rw [if_neg hg]
theorem cutL_good {B : Int} {m : Nat} {h : List UInt8} (hg : goodNo B (m : Int) = 0) : cutL B (m : Int) h = cutN h m := by unfold cutL; rw [if_pos hg, Int.toNat_natCast]
theorem cut_clear {h : List UInt8} (hh : h.length = 32) {m : Nat} (hm : m ≤ 32) : (cutN h m).map B8 = (h.map B8).take m ++ List.replicate (32 - m) (Value.int .u8 0) ++ (h.map B8).drop (m + (32 - m)) := by
  unfold cutN
  rw [List.drop_of_length_le (by simp [hh]; omega), List.append_nil, List.map_append, List.map_take, List.map_replicate]
  rfl

end Go.Proofs.YtjdolgfhcjnniaaDoor
