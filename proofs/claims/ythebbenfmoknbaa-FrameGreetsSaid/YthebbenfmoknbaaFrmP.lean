/-
  Frames, in plain terms.
-/
import Derived.Test.YthebbenfmoknbaaListP
namespace Go.Proofs.Ythebbenfmoknbaa
open Go Go.RowKit

def signL : List UInt8 := [19, 66, 105, 116, 84, 111, 114, 114, 101, 110, 116, 32, 112, 114, 111, 116, 111, 99, 111, 108]
theorem sign_len : signL.length = 20 := rfl
/-- A handshake's 48 bytes behind the sign. -/
abbrev Hl := { l : List UInt8 // l.length = 48 }
def greetL (h : Hl) : List UInt8 := signL ++ h.1
theorem greet_len (h : Hl) : (greetL h).length = 68 := by simp [greetL, sign_len, h.2]
theorem greet_sign (h : Hl) {i : Nat} (hi : i < 20) : (greetL h).getD i 0 = signL.getD i 0 := getD_append_left' (by rw [sign_len]; exact hi) 0
theorem greet_rest (h : Hl) {i : Nat} (hi : 20 ≤ i) : (greetL h).getD i 0 = h.1.getD (i - 20) 0 := by
  unfold greetL; rw [getD_append_right' (by rw [sign_len]; exact hi), sign_len]
theorem greet_snoc (h : Hl) {i : Nat} (hi : i < 68) {c : UInt8} (hc : c = (greetL h).getD i 0) : ((greetL h).take (i + 1)).map B8 = ((greetL h).take i).map B8 ++ [B8 c] := by
  rw [take_snoc8 (by rw [greet_len]; exact hi) 0, List.map_append, hc]; rfl
theorem sign_tail : ∀ i, i < 19 → ([66, 105, 116, 84, 111, 114, 114, 101, 110, 116, 32, 112, 114, 111, 116, 111, 99, 111, 108] : List UInt8).getD i 0 = signL.getD (i + 1) 0 := by
  intro i _; rfl

/-- What Meet tells. -/
def meetE (b : List UInt8) : Int := if b.take 20 = signL.take b.length then (if b.length < 68 then 101 else 0) else 100
def meetH (b : List UInt8) : Hl := if h : 68 ≤ b.length ∧ meetE b = 0 then ⟨(b.drop 20).take 48, by simp; omega⟩ else ⟨List.replicate 48 0, by simp⟩
theorem meet_bad {b : List UInt8} {i : Nat} (h1 : i < b.length) (h2 : i < 20) (h : b.getD i 0 ≠ signL.getD i 0) : meetE b = 100 := by
  unfold meetE
  rw [if_neg]
  intro e
  apply h
  rw [← getD_take h2 0, e, getD_take h1]
theorem meet_short {b : List UInt8} (h : b.length < 68) (h2 : b.take (min b.length 20) = signL.take (min b.length 20)) : meetE b = 101 := by
  unfold meetE
  rw [if_pos, if_pos h]
  rcases Nat.lt_or_ge b.length 20 with h3 | h3
  · rw [Nat.min_eq_left (by omega)] at h2
    rw [← h2, List.take_of_length_le (by omega), List.take_of_length_le (by omega)]
  · rw [Nat.min_eq_right h3] at h2
    rw [h2, List.take_of_length_le (by rw [sign_len]; omega), List.take_of_length_le (by rw [sign_len]; omega)]
theorem meet_ok {b : List UInt8} (h : 68 ≤ b.length) (h2 : b.take 20 = signL.take 20) : meetE b = 0 := by
  unfold meetE
  rw [if_pos, if_neg (by omega)]
  rw [h2, List.take_of_length_le (by rw [sign_len]; omega), List.take_of_length_le (by rw [sign_len]; omega)]
theorem meetE_or (b : List UInt8) : meetE b = 0 ∨ meetE b = 100 ∨ meetE b = 101 := by
  unfold meetE; split <;> (try split) <;> simp
theorem meetH_bad {b : List UInt8} (h : meetE b ≠ 0) : (meetH b).1 = List.replicate 48 0 := by unfold meetH; rw [dif_neg (by omega)]
theorem meetH_ok {b : List UInt8} (h : 68 ≤ b.length) (h2 : meetE b = 0) : (meetH b).1 = (b.drop 20).take 48 := by unfold meetH; rw [dif_pos ⟨h, h2⟩]
theorem sign_step {b : List UInt8} {i : Nat} (h1 : i < b.length) (h2 : i < 20) (h : b.take i = signL.take i) (he : b.getD i 0 = signL.getD i 0) : b.take (i + 1) = signL.take (i + 1) := by
  rw [take_snoc8 h1 0, take_snoc8 (by rw [sign_len]; exact h2) 0, h, he]
theorem b8_inj {a b : UInt8} (h : ((a.toNat : Nat) : Int) = b.toNat) : a = b := inj8 a b h
theorem hl_len (h : Hl) : (h.1.map B8).length = 48 := by simp [h.2]

theorem greet_parts (h : Hl) : greetL h = ((signL ++ (h.1.drop 0).take 8) ++ (h.1.drop 8).take 20) ++ (h.1.drop 28).take 20 := by
  unfold greetL
  rw [List.append_assoc, List.append_assoc]
  congr 1
  have e1 : (h.1.drop 28).take 20 = h.1.drop 28 := List.take_of_length_le (by simp [h.2])
  rw [e1, List.drop_zero]
  have e2 : (h.1.drop 8).take 20 ++ h.1.drop 28 = h.1.drop 8 := by
    rw [show h.1.drop 28 = (h.1.drop 8).drop 20 by rw [List.drop_drop], List.take_append_drop]
  rw [e2, List.take_append_drop]

end Go.Proofs.Ythebbenfmoknbaa
