/-
  The message schedule, in plain terms.
-/
import Derived.Test.YtjdolgfhcjnniaaDoorStr
namespace Go.Proofs.YtjdolgfhcjnniaaDoor
open Go Go.RowKit

/-- Turned left by s bits. -/
def rotl (x : UInt32) (s : Nat) : UInt32 := (x <<< UInt32.ofNat s) ||| (x >>> UInt32.ofNat (32 - s))
theorem wrap_sub32 {s : Nat} (hs : Nat.blt s 32 = true) : IntKind.u64.wrap (32 - (s : Int)) = ((32 - s : Nat) : Int) := by
  have hs' : s < 32 := by simpa [Nat.blt_eq] using hs
  rw [wrap_u64]; omega
theorem int_sub32 {s : Nat} (hs : Nat.blt s 32 = true) : (32 : Int) - (s : Int) = ((32 - s : Nat) : Int) := by
  have hs' : s < 32 := by simpa [Nat.blt_eq] using hs
  omega
theorem or_comm32 (a b : UInt32) : a ||| b = b ||| a := by
  apply UInt32.toNat_inj.1
  rw [UInt32.toNat_or, UInt32.toNat_or, Nat.or_comm]
abbrev z32 (n : Nat) : List Value := (List.replicate n (0 : UInt32)).map B32

/-- Four bytes as a word. -/
def w4 (b : List UInt8) (t : Nat) : UInt32 := (b.getD (4 * t) 0).toUInt32 <<< UInt32.ofNat 24 ||| (b.getD (4 * t + 1) 0).toUInt32 <<< UInt32.ofNat 16 ||| (b.getD (4 * t + 2) 0).toUInt32 <<< UInt32.ofNat 8 ||| (b.getD (4 * t + 3) 0).toUInt32
def w4r (b : List UInt8) (t : Nat) : UInt32 := (b.getD (4 * t) 0).toUInt32 * 16777216 + (b.getD (4 * t + 1) 0).toUInt32 * 65536 + (b.getD (4 * t + 2) 0).toUInt32 * 256 + (b.getD (4 * t + 3) 0).toUInt32
theorem four_bytes (a b c d : Nat) (_ha : a < 256) (hb : b < 256) (hc : c < 256) (hd : d < 256) : a <<< 24 ||| b <<< 16 ||| c <<< 8 ||| d = a * 16777216 + b * 65536 + c * 256 + d := by
  have e1 : a <<< 24 ||| b <<< 16 = (a * 256 + b) <<< 16 := by
    rw [← Nat.shiftLeft_add_eq_or_of_lt (i := 24) (by rw [Nat.shiftLeft_eq]; omega)]
    rw [Nat.shiftLeft_eq, Nat.shiftLeft_eq, Nat.shiftLeft_eq]; omega
  have e2 : (a * 256 + b) <<< 16 ||| c <<< 8 = ((a * 256 + b) * 256 + c) <<< 8 := by
    rw [← Nat.shiftLeft_add_eq_or_of_lt (i := 16) (by rw [Nat.shiftLeft_eq]; omega)]
    rw [Nat.shiftLeft_eq, Nat.shiftLeft_eq, Nat.shiftLeft_eq]; omega
  rw [e1, e2, ← Nat.shiftLeft_add_eq_or_of_lt (i := 8) (by omega), Nat.shiftLeft_eq]
  omega
theorem w4_eq (b : List UInt8) (t : Nat) : w4r b t = w4 b t := by
  have key : ∀ p q r s : UInt8, p.toUInt32 * 16777216 + q.toUInt32 * 65536 + r.toUInt32 * 256 + s.toUInt32 = p.toUInt32 <<< UInt32.ofNat 24 ||| q.toUInt32 <<< UInt32.ofNat 16 ||| r.toUInt32 <<< UInt32.ofNat 8 ||| s.toUInt32 := by
    intro p q r s
    have hp := p.toNat_lt; have hq := q.toNat_lt; have hr := r.toNat_lt; have hs := s.toNat_lt
    apply UInt32.toNat_inj.1
    have e1 : (UInt32.ofNat 24).toNat % 32 = 24 := by decide
    have e2 : (UInt32.ofNat 16).toNat % 32 = 16 := by decide
    have e3 : (UInt32.ofNat 8).toNat % 32 = 8 := by decide
    simp only [UInt32.toNat_or, UInt32.toNat_shiftLeft, UInt32.toNat_add, UInt32.toNat_mul, UInt8.toNat_toUInt32, e1, e2, e3]
    have m1 : p.toNat <<< 24 % 2 ^ 32 = p.toNat <<< 24 := Nat.mod_eq_of_lt (by rw [Nat.shiftLeft_eq]; omega)
    have m2 : q.toNat <<< 16 % 2 ^ 32 = q.toNat <<< 16 := Nat.mod_eq_of_lt (by rw [Nat.shiftLeft_eq]; omega)
    have m3 : r.toNat <<< 8 % 2 ^ 32 = r.toNat <<< 8 := Nat.mod_eq_of_lt (by rw [Nat.shiftLeft_eq]; omega)
    rw [m1, m2, m3, four_bytes _ _ _ _ hp hq hr hs]
    have c1 : (16777216 : UInt32).toNat = 16777216 := rfl
    have c2 : (65536 : UInt32).toNat = 65536 := rfl
    have c3 : (256 : UInt32).toNat = 256 := rfl
    rw [c1, c2, c3]
    omega
  exact key _ _ _ _
def ex1 (b : List UInt8) : Nat → List UInt32
  | 0 => List.replicate 64 0
  | t + 1 => (ex1 b t).set t (w4 b t)
def sg0 (x : UInt32) : UInt32 := rotl x 25 ^^^ rotl x 14 ^^^ x >>> UInt32.ofNat 3
def sg1 (x : UInt32) : UInt32 := rotl x 15 ^^^ rotl x 13 ^^^ x >>> UInt32.ofNat 10
def nextw (w : List UInt32) (t : Nat) : UInt32 := sg1 (w.getD (t - 2) 0) + w.getD (t - 7) 0 + sg0 (w.getD (t - 15) 0) + w.getD (t - 16) 0
def ex2 (b : List UInt8) : Nat → List UInt32
  | 0 => ex1 b 16
  | j + 1 => (ex2 b j).set (16 + j) (nextw (ex2 b j) (16 + j))
/-- The message schedule of a block. -/
def expand (b : List UInt8) : List UInt32 := ex2 b 48
theorem ex1_len (b : List UInt8) : ∀ t, (ex1 b t).length = 64
  | 0 => by simp [ex1]
  | t + 1 => by simp [ex1, ex1_len b t]
theorem ex2_len (b : List UInt8) : ∀ t, (ex2 b t).length = 64
  | 0 => by simp [ex2, ex1_len]
  | t + 1 => by simp [ex2, ex2_len b t]
theorem expand_len (b : List UInt8) : (expand b).length = 64 := ex2_len b 48
/-- The same in one row of rounds. -/
def ex3 (b : List UInt8) : Nat → List UInt32
  | 0 => List.replicate 64 0
  | t + 1 => if t < 16 then (ex3 b t).set t (w4r b t) else (ex3 b t).set t (nextw (ex3 b t) t)
theorem ex3_len (b : List UInt8) : ∀ t, (ex3 b t).length = 64
  | 0 => by simp [ex3]
  | t + 1 => by simp only [ex3]; split <;> simp [ex3_len b t]
theorem ex3_lo (b : List UInt8) : ∀ t, t ≤ 16 → ex3 b t = ex1 b t
  | 0, _ => rfl
  | t + 1, h => by simp only [ex3, ex1]; rw [if_pos (by omega), ex3_lo b t (by omega), w4_eq]
theorem ex3_hi (b : List UInt8) : ∀ j, ex3 b (16 + j) = ex2 b j
  | 0 => ex3_lo b 16 (by omega)
  | j + 1 => by
    show ex3 b (16 + j + 1) = _
    simp only [ex3, ex2]; rw [if_neg (by omega), ex3_hi b j]
theorem ex3_all (b : List UInt8) : ex3 b 64 = expand b := ex3_hi b 48
attribute [irreducible] expand

theorem right_rot (x : UInt32) (s : Nat) (hs : s ≤ 32) : (x >>> UInt32.ofNat s ||| x <<< UInt32.ofNat (32 - s)) = rotl x (32 - s) := by
  unfold rotl
  rw [or_comm32, show 32 - (32 - s) = s by omega]

end Go.Proofs.YtjdolgfhcjnniaaDoor
