/-
  Hexadecimal digits, in plain terms.
-/
import Derived.Test.YtcpbfnbfbladoaaDoorBytesP
import Derived.Test.YtcpbfnbfbladoaaDoorFld
namespace Go.Proofs.YtcpbfnbfbladoaaDoor
open Go Go.RowKit

def digitsL : List UInt8 := [48, 49, 50, 51, 52, 53, 54, 55, 56, 57, 97, 98, 99, 100, 101, 102]
/-- The value of a digit; 16 if it is none. -/
def hv (c : UInt8) : Nat := digitsL.findIdx (· == c)
def halfV (c : UInt8) : Int := if 48 ≤ c.toNat ∧ c.toNat ≤ 57 then ((c - 48).toNat : Int) else if 97 ≤ c.toNat ∧ c.toNat ≤ 102 then ((c - 97).toNat : Int) + 10 else -1
theorem half_all : (List.range 256).all (fun k => halfV (UInt8.ofNat k) == if hv (UInt8.ofNat k) < 16 then (hv (UInt8.ofNat k) : Int) else -1) = true := by decide +kernel
theorem half_hv (c : UInt8) : halfV c = if hv c < 16 then (hv c : Int) else -1 := by
  have := List.all_eq_true.1 half_all c.toNat (List.mem_range.2 c.toNat_lt)
  simpa using this
theorem hv_le (c : UInt8) : hv c ≤ 16 := List.findIdx_le_length
def hexOf (b : List UInt8) : List UInt8 := b.flatMap fun c => [digitsL.getD (c.toNat / 16) 0, digitsL.getD (c.toNat % 16) 0]
theorem hexOf_len : ∀ b : List UInt8, (hexOf b).length = 2 * b.length
  | [] => rfl
  | c :: b => by
    have := hexOf_len b
    simp only [hexOf, List.flatMap_cons, List.length_append, List.length_cons, List.length_nil] at this ⊢
    omega
theorem hexOf_take (b : List UInt8) {i : Nat} (hi : i < b.length) : hexOf (b.take (i + 1)) = hexOf (b.take i) ++ [digitsL.getD ((b.getD i 0).toNat / 16) 0, digitsL.getD ((b.getD i 0).toNat % 16) 0] := by
  unfold hexOf
  rw [List.take_add_one, List.flatMap_append, List.getD, List.getElem?_eq_getElem hi]
  simp [List.getElem?_eq_getElem hi]
def okD (s : List UInt8) (k : Nat) : Prop := hv (s.getD k 0) < 16
def byteAt (s : List UInt8) (j : Nat) : UInt8 := UInt8.ofNat (hv (s.getD (2 * j) 0) * 16 + hv (s.getD (2 * j + 1) 0))
def bytesTo (s : List UInt8) (j : Nat) : List UInt8 := (List.range j).map (byteAt s)
theorem bytesTo_len (s : List UInt8) (j : Nat) : (bytesTo s j).length = j := by simp [bytesTo]
theorem bytesTo_succ (s : List UInt8) (j : Nat) : bytesTo s (j + 1) = bytesTo s j ++ [byteAt s j] := by simp [bytesTo, List.range_succ]
def unhexOk (s : List UInt8) : Bool := decide (s.length % 2 = 0) && (List.range s.length).all fun k => decide (hv (s.getD k 0) < 16)
def unhexL (s : List UInt8) : List UInt8 := if unhexOk s then bytesTo s (s.length / 2) else []
def unhexE (s : List UInt8) : Int := if unhexOk s then 0 else 13
theorem unhex_odd {s : List UInt8} (h : s.length % 2 ≠ 0) : unhexL s = [] ∧ unhexE s = 13 := by
  have : unhexOk s = false := by unfold unhexOk; simp [h]
  simp [unhexL, unhexE, this]
theorem unhex_bad {s : List UInt8} {k : Nat} (hk : k < s.length) (h : ¬ okD s k) : unhexL s = [] ∧ unhexE s = 13 := by
  have : unhexOk s = false := by
    unfold unhexOk
    rw [Bool.and_eq_false_iff]
    right
    rw [List.all_eq_false]
    exact ⟨k, List.mem_range.2 hk, by simpa [okD] using h⟩
  simp [unhexL, unhexE, this]
theorem unhex_good {s : List UInt8} (h : s.length % 2 = 0) (hk : ∀ k, k < s.length → okD s k) : unhexL s = bytesTo s (s.length / 2) ∧ unhexE s = 0 := by
  have : unhexOk s = true := by
    unfold unhexOk
    rw [Bool.and_eq_true]
    refine ⟨by simpa using h, ?_⟩
    rw [List.all_eq_true]
    exact fun k hkm => by simpa [okD] using hk k (List.mem_range.1 hkm)
  simp [unhexL, unhexE, this]
theorem half_bad {s : List UInt8} {k : Nat} (h : halfV (s.getD k 0) < 0) : ¬ okD s k := by
  rw [half_hv] at h
  unfold okD
  split at h <;> omega
theorem half_ok {s : List UInt8} {k : Nat} (h : ¬ halfV (s.getD k 0) < 0) : okD s k ∧ halfV (s.getD k 0) = (hv (s.getD k 0) : Int) := by
  rw [half_hv] at h ⊢
  unfold okD
  split at h
  · rename_i h1; exact ⟨h1, by rw [if_pos h1]⟩
  · omega
theorem shl_four {h : Nat} (hh : h < 16) : IntKind.i64.wrap ((h : Int) * 2 ^ (min (4 : Int).toNat IntKind.i64.bits)) = ((h * 16 : Nat) : Int) := by
  have e : (min (4 : Int).toNat IntKind.i64.bits) = 4 := by decide
  rw [e, wrap_i64 (by omega) (by omega)]; omega
theorem or_all : (List.range 16).all (fun h => (List.range 16).all fun l => (h * 16) ||| l == h * 16 + l) = true := by decide +kernel
theorem or_four {h l : Nat} (hh : h < 16) (hl : l < 16) : IntKind.i64.wrap ((BitVec.ofInt IntKind.i64.bits ((h * 16 : Nat) : Int) ||| BitVec.ofInt IntKind.i64.bits (l : Int)).toNat : Int) = ((h * 16 + l : Nat) : Int) := by
  have e1 : (BitVec.ofInt IntKind.i64.bits ((h * 16 : Nat) : Int)).toNat = h * 16 := by
    simp only [IntKind.bits, BitVec.toNat_ofInt]; omega
  have e2 : (BitVec.ofInt IntKind.i64.bits (l : Int)).toNat = l := by
    simp only [IntKind.bits, BitVec.toNat_ofInt]; omega
  have e3 : (h * 16) ||| l = h * 16 + l := by
    have := List.all_eq_true.1 (List.all_eq_true.1 or_all h (List.mem_range.2 hh)) l (List.mem_range.2 hl)
    simpa using this
  rw [BitVec.toNat_or, e1, e2, e3, wrap_i64 (by omega) (by omega)]
theorem byte_of {n : Nat} (h : n < 256) : UInt8.ofNat (((n : Nat) : Int) % 256).toNat = UInt8.ofNat n := by congr 1; omega
theorem hv_digit : (List.range 16).all (fun k => hv (digitsL.getD k 0) == k) = true := by decide +kernel
theorem hv_of {k : Nat} (h : k < 16) : hv (digitsL.getD k 0) = k := by
  have := List.all_eq_true.1 hv_digit k (List.mem_range.2 h)
  simpa using this
theorem hexOf_at : ∀ (b : List UInt8) (j : Nat), j < b.length → (hexOf b).getD (2 * j) 0 = digitsL.getD ((b.getD j 0).toNat / 16) 0 ∧ (hexOf b).getD (2 * j + 1) 0 = digitsL.getD ((b.getD j 0).toNat % 16) 0
  | [], _, h => by simp at h
  | c :: b, 0, _ => by simp [hexOf]
  | c :: b, j + 1, h => by
    have := hexOf_at b j (by simpa using h)
    have e : hexOf (c :: b) = digitsL.getD (c.toNat / 16) 0 :: digitsL.getD (c.toNat % 16) 0 :: hexOf b := rfl
    rw [e, show 2 * (j + 1) = (2 * j + 1) + 1 by omega, show 2 * j + 1 + 1 + 1 = (2 * j + 1 + 1) + 1 by omega]
    simpa using this
theorem hex_back (b : List UInt8) : unhexL (hexOf b) = b ∧ unhexE (hexOf b) = 0 := by
  have hat : ∀ j, j < b.length → hv ((hexOf b).getD (2 * j) 0) = (b.getD j 0).toNat / 16 ∧ hv ((hexOf b).getD (2 * j + 1) 0) = (b.getD j 0).toNat % 16 := fun j hj => by
    obtain ⟨h1, h2⟩ := hexOf_at b j hj
    have := (b.getD j 0).toNat_lt
    rw [h1, h2, hv_of (by omega), hv_of (by omega)]
    exact ⟨rfl, rfl⟩
  have hl := hexOf_len b
  obtain ⟨e1, e2⟩ := unhex_good (s := hexOf b) (by omega) fun k hk => by
    unfold okD
    rcases Nat.mod_two_eq_zero_or_one k with h | h
    · have := (hat (k / 2) (by omega)).1
      have hb := (b.getD (k / 2) 0).toNat_lt
      rw [show 2 * (k / 2) = k by omega] at this
      omega
    · have := (hat (k / 2) (by omega)).2
      rw [show 2 * (k / 2) + 1 = k by omega] at this
      omega
  refine ⟨?_, e2⟩
  rw [e1, show (hexOf b).length / 2 = b.length by omega]
  apply List.ext_getElem
  · simp [bytesTo]
  · intro j h1 h2
    simp only [bytesTo, List.getElem_map, List.getElem_range, byteAt]
    rw [(hat j h2).1, (hat j h2).2]
    rw [List.getD, List.getElem?_eq_getElem h2, Option.getD_some]
    apply UInt8.toNat_inj.1
    rw [UInt8.toNat_ofNat']
    have := b[j].toNat_lt
    omega
theorem hv_here {c : UInt8} {i : Nat} (hi : i < 16) (hno : ∀ k, k < i → digitsL.getD k 0 ≠ c) (h : digitsL.getD i 0 = c) : hv c = i := by
  subst h; exact hv_of hi
theorem hv_none {c : UInt8} (hno : ∀ k, k < 16 → digitsL.getD k 0 ≠ c) : hv c = 16 := by
  rcases Nat.lt_or_ge (hv c) 16 with h | h
  · exfalso
    have := List.findIdx_getElem (xs := digitsL) (p := (· == c)) (w := h)
    refine hno (hv c) h ?_
    rw [List.getD, List.getElem?_eq_getElem h, Option.getD_some]
    exact eq_of_beq this
  · have := hv_le c; omega
theorem u8_eq {a b : UInt8} (h : ((a.toNat : Nat) : Int) = ((b.toNat : Nat) : Int)) : a = b := UInt8.toNat_inj.1 (by omega)
theorem and15 (c : UInt8) : B8 (c &&& 15) = .int .u8 ((c.toNat % 16 : Nat) : Int) := by
  show Value.int .u8 (((c &&& 15).toNat : Nat) : Int) = _
  rw [UInt8.toNat_and, show (15 : UInt8).toNat = 2 ^ 4 - 1 from rfl, Nat.and_two_pow_sub_one_eq_mod]
theorem halfV_lo {c : UInt8} (h : 48 ≤ (c.toNat : Int) ∧ (c.toNat : Int) ≤ 57) : halfV c = ((c - 48).toNat : Int) := by unfold halfV; rw [if_pos (by omega)]
theorem halfV_hi {c : UInt8} (h : 97 ≤ (c.toNat : Int) ∧ (c.toNat : Int) ≤ 102) : halfV c = ((c - 97).toNat : Int) + 10 := by unfold halfV; rw [if_neg (by omega), if_pos (by omega)]
theorem halfV_no {c : UInt8} (h : ((c.toNat : Int) < 48 ∨ 57 < (c.toNat : Int)) ∧ ((c.toNat : Int) < 97 ∨ 102 < (c.toNat : Int))) : halfV c = -1 := by unfold halfV; rw [if_neg (by omega), if_neg (by omega)]
theorem digit_len : digitsL.length = 16 := rfl
theorem half_at (s : List UInt8) (j : Nat) (h1 : okD s (2 * j)) : UInt8.ofNat (hv (s.getD (2 * j) 0)) * 16 + UInt8.ofNat (hv (s.getD (2 * j + 1) 0)) = byteAt s j := by
  unfold byteAt
  apply UInt8.toNat_inj.1
  have := hv_le (s.getD (2 * j + 1) 0)
  unfold okD at h1
  rw [UInt8.toNat_add, UInt8.toNat_mul, UInt8.toNat_ofNat', UInt8.toNat_ofNat', UInt8.toNat_ofNat']
  have e : (16 : UInt8).toNat = 16 := rfl
  rw [e]; omega

theorem okd_next {s : List UInt8} {i : Nat} (hall : ∀ k, k < i → okD s k) (h : okD s i) : ∀ k, k < i + 1 → okD s k := fun k hk => by
  rcases Nat.lt_or_ge k i with h1 | h1
  · exact hall k h1
  · obtain rfl : k = i := by omega
    exact h
/-- The row while it is read back digit by digit. -/
def outAt (s : List UInt8) (i : Nat) : List UInt8 := bytesTo s (i / 2) ++ (if i % 2 = 0 then [] else [UInt8.ofNat (hv (s.getD (i - 1) 0)) * 16])
theorem outAt_len (s : List UInt8) (i : Nat) : (outAt s i).length = (i + 1) / 2 := by
  unfold outAt
  rw [List.length_append, bytesTo_len]
  split <;> simp <;> omega
theorem outAt_even (s : List UInt8) (i : Nat) (h : i % 2 = 0) : outAt s (i + 1) = outAt s i ++ [UInt8.ofNat (hv (s.getD i 0)) * 16] := by
  unfold outAt
  rw [if_pos h, if_neg (by omega), show (i + 1) / 2 = i / 2 by omega, Nat.add_sub_cancel]
  simp
theorem outAt_odd (s : List UInt8) (i : Nat) (h : i % 2 = 1) (ok : okD s (i - 1)) : (outAt s i).set (i / 2) ((outAt s i).getD (i / 2) 0 + UInt8.ofNat (hv (s.getD i 0))) = outAt s (i + 1) := by
  obtain ⟨j, rfl⟩ : ∃ j, i = 2 * j + 1 := ⟨i / 2, by omega⟩
  unfold outAt
  rw [if_neg (by omega), if_pos (by omega), show (2 * j + 1) / 2 = j by omega, show (2 * j + 1 + 1) / 2 = j + 1 by omega, Nat.add_sub_cancel, bytesTo_succ]
  rw [List.set_append_right _ _ (by rw [bytesTo_len]; omega), bytesTo_len, Nat.sub_self, List.set_cons_zero]
  have e : (bytesTo s j ++ [UInt8.ofNat (hv (s.getD (2 * j) 0)) * 16]).getD j 0 = UInt8.ofNat (hv (s.getD (2 * j) 0)) * 16 := by
    rw [List.getD, List.getElem?_append_right (by rw [bytesTo_len]; omega), bytesTo_len, Nat.sub_self]; rfl
  rw [e, half_at s j (by simpa using ok)]
  simp
theorem outAt_end (s : List UInt8) (h : s.length % 2 = 0) : outAt s s.length = bytesTo s (s.length / 2) := by
  unfold outAt; rw [if_pos h]; simp
theorem Hp.some {w : World} {ob : Option Nat} {cs : List Value} {E : TypeId} (h : Blk w ⟨ob, cs, E⟩) (hl : 0 < cs.length) : ∃ b, ob = Option.some b := by
  cases ob with
  | none => have := h.none_ rfl; simp at this; subst this; simp at hl
  | some b => exact ⟨b, rfl⟩

theorem unhexL_len (s : List UInt8) : (unhexL s).length ≤ s.length := by
  unfold unhexL
  split
  · rw [bytesTo_len]; omega
  · simp

end Go.Proofs.YtcpbfnbfbladoaaDoor
