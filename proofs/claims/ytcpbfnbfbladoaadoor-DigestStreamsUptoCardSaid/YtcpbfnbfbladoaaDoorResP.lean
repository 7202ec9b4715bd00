/-
  Streams resumed and written to, in plain terms.
-/
import Derived.Test.YtcpbfnbfbladoaaDoorSumA
import Derived.Test.YtcpbfnbfbladoaaDoorListP
namespace Go.Proofs.YtcpbfnbfbladoaaDoor
open Go Go.RowKit

/-- Eight words, a number, a slice: what Resume goes on with; a plain stream's block. -/
abbrev midc (st : List UInt32) (d : Int) (ao : Option Addr) (n cap : Nat) : List Value := st.map B32 ++ [Value.int .i64 d, Value.slice ao n cap]
section
variable {st : List UInt32} {d : Int} {ao : Option Addr} {n cap : Nat}
theorem midc_len (h : st.length = 8) : (midc st d ao n cap).length = 10 := by simp [h]
theorem midc_one : ∀ u ∈ midc st d ao n cap, u.oneCell' = true := fun u hu => by
  rcases List.mem_append.1 hu with h | h
  · exact one_all st u h
  · rcases List.mem_cons.1 h with rfl | h
    · rfl
    · obtain rfl := List.mem_singleton.1 h; rfl
theorem midc_done {w : World} {b : Nat} (h : Cells w b 0 (midc st d ao n cap)) (hst : st.length = 8) : w.cell? ⟨b, 8, none⟩ = some (.int .i64 d) := by
  have := h.right.head
  simpa [hst] using this
theorem midc_tail {w : World} {b : Nat} (h : Cells w b 0 (midc st d ao n cap)) (hst : st.length = 8) : w.cell? ⟨b, 9, none⟩ = some (.slice ao n cap) := by
  have := (h.right.drop 1).head
  simpa [hst] using this
theorem set_app {α : Type} {A B : List α} {n k : Nat} (h : A.length = n) (v : α) : (A ++ B).set (n + k) v = A ++ B.set k v := by
  subst h; rw [List.set_append_right _ _ (by omega)]; simp
theorem midc_set9 (hst : st.length = 8) (ao' : Option Addr) (n' cap' : Nat) : (midc st d ao n cap).set 9 (.slice ao' n' cap') = midc st d ao' n' cap' := by
  have := set_app (A := st.map B32) (B := [Value.int .i64 d, Value.slice ao n cap]) (n := 8) (k := 1) (by simpa using hst) (.slice ao' n' cap')
  exact this
theorem midc_set8 (hst : st.length = 8) (d' : Int) : (midc st d ao n cap).set 8 (.int .i64 d') = midc st d' ao n cap := by
  have := set_app (A := st.map B32) (B := [Value.int .i64 d, Value.slice ao n cap]) (n := 8) (k := 0) (by simpa using hst) (.int .i64 d')
  exact this
end
theorem len8 {α : Type} {l : List α} (h : l.length = 8) : ∃ a b c d e f g i, l = [a, b, c, d, e, f, g, i] := by
  match l, h with
  | [a, b, c, d, e, f, g, i], _ => exact ⟨a, b, c, d, e, f, g, i, rfl⟩
theorem fill_mid (st : List UInt32) (hst : st.length = 8) (d : Int) : Instr.fill (#[(0, 8), (8, 1), (9, 1)][·]?) ((List.replicate 8 (0 : UInt32)).map B32 ++ ([Value.int .i64 0] ++ ([Value.slice none 0 0]))).toArray [(0, .agg (st.map B32).toArray), (1, .int .i64 d)] = some (midc st d none 0 0).toArray := by
  obtain ⟨s0, s1, s2, s3, s4, s5, s6, s7, rfl⟩ := len8 hst
  kernel_rfl
theorem fill_strm (st : List UInt32) (hst : st.length = 8) (d : Nat) : Instr.fill (#[(0, 8), (8, 1), (9, 64)][·]?) ((List.replicate 8 (0 : UInt32)).map B32 ++ ([Value.int .i64 0] ++ ((List.replicate 64 (0 : UInt8)).map B8))).toArray [(0, .agg (st.map B32).toArray), (1, .int .i64 (d : Int))] = some (strm st d (List.replicate 64 0)).toArray := by
  obtain ⟨s0, s1, s2, s3, s4, s5, s6, s7, rfl⟩ := len8 hst
  kernel_rfl
/-- What Resume does not take. -/
def midBad (st : List UInt32) (d : Int) (t : List UInt8) : Prop := d < 0 ∨ 2305843009213693951 < d ∨ (t.length : Int) ≠ d % 64 ∨ (d < 64 ∧ st ≠ fL)
theorem mid_good {st : List UInt32} {d : Int} {t : List UInt8} (h : ¬ midBad st d t) : ∃ bf : Nat, d = ((bf + t.length : Nat) : Int) ∧ bf % 64 = 0 ∧ t.length < 64 ∧ bf + t.length ≤ 2305843009213693951 ∧ (bf + t.length < 64 → st = fL) := by
  unfold midBad at h
  have h1 : ¬ d < 0 := fun h' => h (.inl h')
  have h2 : ¬ 2305843009213693951 < d := fun h' => h (.inr (.inl h'))
  have h3 : (t.length : Int) = d % 64 := Classical.byContradiction fun h' => h (.inr (.inr (.inl h')))
  refine ⟨d.toNat - t.length, by omega, by omega, by omega, by omega, fun h4 => Classical.byContradiction fun h' => h (.inr (.inr (.inr ⟨by omega, h'⟩)))⟩
/-- A stream that was resumed. -/
theorem stands_mid (st : List UInt32) (t tl : List UInt8) (ht : t.length < 64) (hl : tl.length = 64) (h : tl.take t.length = t) : Stands st t st tl := by
  have e : t.length / 64 = 0 := Nat.div_eq_of_lt ht
  have e2 : t.length % 64 = t.length := Nat.mod_eq_of_lt ht
  exact ⟨by rw [e]; rfl, hl, by rw [e, e2, h]; simp⟩
/-- A text that is written behind another, if both are not too long. -/
def wrote (bf : Nat) (text b : List UInt8) : List UInt8 := if bf + text.length + b.length ≤ 2305843009213693951 then text ++ b else text
def wroteE (bf : Nat) (text b : List UInt8) : Int := if bf + text.length + b.length ≤ 2305843009213693951 then 0 else 11
theorem wrote_le {bf : Nat} {text b : List UInt8} (h : bf + text.length ≤ 2305843009213693951) : bf + (wrote bf text b).length ≤ 2305843009213693951 := by
  unfold wrote; split
  · rw [List.length_append]; omega
  · exact h
theorem wrote_len {bf : Nat} {text b : List UInt8} : (wrote bf text b).length ≤ text.length + b.length := by
  unfold wrote; split
  · rw [List.length_append]; omega
  · omega
/-- The tail of a text: what stands behind its last whole block. -/
def tailOf (text : List UInt8) : List UInt8 := text.drop (64 * (text.length / 64))
theorem tailOf_len (text : List UInt8) : (tailOf text).length = text.length % 64 := by unfold tailOf; rw [List.length_drop]; omega

/-- Both blocks of a plain stream. -/
def rsk (br bf : Nat) (st0 : List UInt32) (text : List UInt8) (g : Gs) : List Ck := [⟨some br, midc st0 (bf : Int) (adr g.ob) text.length g.cap, 97⟩, ⟨g.ob, text.map B8 ++ g.sp, 5⟩]

end Go.Proofs.YtcpbfnbfbladoaaDoor
