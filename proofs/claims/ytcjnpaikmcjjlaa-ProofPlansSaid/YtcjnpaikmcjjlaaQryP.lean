/-
  Rows of queries, in plain terms.
-/
import Derived.Test.YtcjnpaikmcjjlaaPrfP
namespace Go.Proofs.Ytcjnpaikmcjjlaa
open Go Go.RowKit

theorem fold_set (l : List Value) : ∀ (k j : Nat) (cs : List Value), k + j + l.length ≤ cs.length → (l.zipIdx j).foldl (fun (a : Array Value) x => a.setIfInBounds (k + x.2) x.1) cs.toArray = (cs.take (k + j) ++ l ++ cs.drop (k + j + l.length)).toArray := by
  induction l with
  | nil => intro k j cs _; simp
  | cons v r ih =>
    intro k j cs h
    simp only [List.length_cons] at h
    rw [List.zipIdx_cons, List.foldl_cons, List.setIfInBounds_toArray, ih k (j + 1) _ (by simp; omega), List.set_eq_take_append_cons_drop, if_pos (by omega)]
    have := splice_step cs v r (k + j) (by omega)
    rw [show k + (j + 1) = k + j + 1 by omega, this]
    simp only [List.length_cons]
theorem fill_at {f : Nat → Option (Nat × Nat)} {A M B l : List Value} {v : Value} {i : Nat} {r : List (Nat × Value)} (hf : f i = some (A.length, M.length)) (hv : v.cells = l.toArray) (hl : l.length = M.length) : Instr.fill f (A ++ M ++ B).toArray ((i, v) :: r) = Instr.fill f (A ++ l ++ B).toArray r := by
  have hsz : v.cells.size = M.length := by rw [hv]; simpa using hl
  simp only [Instr.fill, hf, hsz]
  rw [if_neg (by simp), hv, ← Array.foldl_toList, Array.toList_zipIdx]
  have := fold_set l A.length 0 (A ++ M ++ B) (by simp; omega)
  rw [this]
  congr 1
  rw [Nat.add_zero, hl, List.append_assoc A M B, List.take_left, ← List.append_assoc, show A.length + M.length = (A ++ M).length by simp, List.drop_left]
theorem fill_query {zs : List Value} (hz : zs.length = 36) (root : List UInt8) (hr : root.length = 32) (a b c d : Int) :
    Instr.fill (#[(0, 32), (32, 1), (33, 1), (34, 1), (35, 1)][·]?) zs.toArray [(0, .agg (root.map B8).toArray), (1, .int .i64 a), (2, .int .i64 b), (3, .int .i64 c), (4, .int .i64 d)] = some (qcs ⟨root, hr, a, b, c, d⟩).toArray := by
  have h32 : (root.map B8).length = 32 := by simp [hr]
  have hz1 : zs = [] ++ zs.take 32 ++ zs.drop 32 := by simp
  have hd : (zs.drop 32).length = 4 := by simp [hz]
  obtain ⟨x, y, u, t, hxy⟩ : ∃ x y u t, zs.drop 32 = [x, y, u, t] := by
    match h : zs.drop 32, hd with
    | [x, y, u, t], _ => exact ⟨x, y, u, t, rfl⟩
  rw [hz1, hxy, fill_at (l := root.map B8) (by simp [hz]) rfl (by simp [hr, hz])]
  rw [List.nil_append, show root.map B8 ++ [x, y, u, t] = root.map B8 ++ [x] ++ [y, u, t] by simp, fill_at (M := [x]) (l := [.int .i64 a]) (by rw [h32]; rfl) rfl rfl]
  rw [show root.map B8 ++ [Value.int .i64 a] ++ [y, u, t] = (root.map B8 ++ [Value.int .i64 a]) ++ [y] ++ [u, t] by simp, fill_at (M := [y]) (l := [.int .i64 b]) (by rw [List.length_append, h32]; rfl) rfl rfl]
  rw [show root.map B8 ++ [Value.int .i64 a] ++ [Value.int .i64 b] ++ [u, t] = (root.map B8 ++ [Value.int .i64 a] ++ [Value.int .i64 b]) ++ [u] ++ [t] by simp, fill_at (M := [u]) (l := [.int .i64 c]) (by rw [List.length_append, List.length_append, h32]; rfl) rfl rfl]
  rw [show root.map B8 ++ [Value.int .i64 a] ++ [Value.int .i64 b] ++ [Value.int .i64 c] ++ [t] = (root.map B8 ++ [Value.int .i64 a] ++ [Value.int .i64 b] ++ [Value.int .i64 c]) ++ [t] ++ [] by simp, fill_at (M := [t]) (l := [.int .i64 d]) (by rw [List.length_append, List.length_append, List.length_append, h32]; rfl) rfl rfl]
  simp [Instr.fill, qcs]
theorem qcs_like (q : Qr) : Like (qcs q) (qcs q) := Like.append (Like.map _ _ rfl) (Like.cons (Like.cons (Like.cons (Like.cons Like.nil))))
theorem qcs_one (q : Qr) : ∀ u ∈ qcs q, u.oneCell' = true := fun u hu => by
  rcases List.mem_append.1 hu with h | h
  · exact one_all _ u h
  · simp only [List.mem_cons, List.not_mem_nil, or_false] at h
    rcases h with rfl | rfl | rfl | rfl <;> rfl
abbrev qz0 : Qr := ⟨List.replicate 32 0, by simp, 0, 0, 0, 0⟩
abbrev plQ (root : List UInt8) (hr : root.length = 32) (low len up k : Nat) : Qr := ⟨root, hr, low, ((k * len : Nat) : Int), len, up⟩
def planL (root : List UInt8) (hr : root.length = 32) (low len up k : Nat) : List Qr := (List.range k).map (plQ root hr low len up)
theorem planL_succ (root : List UInt8) (hr : root.length = 32) (low len up k : Nat) : planL root hr low len up (k + 1) = planL root hr low len up k ++ [plQ root hr low len up k] := by
  unfold planL; rw [List.range_succ, List.map_append]; rfl
theorem planL_len (root : List UInt8) (hr : root.length = 32) (low len up k : Nat) : (planL root hr low len up k).length = k := by simp [planL]
def stepL (m : Nat) : Nat := min 8 (2 ^ bitLen (m - 1))
def cntL (m : Nat) : Nat := (m + stepL m - 1) / stepL m
theorem stepL_pos (m : Nat) : 1 ≤ stepL m ∧ stepL m ≤ 8 := by
  have := Nat.two_pow_pos (bitLen (m - 1))
  unfold stepL; omega
theorem cnt_step {m k : Nat} (h : k * stepL m < m) : k + 1 ≤ cntL m := by
  have := stepL_pos m
  unfold cntL
  rw [Nat.le_div_iff_mul_le (by omega), Nat.succ_mul]; omega
theorem cnt_end {m k : Nat} (h : m ≤ k * stepL m) : cntL m ≤ k := by
  have := stepL_pos m
  unfold cntL
  have h2 : (m + stepL m - 1) / stepL m < k + 1 := by rw [Nat.div_lt_iff_lt_mul (by omega), Nat.succ_mul]; omega
  omega
theorem cnt_le {m : Nat} : cntL m ≤ m + 8 := by
  have := stepL_pos m
  unfold cntL
  exact Nat.le_trans (Nat.div_le_self _ _) (by omega)
def planOf (n low : Int) (root : List UInt8) (hr : root.length = 32) : List Qr := if treeE n low ≠ 0 ∨ n = 1 then [] else planL root hr low.toNat (stepL n.toNat) (bitLen (n.toNat - 1) - 1) (cntL n.toNat)
theorem planOf_ok {m l : Nat} {root : List UInt8} {hr : root.length = 32} (h : treeE m l = 0) (h1 : m ≠ 1) : planOf m l root hr = planL root hr l (stepL m) (bitLen (m - 1) - 1) (cntL m) := by
  unfold planOf; rw [if_neg (by omega)]; rfl
theorem len_pos {m : Nat} (h : 2 ≤ m) : 1 ≤ bitLen (m - 1) := by
  unfold bitLen; rw [if_neg (by omega)]; omega

theorem planOf_le {n low : Int} {root : List UInt8} {hr : root.length = 32} : (planOf n low root hr).length ≤ 281474976710656 := by
  unfold planOf
  split
  · simp
  · rename_i h
    obtain ⟨m, l, rfl, rfl, h1, h2, _⟩ := treeE_zero (n := n) (low := low) (by omega)
    rw [planL_len]
    have := cnt_le (m := m)
    rw [Int.toNat_natCast]; omega

end Go.Proofs.Ytcjnpaikmcjjlaa
