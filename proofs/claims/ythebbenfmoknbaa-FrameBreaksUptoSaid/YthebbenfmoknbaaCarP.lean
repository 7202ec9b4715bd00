/-
  What is wrapped, in plain terms.
-/
import Derived.Test.YthebbenfmoknbaaRdrP
namespace Go.Proofs.Ythebbenfmoknbaa
open Go Go.RowKit

def okS (s : Sl) : Bool := decide (s.bs.length ≤ 32768)
def sentL (l : List Sl) (i : Nat) : List Sl := (l.take i).filter okS
def catL (l : List Sl) (i : Nat) : List UInt8 := (l.take i).flatMap fun s => wrapL s.bs
theorem le_sum_of : ∀ {l : List Sl} {s : Sl}, s ∈ l → s.bs.length ≤ (l.map fun s => s.bs.length).sum
  | x :: l, s, h => by
    rcases List.mem_cons.1 h with rfl | h
    · simp
    · have := le_sum_of h; simp only [List.map_cons, List.sum_cons]; omega
theorem take_sl {l : List Sl} {i : Nat} (h : i < l.length) : l.take (i + 1) = l.take i ++ [l.getD i ⟨none, [], 0⟩] := take_snoc8 h _
theorem cat_succ {l : List Sl} {i : Nat} (h : i < l.length) : catL l (i + 1) = catL l i ++ wrapL (l.getD i ⟨none, [], 0⟩).bs := by
  unfold catL; rw [take_sl h, List.flatMap_append]; simp
theorem sent_ok {l : List Sl} {i : Nat} (h : i < l.length) (hk : (l.getD i ⟨none, [], 0⟩).bs.length ≤ 32768) : sentL l (i + 1) = sentL l i ++ [l.getD i ⟨none, [], 0⟩] := by
  unfold sentL; rw [take_sl h, List.filter_append]; congr 1
  rw [List.filter_cons_of_pos (by simp only [okS]; exact decide_eq_true hk)]; rfl
theorem sent_no {l : List Sl} {i : Nat} (h : i < l.length) (hk : 32768 < (l.getD i ⟨none, [], 0⟩).bs.length) : sentL l (i + 1) = sentL l i := by
  unfold sentL; rw [take_sl h, List.filter_append, List.filter_cons_of_neg (by simp only [okS, decide_eq_true_eq]; omega)]; simp
theorem cat_no {l : List Sl} {i : Nat} (h : i < l.length) (hk : 32768 < (l.getD i ⟨none, [], 0⟩).bs.length) : catL l (i + 1) = catL l i := by
  rw [cat_succ h, (wrap_big hk).1, List.append_nil]
theorem sent_len (l : List Sl) (i : Nat) : (sentL l i).length ≤ l.length := by
  unfold sentL; exact Nat.le_trans (List.length_filter_le _ _) (by simp; omega)
theorem sum_take (l : List Sl) (i : Nat) : ((l.take i).map fun s => s.bs.length).sum ≤ (l.map fun s => s.bs.length).sum := by
  conv => rhs; rw [← List.take_append_drop i l]
  rw [List.map_append, List.sum_append]; omega
theorem cat_len_ : ∀ l : List Sl, (l.flatMap fun s => wrapL s.bs).length ≤ (l.map fun s => s.bs.length).sum + 4 * l.length
  | [] => by simp
  | s :: l => by
    have := cat_len_ l
    have h2 : (wrapL s.bs).length ≤ 4 + s.bs.length := by
      unfold wrapL; split
      · simp
      · rw [List.length_append, four_len]; omega
    simp only [List.flatMap_cons, List.length_append, List.map_cons, List.sum_cons, List.length_cons]
    omega
theorem cat_len (l : List Sl) (i : Nat) : (catL l i).length ≤ (l.map fun s => s.bs.length).sum + 4 * l.length := by
  have h1 := cat_len_ (l.take i)
  have h2 := sum_take l i
  have h3 : (l.take i).length ≤ l.length := by simp; omega
  unfold catL; omega
theorem num4_four {n : Nat} (h : n < 4294967296) (t : List UInt8) : num4 (four n ++ t) = n := by
  rw [num4_app t rfl]
  simp only [num4, four, List.getD_cons_zero, List.getD_cons_succ]
  simp only [UInt8.toNat_ofNat']
  omega
theorem split_wrap {x : List UInt8} (hx : x.length ≤ 32768) (t : List UInt8) : split (wrapL x ++ t) = joinS [x] (wrapL x).length (split t) := by
  rw [(wrap_ok hx).1, List.append_assoc]
  have hn := num4_four (n := x.length) (by omega) (x ++ t)
  rw [split_more (by simp [four_len]) (by rw [hn]; exact hx) (by rw [hn]; simp [four_len]), hn, List.drop_left' (four_len _), List.take_left]
  have e : (four x.length ++ (x ++ t)).drop (4 + x.length) = t := by rw [← List.append_assoc]; exact List.drop_left' (by simp [four_len])
  rw [e, List.length_append, four_len]
theorem split_cat_ : ∀ (l : List Sl), (∀ s ∈ l, s.bs.length ≤ 32768) → ∀ t, split ((l.flatMap fun s => wrapL s.bs) ++ t) = joinS (l.map Sl.bs) (l.flatMap fun s => wrapL s.bs).length (split t)
  | [], _, t => by simp [joinS]
  | s :: l, h, t => by
    rw [List.flatMap_cons, List.append_assoc, split_wrap (h s (by simp)), split_cat_ l (fun s hs => h s (by simp [hs])), joinS_join, List.length_append]
    rfl
theorem cat_filter : ∀ l : List Sl, (l.flatMap fun s => wrapL s.bs) = (l.filter okS).flatMap fun s => wrapL s.bs
  | [] => rfl
  | s :: l => by
    rw [List.flatMap_cons]
    by_cases h : s.bs.length ≤ 32768
    · rw [List.filter_cons_of_pos (by simp only [okS]; exact decide_eq_true h), List.flatMap_cons, cat_filter l]
    · rw [List.filter_cons_of_neg (by simp only [okS, decide_eq_true_eq]; exact h), (wrap_big (by omega)).1, List.nil_append, cat_filter l]
theorem split_cat (l : List Sl) (i : Nat) (t : List UInt8) : split (catL l i ++ t) = joinS ((sentL l i).map Sl.bs) (catL l i).length (split t) := by
  have e : catL l i = (sentL l i).flatMap fun s => wrapL s.bs := cat_filter (l.take i)
  rw [e]
  exact split_cat_ _ (fun s hs => of_decide_eq_true (List.mem_filter.1 hs).2) t
theorem sent_mem {l : List Sl} {i : Nat} {s : Sl} (h : s ∈ sentL l i) : s ∈ l := List.mem_of_mem_take (List.mem_filter.1 h).1
theorem rdAll_sent {w : World} {l : List Sl} {i : Nat} (h : RdAll w l) : RdAll w (sentL l i) := fun s hs => h s (sent_mem hs)
theorem split_stop {l : List Sl} {i n : Nat} (h : 32768 < n ∧ n < 4294967296) (t : List UInt8) : split (catL l i ++ four n ++ t) = ((sentL l i).map Sl.bs, (catL l i).length, 102) := by
  rw [List.append_assoc, split_cat, split_big (by simp [four_len]) (by rw [num4_four h.2]; exact h.1)]
  simp [joinS]

end Go.Proofs.Ythebbenfmoknbaa
