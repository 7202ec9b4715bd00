/-
  What is wrapped, in plain terms.
-/
import Derived.Test.YthebbenfmoknbaaRdrP
namespace Go.Proofs.Ythebbenfmoknbaa
open Go Go.RowKit

def okS (s : Sl) : Bool := decide (s.bs.length ≤ 32768)
def sentL (l : List Sl) (i : Nat) : List Sl := (l.take i).filter okS
def catL (l : List Sl) (i : Nat) : List UInt8 := (l.take i).flatMap fun s => wrapL s.bs
theorem le_sum_of : ∀ {l : List Sl} {s : Sl}, s ∈ l → s.bs.length ≤ (l.map fun s => s.bs.length).sum
  | x :: l, s, h => by
    rcases List.mem_cons.1 h with rfl | h
    · simp
    · have := le_sum_of h; simp only [List.map_cons, List.sum_cons]; omega
theorem take_sl {l : List Sl} {i : Nat} (h : i < l.length) : l.take (i + 1) = l.take i ++ [l.getD i ⟨none, [], 0⟩] := take_snoc8 h _
theorem cat_succ {l : List Sl} {i : Nat} (h : i < l.length) : catL l (i + 1) = catL l i ++ wrapL (l.getD i ⟨none, [], 0⟩).bs := by
  unfold catL; rw [take_sl h, List.flatMap_append]; simp
theorem sent_ok {l : List Sl} {i : Nat} (h : i < l.length) (hk : (l.getD i ⟨none, [], 0⟩).bs.length ≤ 32768) : sentL l (i + 1) = sentL l i ++ [l.getD i ⟨none, [], 0⟩] := by
  unfold sentL; rw [take_sl h, List.filter_append]; congr 1
  rw [List.filter_cons_of_pos (by simp only [okS]; exact decide_eq_true hk)]; rfl
theorem sent_no {l : List Sl} {i : Nat} (h : i < l.length) (hk : 32768 < (l.getD i ⟨none, [], 0⟩).bs.length) : sentL l (i + 1) = sentL l i := by
  unfold sentL; rw [take_sl h, List.filter_append, List.filter_cons_of_neg (by simp only [okS, decide_eq_true_eq]; omega)]; simp
theorem cat_no {l : List Sl} {i : Nat} (h : i < l.length) (hk : 32768 < (l.getD i ⟨none, [], 0⟩).bs.length) : catL l (i + 1) = catL l i := by
  rw [cat_succ h, (wrap_big hk).1, List.append_nil]
theorem sent_len (l : List Sl) (i : Nat) : (sentL l i).length ≤ l.length := by
  unfold sentL; exact Nat.le_trans (List.length_filter_le _ _) (by simp; omega)
theorem sum_take (l : List Sl) (i : Nat) : ((l.take i).map fun s => s.bs.length).sum ≤ (l.map fun s => s.bs.length).sum := by
  conv => rhs; rw [← List.take_append_drop i l]
  rw [List.map_append, List.sum_append]; omega
theorem cat_len_ : ∀ l : List Sl, (l.flatMap fun s => wrapL s.bs).length ≤ (l.map fun s => s.bs.length).sum + 4 * l.length
  | [] => by simp
  | s :: l => by
    have := cat_len_ l
    have h2 : (wrapL s.bs).length ≤ 4 + s.bs.length := by
      unfold wrapL; split
      · simp
      · rw [List.length_append, four_len]; omega
    simp only [List.flatMap_cons, List.length_append, List.map_cons, List.sum_cons, List.length_cons]
    omega
theorem cat_len (l : List Sl) (i : Nat) : (catL l i).length ≤ (l.map fun s => s.bs.length).sum + 4 * l.length := by
  have h1 := cat_len_ (l.take i)
  have h2 := sum_take l i
  have h3 : (l.take i).length ≤ l.length := by simp; omega
  unfold catL; omega
theorem num4_four {n : Nat} (h : n < 4294967296) (t : List UInt8) : num4 (four n ++ t) = n := by
  rw [num4_app t rfl]
  simp only [num4, four, List.getD_cons_zero, List.getD_cons_succ]
  simp only [UInt8.toNat_ofNat']
  omega
theorem split_wrap {x : List UInt8} (hx : x.length ≤ 32768) (t : List UInt8) : split (wrapL x ++ t) = joinS [x] (wrapL x).length (split t) := by
  rw [(wrap_ok hx).1, List.append_assoc]
  have hn := num4_four (n := x.length) (by omega) (x ++ t)
  rw [split_more (by simp [four_len]) (by rw [hn]; exact hx) (by rw [hn]; simp [four_len]), hn, List.drop_left' (four_len _), List.take_left]
  have e : (four x.length ++ (x ++ t)).drop (4 + x.length) = t := by rw [← List.append_assoc]; exact List.drop_left' (by simp [four_len])
  rw [e, List.length_append, four_len]
theorem split_cat_ : ∀ (l : List Sl), (∀ s ∈ l, s.bs.length ≤ 32768) → ∀ t, split ((l.flatMap fun s => wrapL s.bs) ++ t) = joinS (l.map Sl.bs) (l.flatMap fun s => wrapL s.bs).length (split t)
  | [], _, t => by simp [joinS]
  | s :: l, h, t => by
    rw [List.flatMap_cons, List.append_assoc, split_wrap (h s (by simp)), split_cat_ l (fun s hs => h s (by simp [hs])), joinS_join, List.length_append]
    rfl
theorem cat_filter : ∀ l : List Sl, (l.flatMap fun s => wrapL s.bs) = (l.filter okS).flatMap fun s => wrapL s.bs
  | [] => rfl
  | s :: l => by
    rw [List.flatMap_cons]
    by_cases h : s.bs.length ≤ 32768
    · rw [List.filter_cons_of_pos (by simp only [okS]; exact decide_eq_true h), List.flatMap_cons, cat_filter l]
    · rw [List.filter_cons_of_neg (by simp only [okS, decide_eq_true_eq]; exact h), (wrap_big (by omega)).1, List.nil_append, cat_filter l]
theorem split_cat (l : List Sl) (i : Nat) (t : List UInt8) : split (catL l i ++ t) = joinS ((sentL l i).map Sl.bs) (catL l i).length (split t) := by
  have e : catL l i = (sentL l i).flatMap fun s => wrapL s.bs := cat_filter (l.take i)
  rw [e]
  exact split_cat_ _ (fun s hs => of_decide_eq_true (List.mem_filter.1 hs).2) t
theorem sent_mem {l : List Sl} {i : Nat} {s : Sl} (h : s ∈ sentL l i) : s ∈ l := List.mem_of_mem_take (List.mem_filter.1 h).1
theorem rdAll_sent {w : World} {l : List Sl} {i : Nat} (h : RdAll w l) : RdAll w (sentL l i) := fun s hs => h s (sent_mem hs)
theorem split_stop {l : List Sl} {i n : Nat} (h : 32768 < n ∧ n < 4294967296) (t : List UInt8) : split (catL l i ++ four n ++ t) = ((sentL l i).map Sl.bs, (catL l i).length, 102) := by
  rw [List.append_assoc, split_cat, split_big (by simp [four_len]) (by rw [num4_four h.2]; exact h.1)]
  simp [joinS]

theorem greet_meet (h : Hl) (t : List UInt8) : meetE (greetL h ++ t) = 0 ∧ meetH (greetL h ++ t) = h := by
  have h0 : meetE (greetL h ++ t) = 0 := meet_ok (by rw [List.length_append, greet_len]; omega) (by unfold greetL; rw [List.append_assoc, List.take_left' sign_len, List.take_of_length_le (by rw [sign_len]; omega)])
  refine ⟨h0, Subtype.ext ?_⟩
  rw [meetH_ok (by rw [List.length_append, greet_len]; omega) h0]
  unfold greetL
  rw [List.append_assoc, List.drop_left' sign_len, List.take_left' h.2]
abbrev carL (h : Hl) (l : List Sl) : List UInt8 := greetL h ++ catL l l.length
theorem read_carry (h : Hl) (t : List UInt8) : readS true (greetL h ++ t) = ([h], joinS [] 68 (split t)) := by
  rw [read_yes (greet_meet h t).1, (greet_meet h t).2, List.drop_left' (greet_len h)]
theorem read_all (h : Hl) (l : List Sl) : readS true (carL h l) = ([h], (sentL l l.length).map Sl.bs, (carL h l).length, 0) := by
  have e := split_cat l l.length []
  rw [List.append_nil] at e
  rw [read_carry, e, joinS_join, split_short (by simp), List.length_append, greet_len]
  simp [joinS]
theorem cat_sent (l : List Sl) : catL l l.length = (sentL l l.length).flatMap fun s => wrapL s.bs := cat_filter (l.take l.length)
theorem four_take {x : List UInt8} (hx : x.length ≤ 32768) : split ((wrapL x).take (3 + x.length)) = ([], 0, 0) := by
  rw [(wrap_ok hx).1]
  by_cases h0 : x.length = 0
  · rw [h0]
    exact split_short (by simp; omega)
  · have e : (four x.length ++ x).take (3 + x.length) = four x.length ++ x.take (x.length - 1) := by
      rw [show 3 + x.length = (four x.length).length + (x.length - 1) by rw [four_len]; omega, List.take_length_add_append]
    rw [e]
    have hn := num4_four (n := x.length) (by omega) (x.take (x.length - 1))
    exact split_part (by rw [List.length_append, four_len]; omega) (by rw [hn]; exact hx) (by rw [hn, List.length_append, four_len, List.length_take]; omega)
theorem sent_le {l : List Sl} {i : Nat} {s : Sl} (h : s ∈ sentL l i) : s.bs.length ≤ 32768 := of_decide_eq_true (List.mem_filter.1 h).2
/-- All but the last byte. -/
theorem less_none (h : Hl) {l : List Sl} (hS : sentL l l.length = []) : readS true ((carL h l).take ((carL h l).length - 1)) = ([], [], 0, 0) ∧ (carL h l).length = 68 := by
  have e : carL h l = greetL h := by unfold carL; rw [cat_sent, hS]; simp
  rw [e, greet_len]
  have h1 : meetE ((greetL h).take 67) = 101 := by
    refine meet_short (by rw [List.length_take, greet_len]; omega) ?_
    rw [List.length_take, greet_len]
    unfold greetL
    rw [List.take_take, List.take_append_of_le_length (by rw [sign_len]; omega)]
    rfl
  exact ⟨read_wait (by rw [h1]; decide) (by rw [h1]; decide), rfl⟩
theorem less_some (h : Hl) {l : List Sl} (S : List Sl) (hS : sentL l l.length = S) (hne : S.length ≠ 0) :
    ∃ c, readS true ((carL h l).take ((carL h l).length - 1)) = ([h], (S.take (S.length - 1)).map Sl.bs, c, 0) ∧ (carL h l).length - 1 - c = (S.getD (S.length - 1) ⟨none, [], 0⟩).bs.length + 3 ∧ c ≤ (carL h l).length - 1 := by
  obtain ⟨k, hk⟩ : ∃ k, S.length = k + 1 := ⟨S.length - 1, by omega⟩
  obtain ⟨x, hx⟩ : ∃ x, x = S.getD k ⟨none, [], 0⟩ := ⟨_, rfl⟩
  have eS : S = S.take k ++ [x] := by
    rw [hx, ← take_snoc8 (by omega) _, ← hk, List.take_length]
  rw [hk, show k + 1 - 1 = k from rfl, ← hx]
  have hxs : x.bs.length ≤ 32768 := sent_le (l := l) (i := l.length) (by rw [hS, eS]; simp)
  have hw : (wrapL x.bs).length = 4 + x.bs.length := wrap_len hxs
  obtain ⟨P, hP⟩ : ∃ P, P = (S.take k).flatMap fun s => wrapL s.bs := ⟨_, rfl⟩
  have hcat : catL l l.length = P ++ wrapL x.bs := by
    rw [cat_sent, hS, hP]
    conv => lhs; rw [eS]
    rw [List.flatMap_append]; simp
  have hlen : (carL h l).length = 68 + (P.length + (4 + x.bs.length)) := by
    unfold carL; rw [hcat, List.length_append, greet_len, List.length_append, hw]
  have htk : (carL h l).take ((carL h l).length - 1) = greetL h ++ (P ++ (wrapL x.bs).take (3 + x.bs.length)) := by
    rw [hlen]; unfold carL
    rw [hcat, show 68 + (P.length + (4 + x.bs.length)) - 1 = (greetL h).length + (P.length + (3 + x.bs.length)) by rw [greet_len]; omega, List.take_length_add_append, List.take_length_add_append]
  refine ⟨68 + P.length, ?_, by rw [hlen]; omega, by rw [hlen]; omega⟩
  rw [htk, read_carry, hP, split_cat_ _ (fun s hs => sent_le (l := l) (i := l.length) (by rw [hS]; exact List.mem_of_mem_take hs)), four_take hxs]
  simp [joinS]
theorem less_err (h : Hl) (l : List Sl) : (readS true ((carL h l).take ((carL h l).length - 1))).2.2.2 = 0 := by
  by_cases hS : (sentL l l.length).length = 0
  · rw [(less_none h (List.length_eq_zero_iff.1 hS)).1]
  · obtain ⟨c, hc, _⟩ := less_some h _ rfl hS
    rw [hc]
theorem one_of {bs : List Bs} {x : List UInt8} (h : bs.map Bs.bs = [x]) : ∃ y, bs = [y] ∧ y.bs = x := by
  match bs, h with
  | [y], h => exact ⟨y, rfl, by simpa using h⟩

theorem last_of {bs : List Bs} {S : List Sl} {y : Sl} (hn : S.length ≠ 0) (hy : y = S.getD (S.length - 1) ⟨none, [], 0⟩) (h : (S.take (S.length - 1)).map Sl.bs ++ bs.map Bs.bs = S.map Sl.bs) : bs.map Bs.bs = [y.bs] := by
  have e0 : S = S.take (S.length - 1) ++ [y] := by rw [hy, ← take_snoc8 (by omega) _, Nat.sub_add_cancel (by omega), List.take_length]
  have e : S.map Sl.bs = (S.take (S.length - 1)).map Sl.bs ++ [y.bs] := by
    conv => lhs; rw [e0]
    simp
  exact List.append_cancel_left (h.trans e)

end Go.Proofs.Ythebbenfmoknbaa
