/-
  Trees, leaves, in plain terms.
-/
import Derived.Test.YtjdolgfhcjnniaaDoorStreamP
import Derived.Test.YtjdolgfhcjnniaaDoorCutP
import Derived.Test.YtjdolgfhcjnniaaDoorListP
namespace Go.Proofs.YtjdolgfhcjnniaaDoor
open Go Go.RowKit

/-- A hash. -/
abbrev Hs := {l : List UInt8 // l.length = 32}
def hcs (h : Hs) : List Value := h.1.map B8
theorem hcs_len (h : Hs) : (hcs h).length = 32 := by simp [hcs, h.2]
theorem hcs_one (h : Hs) : ∀ u ∈ hcs h, u.oneCell' = true := one_all _
abbrev hz0 : Hs := ⟨List.replicate 32 0, by simp⟩
theorem hcs_zero : (List.replicate 32 (0 : UInt8)).map B8 = hcs hz0 := rfl
theorem hcs_inj {a b : Hs} (h : hcs a = hcs b) : a = b := by
  apply Subtype.ext
  refine List.map_inj_right ?_ |>.1 h
  intro x y hxy
  have h1 : ((x.toNat : Nat) : Int) = (y.toNat : Int) := by simpa [B8] using hxy
  exact UInt8.toNat_inj.1 (by omega)
/-- The hash above two. -/
def hashL (B W : Int) (a : List UInt8) : Hs := ⟨cutL B W (sumOf a), cutL_len (sumOf_len _) B W⟩
def aboveL (B W : Int) (l r : Hs) : Hs := hashL B W (l.1 ++ r.1)
def zeroL (B W : Int) : Nat → Hs
  | 0 => hz0
  | h + 1 => aboveL B W (zeroL B W h) (zeroL B W h)
/-- What Zero answers. -/
def zeroE (B W h : Int) : Int := if goodNo B W ≠ 0 then goodNo B W else if h < 0 ∨ 48 < h then 60 else 0
def zeroV (B W h : Int) : Hs := if zeroE B W h = 0 then zeroL B W h.toNat else hz0
def pairV (B W : Int) (l r : Hs) : Hs := if goodNo B W = 0 then aboveL B W l r else hz0
theorem fill1 {s : Nat} {u zv : Value} {new : List Value} (hu : u.cells = new.toArray) (hl : new.length = s) : Instr.fill (fun i => some (i * s, s)) ((Array.range (1 * s)).map (zv.cells[· % zv.cells.size]!)) [(0, u)] = some new.toArray := by
  have hsz : ((Array.range (1 * s)).map (zv.cells[· % zv.cells.size]!)).size = s := by simp
  simp only [Instr.fill, hu, List.size_toArray, hl, ne_eq, not_true_eq_false, Nat.zero_mul, Nat.zero_add, hsz, decide_false, Bool.false_or, gt_iff_lt, Nat.lt_irrefl]
  have hz : ∀ (l : List Value) (off : Nat) (cs : Array Value), off + l.length ≤ cs.size → l.toArray.zipIdx.foldl (fun cs (c, j) => cs.setIfInBounds (off + j) c) cs = (cs.toList.take off ++ l ++ cs.toList.drop (off + l.length)).toArray := by
    intro l off cs hfit
    rw [← Array.foldl_toList]
    simp only [Array.toList_zipIdx]
    have gen : ∀ (l : List Value) (k : Nat) (cs : Array Value), off + k + l.length ≤ cs.size → (l.zipIdx k).foldl (fun cs (c, j) => cs.setIfInBounds (off + j) c) cs = (cs.toList.take (off + k) ++ l ++ cs.toList.drop (off + k + l.length)).toArray := by
      intro l
      induction l with
      | nil => intro k cs _; simp
      | cons v r ih =>
        intro k cs hf
        simp only [List.length_cons] at hf
        rw [List.zipIdx_cons, List.foldl_cons, ih (k + 1) _ (by simp; omega)]
        have hlt : off + k < cs.toList.length := by simpa using (by omega : off + k < cs.size)
        have hset : (cs.setIfInBounds (off + k) v).toList = cs.toList.take (off + k) ++ v :: cs.toList.drop (off + k + 1) := by
          rw [Array.toList_setIfInBounds, List.set_eq_take_append_cons_drop, if_pos hlt]
        rw [hset, show off + (k + 1) = off + k + 1 by omega, splice_step _ _ _ _ hlt]
        simp only [List.length_cons]
    simpa using gen l 0 cs (by simpa using hfit)
  have h2 := hz new 0 ((Array.range s).map (zv.cells[· % zv.cells.size]!)) (by simp [hl])
  simp only [Nat.zero_add, List.take_zero, List.nil_append] at h2
  rw [Nat.one_mul, h2]
  rw [List.drop_of_length_le (by simp [hl])]
  simp

section
variable {P : Program} {Q : Exit → Act → World → Prop} {n : Nat} {F : Fr} {w : World} {ops : Array Oper} {rest : List Oper} {ty : TypeId} {pos : String} {af : Array Edge} {d : Tmp}
/-- A function value. -/
theorem ov_makeFunc {f : FuncId} {xs ys : List Operand} {vs us : List Value} (hxs : evs F xs = some vs) (hys : evs F ys = some us) : OpV P F w (.makeFunc (.func f) xs.toArray ys.toArray) ty (.func (.func f) vs.toArray us.toArray) := by
  intro n a ha o ho _
  have h1 := ha.evals hxs
  have h2 := ha.evals hys
  simp [execOp, ho, Instr.makeFunc, h1, h2]
theorem st_callV_ {f : FuncId} {g : Operand} {fs cs : List Value} {xs : List Operand} {vs : List Value} {ats : Array TypeId} {R : Ending → World → Prop} (hf : Plain P f) (hg : evF F g = some (.func (.func f) fs.toArray cs.toArray)) (hxs : evs F xs = some vs)
    (h : Calls P f (fs ++ vs ++ cs).toArray w R) (k : ∀ e w', R e w' → ∃ v, e = .returned v ∧ St P Q n ops rest F w') :
    St P Q n ops (⟨none, .call { callee := .value g, args := xs.toArray, argTypes := ats }, ty, pos, af, none⟩ :: rest) F w := by
  intro a ha
  refine wpList_plain rfl fun K hK => ?_
  obtain ⟨fn, hfn, hn, hb⟩ := hf
  have he : (execOp a.eval ⟨none, .call { callee := .value g, args := xs.toArray, argTypes := ats }, ty, pos, af, none⟩).run P w = .ok (.enter f (fs ++ vs ++ cs).toArray) w := by
    have hb' : fn.body ≠ none := by cases hbo : fn.body <;> simp_all
    have hn' : fn.name ≠ "runtime.NumGoroutine" := by simpa using hn
    simp [execOp, resolve, ha.eval hg, ha.evals hxs, Deferred.ofValue, invoke, callFunc, hfn, hn', hb']
  unfold Oper.wp
  rw [he, Oper.upon_enter]
  refine h.mono fun e w' hR => ?_
  obtain ⟨v, rfl, hk⟩ := k e w' hR
  exact hK _ _ (hk _ ha)
theorem st_callV {f : FuncId} {g : Operand} {fs cs : List Value} {xs : List Operand} {vs : List Value} {ats : Array TypeId} {R : Ending → World → Prop} (hf : Plain P f) (hg : evF F g = some (.func (.func f) fs.toArray cs.toArray)) (hxs : evs F xs = some vs) (hd : Nat.blt d n = true)
    (h : Calls P f (fs ++ vs ++ cs).toArray w R) (k : ∀ e w', R e w' → ∃ v, e = .returned v ∧ St P Q n ops rest ((d, v) :: F) w') :
    St P Q n ops (⟨some d, .call { callee := .value g, args := xs.toArray, argTypes := ats }, ty, pos, af, none⟩ :: rest) F w := by
  intro a ha
  refine wpList_plain rfl fun K hK => ?_
  obtain ⟨fn, hfn, hn, hb⟩ := hf
  have he : (execOp a.eval ⟨some d, .call { callee := .value g, args := xs.toArray, argTypes := ats }, ty, pos, af, none⟩).run P w = .ok (.enter f (fs ++ vs ++ cs).toArray) w := by
    have hb' : fn.body ≠ none := by cases hbo : fn.body <;> simp_all
    have hn' : fn.name ≠ "runtime.NumGoroutine" := by simpa using hn
    simp [execOp, resolve, ha.eval hg, ha.evals hxs, Deferred.ofValue, invoke, callFunc, hfn, hn', hb']
  unfold Oper.wp
  rw [he, Oper.upon_enter]
  refine h.mono fun e w' hR => ?_
  obtain ⟨v, rfl, hk⟩ := k e w' hR
  exact hK _ _ (hk _ (ha.put hd v))
end

theorem good_block {B W : Int} (h : goodNo B W = 0) : ∃ m : Nat, B = (m : Int) ∧ 64 ≤ m ∧ m ≤ 16384 := by
  have h1 : ¬ B < 64 := fun h9 => by rw [good_lo h9] at h; cases h
  have h2 : ¬ 16384 < B := fun h9 => by rw [good_hi h9] at h; cases h
  exact ⟨B.toNat, by omega, by omega, by omega⟩
/-- How many blocks n bytes have. -/
def cntB (n m : Nat) : Nat := (n + m - 1) / m
theorem cnt_lt {n m k : Nat} (hm : 0 < m) : k < cntB n m ↔ k * m < n := by
  unfold cntB
  rw [Nat.lt_iff_add_one_le, Nat.le_div_iff_mul_le hm, Nat.succ_mul]
  omega
theorem cnt_le {n m k : Nat} (hm : 0 < m) : cntB n m ≤ k ↔ n ≤ k * m := by
  have := cnt_lt (n := n) (k := k) hm
  omega
theorem cnt_eq {n m : Nat} (hm : 0 < m) : n / m + (if 0 < n % m then 1 else 0) = cntB n m := by
  have h1 := Nat.div_add_mod n m
  have h2 := Nat.mod_lt n hm
  have h3 : m * (n / m) = n / m * m := Nat.mul_comm _ _
  apply Nat.le_antisymm
  · split
    · have := (cnt_lt (n := n) (k := n / m) hm).2 (by omega)
      omega
    · rw [Nat.add_zero]
      rcases Nat.eq_zero_or_pos (n / m) with h | h
      · omega
      · have h4 : (n / m - 1) * m + m = n / m * m := by rw [← Nat.succ_mul]; congr 1; omega
        have := (cnt_lt (n := n) (k := n / m - 1) hm).2 (by omega)
        omega
  · split
    · rw [cnt_le hm, Nat.succ_mul]; omega
    · rw [Nat.add_zero, cnt_le hm]; omega
theorem cnt_min {n m : Nat} (hm : 0 < m) : n / m + min (n % m) 1 = cntB n m := by
  rw [← cnt_eq hm]
  split <;> omega
/-- The hash of the i-th block. -/
def leafL (B W : Int) (m : Nat) (data : List UInt8) (i : Nat) : Hs := hashL B W ((data.drop (i * m)).take m)
def leavesK (B W : Int) (m : Nat) (data : List UInt8) (k : Nat) : List Hs := (List.range k).map (leafL B W m data)
theorem leavesK_len (B W : Int) (m : Nat) (data : List UInt8) (k : Nat) : (leavesK B W m data k).length = k := by simp [leavesK]
theorem leavesK_succ (B W : Int) (m : Nat) (data : List UInt8) (k : Nat) : leavesK B W m data (k + 1) = leavesK B W m data k ++ [leafL B W m data k] := by simp [leavesK, List.range_succ]
def leavesL (B W : Int) (m : Nat) (data : List UInt8) : List Hs := leavesK B W m data (cntB data.length m)
/-- What Leaves answers. -/
def leavesE (B W : Int) (n : Nat) : Int := if goodNo B W ≠ 0 then goodNo B W else if 1048576 < cntB n B.toNat then 62 else 0
def leavesV (B W : Int) (data : List UInt8) : List Hs := if leavesE B W data.length = 0 then leavesL B W B.toNat data else []
theorem leaves_bad {B W : Int} {data : List UInt8} (h : goodNo B W ≠ 0) : leavesE B W data.length = goodNo B W ∧ leavesV B W data = [] := by
  have h1 : leavesE B W data.length = goodNo B W := by unfold leavesE; rw [if_pos h]
  exact ⟨h1, by unfold leavesV; rw [h1, if_neg h]⟩
theorem leaves_many {m : Nat} {W : Int} {data : List UInt8} (hg : goodNo (m : Int) W = 0) (h : 1048576 < cntB data.length m) : leavesE (m : Int) W data.length = 62 ∧ leavesV (m : Int) W data = [] := by
  have h1 : leavesE (m : Int) W data.length = 62 := by unfold leavesE; rw [if_neg (by omega), Int.toNat_natCast, if_pos h]
  exact ⟨h1, by unfold leavesV; rw [h1]; rfl⟩
theorem leaves_ok {m : Nat} {W : Int} {data : List UInt8} (hg : goodNo (m : Int) W = 0) (h : cntB data.length m ≤ 1048576) : leavesE (m : Int) W data.length = 0 ∧ leavesV (m : Int) W data = leavesL (m : Int) W m data := by
  have h1 : leavesE (m : Int) W data.length = 0 := by unfold leavesE; rw [if_neg (by omega), Int.toNat_natCast, if_neg (by omega)]
  exact ⟨h1, by unfold leavesV; rw [if_pos h1, Int.toNat_natCast]⟩
theorem leavesE_good {B W : Int} {n : Nat} (h : leavesE B W n = 0) : goodNo B W = 0 := by
  unfold leavesE at h
  split at h
  · rename_i h1; exact absurd h h1
  · rename_i h1; omega
theorem leavesV_len (B W : Int) (data : List UInt8) : (leavesV B W data).length ≤ 1048576 := by
  unfold leavesV
  split
  · rename_i h
    unfold leavesE at h
    split at h
    · rename_i h1; exact absurd h h1
    · split at h
      · cases h
      · unfold leavesL; rw [leavesK_len]; omega
  · simp
/-- A row that is grown: its scale, its list. -/
abbrev rws (B W : Int) (ao : Option Addr) (n cap : Nat) : List Value := [Value.int .i64 B, Value.int .i64 W] ++ [Value.slice ao n cap]
def rwk (r : Nat) (B W : Int) (row : List Hs) (g : Gs) : List Ck := [⟨some r, rws B W (adr g.ob) row.length g.cap, 85⟩, ⟨g.ob, row.flatMap hcs ++ g.sp, 34⟩]
theorem flat_snoc (l : List Hs) (x : Hs) : l.flatMap hcs ++ hcs x = (l ++ [x]).flatMap hcs := by simp
theorem drop_more (data : List UInt8) (q n m : Nat) (h : n = min m (data.length - q)) : data.drop (q + n) = data.drop (q + m) := by
  rcases Nat.lt_or_ge (data.length - q) m with h1 | h1
  · rw [List.drop_of_length_le (by omega), List.drop_of_length_le (by omega)]
  · rw [show n = m by omega]
theorem Offs.take {l : List Ck} {ao : Option Addr} {cs : List UInt8} (h : Offs l ao (cs.map B8)) (k : Nat) : Offs l ao ((cs.take k).map B8) := fun b hb a e hne => h b hb a e fun h9 => hne (by rw [List.map_eq_nil_iff] at h9; rw [h9]; simp)

theorem kL_ne : kL.map B32 ≠ [] := by simp [kL]
theorem fL_ne : fL.map B32 ≠ [] := by simp [fL]

theorem rws_row {w : World} {b : Nat} {B W : Int} {ao : Option Addr} {n cap : Nat} (h : Cells w b 0 (rws B W ao n cap)) : w.cell? ⟨b, 2, none⟩ = some (.slice ao n cap) := h 2 _ rfl

theorem many_one (l : List Hs) : ∀ u ∈ l.flatMap hcs, u.oneCell' = true := fun u hu => by
  obtain ⟨x, _, hx⟩ := List.mem_flatMap.1 hu
  exact hcs_one x u hx

end Go.Proofs.YtjdolgfhcjnniaaDoor
