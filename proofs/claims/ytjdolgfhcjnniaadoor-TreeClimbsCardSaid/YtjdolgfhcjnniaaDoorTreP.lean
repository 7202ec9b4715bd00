/-
  Trees, in plain terms.
-/
import Derived.Test.YtjdolgfhcjnniaaDoorStreamP
import Derived.Test.YtjdolgfhcjnniaaDoorCutP
import Derived.Test.YtjdolgfhcjnniaaDoorListP
namespace Go.Proofs.YtjdolgfhcjnniaaDoor
open Go Go.RowKit

/-- A hash. -/
abbrev Hs := {l : List UInt8 // l.length = 32}
def hcs (h : Hs) : List Value := h.1.map B8
theorem hcs_len (h : Hs) : (hcs h).length = 32 := by simp [hcs, h.2]
theorem hcs_one (h : Hs) : ∀ u ∈ hcs h, u.oneCell' = true := one_all _
abbrev hz0 : Hs := ⟨List.replicate 32 0, by simp⟩
theorem hcs_zero : (List.replicate 32 (0 : UInt8)).map B8 = hcs hz0 := rfl
theorem hcs_inj {a b : Hs} (h : hcs a = hcs b) : a = b := by
  apply Subtype.ext
  refine List.map_inj_right ?_ |>.1 h
  intro x y hxy
  have h1 : ((x.toNat : Nat) : Int) = (y.toNat : Int) := by simpa [B8] using hxy
  exact UInt8.toNat_inj.1 (by omega)
/-- The hash above two. -/
def hashL (B W : Int) (a : List UInt8) : Hs := ⟨cutL B W (sumOf a), cutL_len (sumOf_len _) B W⟩
def aboveL (B W : Int) (l r : Hs) : Hs := hashL B W (l.1 ++ r.1)
def zeroL (B W : Int) : Nat → Hs
  | 0 => hz0
  | h + 1 => aboveL B W (zeroL B W h) (zeroL B W h)
/-- What Zero answers. -/
def zeroE (B W h : Int) : Int := if goodNo B W ≠ 0 then goodNo B W else if h < 0 ∨ 48 < h then 60 else 0
def zeroV (B W h : Int) : Hs := if zeroE B W h = 0 then zeroL B W h.toNat else hz0
def pairV (B W : Int) (l r : Hs) : Hs := if goodNo B W = 0 then aboveL B W l r else hz0
theorem fill1 {s : Nat} {u zv : Value} {new : List Value} (hu : u.cells = new.toArray) (hl : new.length = s) : Instr.fill (fun i => some (i * s, s)) ((Array.range (1 * s)).map (zv.cells[· % zv.cells.size]!)) [(0, u)] = some new.toArray := by
  have hsz : ((Array.range (1 * s)).map (zv.cells[· % zv.cells.size]!)).size = s := by simp
  simp only [Instr.fill, hu, List.size_toArray, hl, ne_eq, not_true_eq_false, Nat.zero_mul, Nat.zero_add, hsz, decide_false, Bool.false_or, gt_iff_lt, Nat.lt_irrefl]
  have hz : ∀ (l : List Value) (off : Nat) (cs : Array Value), off + l.length ≤ cs.size → l.toArray.zipIdx.foldl (fun cs (c, j) => cs.setIfInBounds (off + j) c) cs = (cs.toList.take off ++ l ++ cs.toList.drop (off + l.length)).toArray := by
    intro l off cs hfit
    rw [← Array.foldl_toList]
    simp only [Array.toList_zipIdx]
    have gen : ∀ (l : List Value) (k : Nat) (cs : Array Value), off + k + l.length ≤ cs.size → (l.zipIdx k).foldl (fun cs (c, j) => cs.setIfInBounds (off + j) c) cs = (cs.toList.take (off + k) ++ l ++ cs.toList.drop (off + k + l.length)).toArray := by
      intro l
      induction l with
      | nil => intro k cs _; simp
      | cons v r ih =>
        intro k cs hf
        simp only [List.length_cons] at hf
        rw [List.zipIdx_cons, List.foldl_cons, ih (k + 1) _ (by simp; omega)]
        have hlt : off + k < cs.toList.length := by simpa using (by omega : off + k < cs.size)
        have hset : (cs.setIfInBounds (off + k) v).toList = cs.toList.take (off + k) ++ v :: cs.toList.drop (off + k + 1) := by
          rw [Array.toList_setIfInBounds, List.set_eq_take_append_cons_drop, if_pos hlt]
        rw [hset, show off + (k + 1) = off + k + 1 by omega, splice_step _ _ _ _ hlt]
        simp only [List.length_cons]
    simpa using gen l 0 cs (by simpa using hfit)
  have h2 := hz new 0 ((Array.range s).map (zv.cells[· % zv.cells.size]!)) (by simp [hl])
  simp only [Nat.zero_add, List.take_zero, List.nil_append] at h2
  rw [Nat.one_mul, h2]
  rw [List.drop_of_length_le (by simp [hl])]
  simp

section
variable {P : Program} {Q : Exit → Act → World → Prop} {n : Nat} {F : Fr} {w : World} {ops : Array Oper} {rest : List Oper} {ty : TypeId} {pos : String} {af : Array Edge} {d : Tmp}
/-- A function value. -/
theorem ov_makeFunc {f : FuncId} {xs ys : List Operand} {vs us : List Value} (hxs : evs F xs = some vs) (hys : evs F ys = some us) : OpV P F w (.makeFunc (.func f) xs.toArray ys.toArray) ty (.func (.func f) vs.toArray us.toArray) := by
  intro n a ha o ho _
  have h1 := ha.evals hxs
  have h2 := ha.evals hys
  simp [execOp, ho, Instr.makeFunc, h1, h2]
theorem st_callV_ {f : FuncId} {g : Operand} {fs cs : List Value} {xs : List Operand} {vs : List Value} {ats : Array TypeId} {R : Ending → World → Prop} (hf : Plain P f) (hg : evF F g = some (.func (.func f) fs.toArray cs.toArray)) (hxs : evs F xs = some vs)
    (h : Calls P f (fs ++ vs ++ cs).toArray w R) (k : ∀ e w', R e w' → ∃ v, e = .returned v ∧ St P Q n ops rest F w') :
    St P Q n ops (⟨none, .call { callee := .value g, args := xs.toArray, argTypes := ats }, ty, pos, af, none⟩ :: rest) F w := by
  intro a ha
  refine wpList_plain rfl fun K hK => ?_
  obtain ⟨fn, hfn, hn, hb⟩ := hf
  have he : (execOp a.eval ⟨none, .call { callee := .value g, args := xs.toArray, argTypes := ats }, ty, pos, af, none⟩).run P w = .ok (.enter f (fs ++ vs ++ cs).toArray) w := by
    have hb' : fn.body ≠ none := by cases hbo : fn.body <;> simp_all
    have hn' : fn.name ≠ "runtime.NumGoroutine" := by simpa using hn
    simp [execOp, resolve, ha.eval hg, ha.evals hxs, Deferred.ofValue, invoke, callFunc, hfn, hn', hb']
  unfold Oper.wp
  rw [he, Oper.upon_enter]
  refine h.mono fun e w' hR => ?_
  obtain ⟨v, rfl, hk⟩ := k e w' hR
  exact hK _ _ (hk _ ha)
theorem st_callV {f : FuncId} {g : Operand} {fs cs : List Value} {xs : List Operand} {vs : List Value} {ats : Array TypeId} {R : Ending → World → Prop} (hf : Plain P f) (hg : evF F g = some (.func (.func f) fs.toArray cs.toArray)) (hxs : evs F xs = some vs) (hd : Nat.blt d n = true)
    (h : Calls P f (fs ++ vs ++ cs).toArray w R) (k : ∀ e w', R e w' → ∃ v, e = .returned v ∧ St P Q n ops rest ((d, v) :: F) w') :
    St P Q n ops (⟨some d, .call { callee := .value g, args := xs.toArray, argTypes := ats }, ty, pos, af, none⟩ :: rest) F w := by
  intro a ha
  refine wpList_plain rfl fun K hK => ?_
  obtain ⟨fn, hfn, hn, hb⟩ := hf
  have he : (execOp a.eval ⟨some d, .call { callee := .value g, args := xs.toArray, argTypes := ats }, ty, pos, af, none⟩).run P w = .ok (.enter f (fs ++ vs ++ cs).toArray) w := by
    have hb' : fn.body ≠ none := by cases hbo : fn.body <;> simp_all
    have hn' : fn.name ≠ "runtime.NumGoroutine" := by simpa using hn
    simp [execOp, resolve, ha.eval hg, ha.evals hxs, Deferred.ofValue, invoke, callFunc, hfn, hn', hb']
  unfold Oper.wp
  rw [he, Oper.upon_enter]
  refine h.mono fun e w' hR => ?_
  obtain ⟨v, rfl, hk⟩ := k e w' hR
  exact hK _ _ (hk _ (ha.put hd v))
end

end Go.Proofs.YtjdolgfhcjnniaaDoor
