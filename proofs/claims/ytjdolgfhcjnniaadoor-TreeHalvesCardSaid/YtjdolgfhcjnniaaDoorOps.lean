/-
  More operations of this seat's walks: equality of arrays, strings, pieces of slices, make, append, copy.
-/
import Derived.Test.YtjdolgfhcjnniaaDoorEff
import Derived.ChangeKeysEq
import Derived.Laws.StructEq
import Derived.Laws.Pointers
import Derived.Laws.Cover3
import Derived.Laws.MakeOwn
namespace Go.Proofs.YtjdolgfhcjnniaaDoor
open Go Go.RowKit

/-! ### 1. Equality -/
section
variable {P : Program} {F : Fr} {w : World} {ty t t' : TypeId} {x y : Operand}
theorem run_eqItems_ints {α : Type} [DecidableEq α] {k : IntKind} {g : α → Int} (hg : ∀ a b, g a = g b → a = b) {e : TypeId} {k' : IntKind} (he : P.underlying e = some (.int k')) (d : Nat) (xs ys : List α) (hl : xs.length = ys.length) :
    ∀ m j, j + m = xs.length → (Op.eqItems (d + 1) e 1 (xs.map fun a => Value.int k (g a)).toArray (ys.map fun a => Value.int k (g a)).toArray (List.range' j m)).run P w = .ok (decide (xs.drop j = ys.drop j)) w
  | 0, j, hj => by
    simp only [List.range'_zero, Op.eqItems, Sem.run_pure]
    rw [List.drop_of_length_le (by omega), List.drop_of_length_le (by omega)]
    simp
  | m + 1, j, hj => by
    have hx : j < xs.length := by omega
    have hy : j < ys.length := by omega
    have ih := run_eqItems_ints (k := k) hg he d xs ys hl m (j + 1) (by omega)
    have hp : ∀ zs : List α, (hz : j < zs.length) → (part e (zs.map fun a => Value.int k (g a)).toArray (j * 1)).run P w = .ok (.int k (g zs[j])) w := fun zs hz => by
      have hcell : (zs.map fun a => Value.int k (g a)).toArray[j * 1]? = some (.int k (g zs[j])) := by simp [hz]
      simp only [part, run_isAgg_no he rfl, Sem.run_bind, Result.andThen_ok, hcell]
      rfl
    simp only [List.range'_succ, Op.eqItems, Sem.run_bind, hp xs hx, hp ys hy, Result.andThen_ok, run_equalIn_int w d e k k' _ _ he]
    have e1 : (xs.drop j = ys.drop j) ↔ (xs[j] = ys[j] ∧ xs.drop (j + 1) = ys.drop (j + 1)) := by
      rw [List.drop_eq_getElem_cons hx, List.drop_eq_getElem_cons hy, List.cons.injEq]
    by_cases h : xs[j] = ys[j]
    · have h' : (g xs[j] == g ys[j]) = true := by rw [h]; exact BEq.rfl
      simp only [h', Bool.not_true, Bool.false_eq_true, if_false]
      rw [ih]
      exact congrArg (fun b => Result.ok b w) (decide_eq_decide.2 ⟨fun k => e1.2 ⟨h, k⟩, fun k => (e1.1 k).2⟩)
    · have h' : (g xs[j] == g ys[j]) = false := by
        rw [beq_eq_false_iff_ne]; exact fun e => h (hg _ _ e)
      have h2 : decide (xs.drop j = ys.drop j) = false := decide_eq_false fun k => h (e1.1 k).1
      simp only [h', h2, Bool.not_false, if_true, Sem.run_pure]
theorem run_equal_ints {α : Type} [DecidableEq α] {k : IntKind} {g : α → Int} (hg : ∀ a b, g a = g b → a = b) {e len : Nat} {k' : IntKind} (hu : P.underlying t = some (.array len e)) (he : P.underlying e = some (.int k')) (hs : (P.info? e).map (·.size) = some 1) (xs ys : List α) (hx : xs.length = len) (hy : ys.length = len) :
    (Op.equalIn 10000 t (.agg (xs.map fun a => Value.int k (g a)).toArray) (.agg (ys.map fun a => Value.int k (g a)).toArray)).run P w = .ok (decide (xs = ys)) w := by
  cases hi : P.info? e with
  | none => simp [hi] at hs
  | some i =>
    have hc : P.cellsOf e = 1 := by simpa [Program.cellsOf, hi] using hs
    have h := run_equalIn_array (P := P) w (9998 + 1) (xs.map fun a => Value.int k (g a)).toArray (ys.map fun a => Value.int k (g a)).toArray hu hi
    have h2 := run_eqItems_ints (P := P) (w := w) (k := k) hg he 9998 xs ys (by omega) len 0 (by omega)
    rw [hc, List.range_eq_range', h2] at h
    simpa using h
theorem ov_eqlA {α : Type} [DecidableEq α] {k : IntKind} {g : α → Int} (hg : ∀ a b, g a = g b → a = b) {e len : Nat} {k' : IntKind} {xs ys : List α} (hu : P.underlying t = some (.array len e)) (he : P.underlying e = some (.int k')) (hs : (P.info? e).map (·.size) = some 1) (hm : P.eqGuardType P.depth t = false)
    (hx : evF F x = some (.agg (xs.map fun a => Value.int k (g a)).toArray)) (hy : evF F y = some (.agg (ys.map fun a => Value.int k (g a)).toArray)) (hl : xs.length = len ∧ ys.length = len) : OpV P F w (.binOp .eql t x y t') ty (.bool (decide (xs = ys))) := by
  intro n ac ha o ho _
  simp [execOp, ho, ha.eval hx, ha.eval hy, run_eqGuard_agg _ _ _ _ _ _ _ hm, run_eql_struct, run_equal_ints hg hu he hs xs ys hl.1 hl.2]
theorem ov_neqA {α : Type} [DecidableEq α] {k : IntKind} {g : α → Int} (hg : ∀ a b, g a = g b → a = b) {e len : Nat} {k' : IntKind} {xs ys : List α} (hu : P.underlying t = some (.array len e)) (he : P.underlying e = some (.int k')) (hs : (P.info? e).map (·.size) = some 1) (hm : P.eqGuardType P.depth t = false)
    (hx : evF F x = some (.agg (xs.map fun a => Value.int k (g a)).toArray)) (hy : evF F y = some (.agg (ys.map fun a => Value.int k (g a)).toArray)) (hl : xs.length = len ∧ ys.length = len) : OpV P F w (.binOp .neq t x y t') ty (.bool (decide (xs ≠ ys))) := by
  intro n ac ha o ho _
  simp [execOp, ho, ha.eval hx, ha.eval hy, run_eqGuard_agg _ _ _ _ _ _ _ hm, run_neq_struct, run_equal_ints hg hu he hs xs ys hl.1 hl.2]
theorem inj8 : ∀ a b : UInt8, ((a.toNat : Int) = b.toNat) → a = b := fun a b h => UInt8.toNat_inj.1 (by omega)
theorem inj32 : ∀ a b : UInt32, ((a.toNat : Int) = b.toNat) → a = b := fun a b h => UInt32.toNat_inj.1 (by omega)
theorem ov_eqlP {p : Option Addr} (hu : P.underlying t = some (.pointer (P.pointee t))) (hx : evF F x = some (.pointer p)) (hy : evF F y = some (.pointer none)) : OpV P F w (.binOp .eql t x y t') ty (.bool p.isNone) := by
  intro n ac ha o ho _
  have hg : (eqGuard .eql t x y (.pointer p) (.pointer none)).run P w = .ok () w := by cases p <;> simp [eqGuard]
  simp [execOp, ho, ha.eval hx, ha.eval hy, hg, run_eql_pointer_nil _ _ _ hu]
theorem ov_neqP {p : Option Addr} (hu : P.underlying t = some (.pointer (P.pointee t))) (hx : evF F x = some (.pointer p)) (hy : evF F y = some (.pointer none)) : OpV P F w (.binOp .neq t x y t') ty (.bool (!p.isNone)) := by
  intro n ac ha o ho _
  have hg : (eqGuard .neq t x y (.pointer p) (.pointer none)).run P w = .ok () w := by cases p <;> simp [eqGuard]
  simp [execOp, ho, ha.eval hx, ha.eval hy, hg, run_neq_pointer_nil _ _ _ hu]
theorem ov_eqlS {ao : Option Addr} {l c : Nat} {e : TypeId} (hu : P.underlying t = some (.slice e)) (hx : evF F x = some (.slice ao l c)) (hy : evF F y = some (.slice none 0 0)) : OpV P F w (.binOp .eql t x y t') ty (.bool ao.isNone) := by
  intro n ac ha o ho _
  have hg : (eqGuard .eql t x y (.slice ao l c) (.slice none 0 0)).run P w = .ok () w := by simp [eqGuard]
  simp [execOp, ho, ha.eval hx, ha.eval hy, hg, binOp, run_equal_slice_nil w t e ao l c hu]
theorem ov_neqS {ao : Option Addr} {l c : Nat} {e : TypeId} (hu : P.underlying t = some (.slice e)) (hx : evF F x = some (.slice ao l c)) (hy : evF F y = some (.slice none 0 0)) : OpV P F w (.binOp .neq t x y t') ty (.bool (!ao.isNone)) := by
  intro n ac ha o ho _
  have hg : (eqGuard .neq t x y (.slice ao l c) (.slice none 0 0)).run P w = .ok () w := by simp [eqGuard]
  simp [execOp, ho, ha.eval hx, ha.eval hy, hg, binOp, run_equal_slice_nil w t e ao l c hu]

/-! ### 2. Pieces of slices -/
/-- The address at which 'a[l:]' begins (at the end it stays where it was). -/
def sla (ao : Option Addr) (cap l s : Nat) : Option Addr := if cap = l then ao else ao.map (·.add (l * s))
theorem Rd.drop {ao : Option Addr} {cs : List Value} (h : Rd w ao cs) {cap l s len : Nat} (hl : cs.length = len * s) (hc : len ≤ cap) : Rd w (sla ao cap l s) (cs.drop (l * s)) := by
  rcases h with rfl | ⟨b, off, rfl, h⟩
  · left; simp
  · by_cases e : cap = l
    · subst e
      left
      rw [List.drop_of_length_le (by rw [hl]; exact Nat.mul_le_mul_right _ hc)]
    · right
      refine ⟨b, off + l * s, ?_, h.drop _⟩
      simp [sla, e, add_at]
theorem ov_slice_hi {ao : Option Addr} {len cap e s : Nat} {k : IntKind} {h : Int} (hu : P.underlying t = some (.slice e)) (hs : (P.info? e).map (·.size) = some s) (hx : evF F x = some (.slice ao len cap)) (hy : evF F y = some (.int k h)) (hb : 0 ≤ h ∧ h ≤ cap) :
    OpV P F w (.slice t x none (some y) none) ty (.slice ao h.toNat cap) := by
  intro n ac ha o ho _
  cases hq : P.info? e with
  | none => simp [hq] at hs
  | some i =>
    have e1 : ao.map (·.add 0) = ao := by cases ao <;> simp [Addr.add]
    simp [execOp, ho, ha.eval hx, ha.eval hy, Instr.sliceAt, Instr.slice, Instr.sliceBounds, Instr.sliceBound, asIntOf, underlying, hu, hb.1, hb.2, sizeOf, typeInfo, hq, e1]
theorem ov_slice_lo {ao : Option Addr} {len cap e s : Nat} {k : IntKind} {l : Int} (hu : P.underlying t = some (.slice e)) (hs : (P.info? e).map (·.size) = some s) (hx : evF F x = some (.slice ao len cap)) (hy : evF F y = some (.int k l)) (hb : 0 ≤ l ∧ l ≤ len) :
    OpV P F w (.slice t x (some y) none none) ty (.slice (sla ao cap l.toNat s) (len - l.toNat) (cap - l.toNat)) := by
  intro n ac ha o ho _
  cases hq : P.info? e with
  | none => simp [hq] at hs
  | some i =>
    have hs' : i.size = s := by simpa [hq] using hs
    simp [execOp, ho, ha.eval hx, ha.eval hy, Instr.sliceAt, Instr.slice, Instr.sliceBounds, Instr.sliceBound, asIntOf, underlying, hu, hb.1, hb.2, sizeOf, typeInfo, hq, hs', sla]
theorem ov_slice_lh {z : Operand} {ao : Option Addr} {len cap e s : Nat} {k k' : IntKind} {l h : Int} (hu : P.underlying t = some (.slice e)) (hs : (P.info? e).map (·.size) = some s) (hx : evF F x = some (.slice ao len cap)) (hy : evF F y = some (.int k l)) (hz : evF F z = some (.int k' h)) (hb : 0 ≤ l ∧ l ≤ h ∧ h ≤ cap) :
    OpV P F w (.slice t x (some y) (some z) none) ty (.slice (sla ao cap l.toNat s) (h.toNat - l.toNat) (cap - l.toNat)) := by
  intro n ac ha o ho _
  cases hq : P.info? e with
  | none => simp [hq] at hs
  | some i =>
    have hs' : i.size = s := by simpa [hq] using hs
    have h0 : 0 ≤ h := by omega
    simp [execOp, ho, ha.eval hx, ha.eval hy, ha.eval hz, Instr.sliceAt, Instr.slice, Instr.sliceBounds, Instr.sliceBound, asIntOf, underlying, hu, hb.1, h0, hb.2.2, sizeOf, typeInfo, hq, hs', sla]
    intro hh
    omega
/-- Of an array that lies in memory. -/
theorem ov_sliceA {bl off m e s : Nat} (hu : P.underlying t = some (.array m e)) (hs : (P.info? e).map (·.size) = some s) (hx : evF F x = some (.pointer (some ⟨bl, off, none⟩))) : OpV P F w (.slice t x none none none) ty (.slice (some ⟨bl, off, none⟩) m m) := by
  intro n ac ha o ho _
  cases hq : P.info? e with
  | none => simp [hq] at hs
  | some i => simp [execOp, ho, ha.eval hx, Instr.sliceAt, Instr.sureAddr, Instr.sliceBounds, underlying, hu, sizeOf, typeInfo, hq, Addr.add]
theorem ov_sliceA_lo {bl off m e s : Nat} {k : IntKind} {l : Int} (hu : P.underlying t = some (.array m e)) (hs : (P.info? e).map (·.size) = some s) (hx : evF F x = some (.pointer (some ⟨bl, off, none⟩))) (hy : evF F y = some (.int k l)) (hb : 0 ≤ l ∧ l ≤ m) : OpV P F w (.slice t x (some y) none none) ty (.slice (sla (some ⟨bl, off, none⟩) m l.toNat s) (m - l.toNat) (m - l.toNat)) := by
  intro n ac ha o ho _
  cases hq : P.info? e with
  | none => simp [hq] at hs
  | some i =>
    have hs' : i.size = s := by simpa [hq] using hs
    by_cases e : m = l.toNat
    · simp [execOp, ho, ha.eval hx, ha.eval hy, Instr.sliceAt, Instr.sureAddr, Instr.sliceBounds, Instr.sliceBound, asIntOf, underlying, hu, hb.1, sizeOf, typeInfo, hq, hs', sla, e]
      intro hh
      omega
    · simp [execOp, ho, ha.eval hx, ha.eval hy, Instr.sliceAt, Instr.sureAddr, Instr.sliceBounds, Instr.sliceBound, asIntOf, underlying, hu, hb.1, hb.2, sizeOf, typeInfo, hq, hs', sla, e]
theorem ov_sliceA_hi {bl off m e s : Nat} {k : IntKind} {h : Int} (hu : P.underlying t = some (.array m e)) (hs : (P.info? e).map (·.size) = some s) (hx : evF F x = some (.pointer (some ⟨bl, off, none⟩))) (hy : evF F y = some (.int k h)) (hb : 0 ≤ h ∧ h ≤ m) : OpV P F w (.slice t x none (some y) none) ty (.slice (some ⟨bl, off, none⟩) h.toNat m) := by
  intro n ac ha o ho _
  cases hq : P.info? e with
  | none => simp [hq] at hs
  | some i => simp [execOp, ho, ha.eval hx, ha.eval hy, Instr.sliceAt, Instr.sureAddr, Instr.sliceBounds, Instr.sliceBound, asIntOf, underlying, hu, hb.1, hb.2, sizeOf, typeInfo, hq, Addr.add]
/-- An element of an array value. -/
theorem ov_indexV {cs : List Value} {len e : Nat} {k : IntKind} {a : Int} {v : Value} {D : TypeDesc} (hx : evF F x = some (.agg cs.toArray)) (hy : evF F y = some (.int k a)) (hu : P.underlying t = some (.array len e)) (hs : (P.info? e).map (·.size) = some 1) (hue : P.underlying e = some D) (hd : (match D with | .struct _ | .array _ _ => true | _ => false) = false)
    (hb : 0 ≤ a ∧ a < len) (hv : cs[a.toNat]? = some v) : OpV P F w (.index t x y) ty v := by
  intro n ac ha o ho _
  cases hq : P.info? e with
  | none => simp [hq] at hs
  | some i =>
    have hs' : i.size = 1 := by simpa [hq] using hs
    simp [execOp, ho, ha.eval hx, ha.eval hy, Instr.index, asIntOf, underlying, hu, hb.1, hb.2, sizeOf, typeInfo, hq, hs', part, run_isAgg_no hue hd, hv]
end
end Go.Proofs.YtjdolgfhcjnniaaDoor
