/-
  Equality of structs and arrays that are made of numbers alone: as their cells are.
-/
import Derived.Test.YtjdolgfhcjnniaaDoorAri
namespace Go.Proofs.YtjdolgfhcjnniaaDoor
open Go Go.RowKit

/-- The fields lie one behind another from o on, to the end m. -/
def layB (P : Program) : Nat → Nat → List Field → Bool
  | o, m, [] => Nat.beq o m
  | o, m, f :: fs => Nat.beq f.offset o && layB P (o + P.cellsOf f.type) m fs
/-- A type of numbers, and of structs and arrays of such. -/
def flatB (P : Program) : Nat → TypeId → Bool
  | 0, _ => false
  | d + 1, t => match P.underlying t with
    | some (.int _) => Nat.beq (P.cellsOf t) 1
    | some (.array n e) => flatB P d e && Nat.beq (P.cellsOf t) (n * P.cellsOf e)
    | some (.struct fs) => !P.stoodInHeld t && fs.toList.all (fun f => f.name != "_" && flatB P d f.type) && layB P 0 (P.cellsOf t) fs.toList
    | _ => false
noncomputable def eqv (cs ds : List Value) : Bool := @decide (cs = ds) (Classical.propDecidable _)
theorem eqv_self (cs : List Value) : eqv cs cs = true := by unfold eqv; simp
theorem eqv_true {cs ds : List Value} (h : eqv cs ds = true) : cs = ds := by unfold eqv at h; simpa using h
theorem eqv_false {cs ds : List Value} (h : eqv cs ds = false) : cs ≠ ds := by unfold eqv at h; simpa using h
theorem eqv_iff (cs ds : List Value) (p : Prop) [Decidable p] (h : cs = ds ↔ p) : eqv cs ds = decide p := by
  cases hb : eqv cs ds with
  | true => exact (decide_eq_true (h.1 (eqv_true hb))).symm
  | false => exact (decide_eq_false (fun q => eqv_false hb (h.2 q))).symm
def Like (cs ds : List Value) : Prop := cs.length = ds.length ∧ ∀ (i : Nat) u v, cs[i]? = some u → ds[i]? = some v → ∃ k a b, u = Value.int k a ∧ v = Value.int k b
theorem Like.drop {cs ds : List Value} (h : Like cs ds) (k : Nat) : Like (cs.drop k) (ds.drop k) := ⟨by simp [h.1], fun i u v hu hv => h.2 (k + i) u v (by rw [List.getElem?_drop] at hu; exact hu) (by rw [List.getElem?_drop] at hv; exact hv)⟩
theorem Like.take {cs ds : List Value} (h : Like cs ds) (k : Nat) : Like (cs.take k) (ds.take k) := ⟨by simp [h.1], fun i u v hu hv => by
  rw [List.getElem?_take] at hu hv
  split at hu
  · rename_i hlt; rw [if_pos hlt] at hv; exact h.2 i u v hu hv
  · cases hu⟩
theorem Like.self {cs : List Value} (h : ∀ u ∈ cs, ∃ k a, u = Value.int k a) : Like cs cs := ⟨rfl, fun i u v hu hv => by
  obtain rfl := Option.some.inj (hu.symm.trans hv)
  obtain ⟨k, a, rfl⟩ := h u (List.mem_of_getElem? hu)
  exact ⟨k, a, a, rfl, rfl⟩⟩
theorem Like.map {α : Type} {k : IntKind} {g : α → Int} (xs ys : List α) (h : xs.length = ys.length) : Like (xs.map fun a => Value.int k (g a)) (ys.map fun a => Value.int k (g a)) := ⟨by simp [h], fun i u v hu hv => by
  rw [List.getElem?_map, Option.map_eq_some_iff] at hu hv
  obtain ⟨a, _, rfl⟩ := hu
  obtain ⟨b, _, rfl⟩ := hv
  exact ⟨k, _, _, rfl, rfl⟩⟩
theorem Like.append {cs ds es fs : List Value} (h : Like cs ds) (h2 : Like es fs) : Like (cs ++ es) (ds ++ fs) := ⟨by simp [h.1, h2.1], fun i u v hu hv => by
  rcases Nat.lt_or_ge i cs.length with hl | hl
  · rw [List.getElem?_append_left hl] at hu; rw [List.getElem?_append_left (by rw [← h.1]; exact hl)] at hv; exact h.2 i u v hu hv
  · rw [List.getElem?_append_right hl] at hu; rw [List.getElem?_append_right (by rw [← h.1]; exact hl), ← h.1] at hv; exact h2.2 _ u v hu hv⟩
theorem Like.cons {k : IntKind} {a b : Int} {es fs : List Value} (h2 : Like es fs) : Like (.int k a :: es) (.int k b :: fs) := Like.append (cs := [.int k a]) (ds := [.int k b]) ⟨rfl, fun i u v hu hv => by
  cases i with
  | zero => exact ⟨k, a, b, (Option.some.inj hu).symm, (Option.some.inj hv).symm⟩
  | succ i => simp at hu⟩ h2
theorem Like.nil : Like [] [] := ⟨rfl, fun i u v hu _ => by simp at hu⟩
/-- A value of a flat type, by its cells. -/
def Vof (P : Program) (t : TypeId) (v : Value) (cs : List Value) : Prop := cs.length = P.cellsOf t ∧ ((∃ D, P.underlying t = some D ∧ agd D = true ∧ v = .agg cs.toArray) ∨ (∃ D, P.underlying t = some D ∧ agd D = false ∧ cs = [v]))
section
variable {P : Program} {w : World}
theorem run_part {t : TypeId} {D : TypeDesc} {cs : List Value} {off : Nat} (hu : P.underlying t = some D) (hfit : off + P.cellsOf t ≤ cs.length) (h1 : agd D = false → P.cellsOf t = 1) : ∃ v, (part t cs.toArray off).run P w = .ok v w ∧ Vof P t v ((cs.drop off).take (P.cellsOf t)) := by
  obtain ⟨i, hi⟩ := info_of_underlying hu
  have hsz : i.size = P.cellsOf t := by simp [Program.cellsOf, hi]
  cases hd : agd D with
  | true =>
    refine ⟨.agg ((cs.drop off).take (P.cellsOf t)).toArray, ?_, by simp; omega, .inl ⟨D, hu, hd, rfl⟩⟩
    simp [part, run_agd hu, hd, sizeOf, typeInfo, hi, hsz]
  | false =>
    have e1 := h1 hd
    have hlt : off < cs.length := by omega
    refine ⟨cs[off], ?_, by simp; omega, .inr ⟨D, hu, hd, ?_⟩⟩
    · simp [part, run_agd hu, hd, hlt]
    · rw [e1, List.drop_eq_getElem_cons hlt]; rfl
theorem flat_one {d : Nat} {t : TypeId} {D : TypeDesc} (h : flatB P d t = true) (hu : P.underlying t = some D) (hd : agd D = false) : P.cellsOf t = 1 := by
  cases d with
  | zero => cases h
  | succ d =>
    simp only [flatB, hu] at h
    cases D <;> first | (cases hd; done) | (exact Nat.eq_of_beq_eq_true h) | (cases h; done)
theorem flat_under {d : Nat} {t : TypeId} (h : flatB P d t = true) : ∃ D, P.underlying t = some D := by
  cases d with
  | zero => cases h
  | succ d =>
    simp only [flatB] at h
    cases hu : P.underlying t with
    | none => rw [hu] at h; cases h
    | some D => exact ⟨D, rfl⟩
theorem eqv_split {cs ds : List Value} (hl : cs.length = ds.length) (k : Nat) : eqv cs ds = (eqv (cs.take k) (ds.take k) && eqv (cs.drop k) (ds.drop k)) := by
  by_cases h : cs = ds
  · subst h; simp [eqv_self]
  · have h1 : eqv cs ds = false := by
      cases hb : eqv cs ds with
      | false => rfl
      | true => exact absurd (eqv_true hb) h
    rw [h1]
    by_cases h2 : cs.take k = ds.take k
    · have h3 : cs.drop k ≠ ds.drop k := fun h3 => h (by rw [← List.take_append_drop k cs, ← List.take_append_drop k ds, h2, h3])
      have h4 : eqv (cs.drop k) (ds.drop k) = false := by
        cases hb : eqv (cs.drop k) (ds.drop k) with
        | false => rfl
        | true => exact absurd (eqv_true hb) h3
      rw [h4]; simp
    · have h4 : eqv (cs.take k) (ds.take k) = false := by
        cases hb : eqv (cs.take k) (ds.take k) with
        | false => rfl
        | true => exact absurd (eqv_true hb) h2
      rw [h4]; simp
theorem run_flat : ∀ (d : Nat) (t : TypeId) (m : Nat) (v u : Value) (cs ds : List Value), flatB P d t = true → d ≤ m → Vof P t v cs → Vof P t u ds → Like cs ds → (Op.equalIn m t v u).run P w = .ok (eqv cs ds) w
  | 0, _, _, _, _, _, _, h, _, _, _, _ => by cases h
  | d + 1, t, 0, _, _, _, _, _, hm, _, _, _ => by omega
  | d + 1, t, m + 1, v, u, cs, ds, h, hm, hv, hu', hl => by
    obtain ⟨D, hu⟩ := flat_under h
    have IH := run_flat d
    have hcell := hv.1
    have hcell2 := hu'.1
    have step : ∀ (e : TypeId) (off : Nat), flatB P d e = true → off + P.cellsOf e ≤ cs.length → ∃ a b, (part e cs.toArray off).run P w = .ok a w ∧ (part e ds.toArray off).run P w = .ok b w ∧ (Op.equalIn m e a b).run P w = .ok (eqv ((cs.drop off).take (P.cellsOf e)) ((ds.drop off).take (P.cellsOf e))) w := fun e off he hfit => by
      obtain ⟨De, hue⟩ := flat_under he
      obtain ⟨a, ha, hva⟩ := run_part (w := w) (cs := cs) (off := off) hue hfit (fun hd => flat_one he hue hd)
      obtain ⟨b, hb, hvb⟩ := run_part (w := w) (cs := ds) (off := off) hue (by rw [← hl.1]; exact hfit) (fun hd => flat_one he hue hd)
      exact ⟨a, b, ha, hb, IH e m a b _ _ he (by omega) hva hvb ((hl.drop off).take _)⟩
    have hagg : agd D = true → v = .agg cs.toArray ∧ u = .agg ds.toArray := fun hd => by
      constructor
      · rcases hv.2 with ⟨D', h1, h2, h3⟩ | ⟨D', h1, h2, h3⟩
        · exact h3
        · obtain rfl := Option.some.inj (hu.symm.trans h1); rw [hd] at h2; cases h2
      · rcases hu'.2 with ⟨D', h1, h2, h3⟩ | ⟨D', h1, h2, h3⟩
        · exact h3
        · obtain rfl := Option.some.inj (hu.symm.trans h1); rw [hd] at h2; cases h2
    cases D with
    | int k =>
      rcases hv.2 with ⟨D', h1, h2, h3⟩ | ⟨D', h1, h2, rfl⟩
      · obtain rfl := Option.some.inj (hu.symm.trans h1); cases h2
      rcases hu'.2 with ⟨D', h1', h2', h3'⟩ | ⟨D', h1', h2', rfl⟩
      · obtain rfl := Option.some.inj (hu.symm.trans h1'); cases h2'
      obtain ⟨q, a, b, rfl, rfl⟩ := hl.2 0 v u rfl rfl
      rw [run_equalIn_int w m t q k a b hu]
      have e : (a == b) = eqv [Value.int q a] [Value.int q b] := by
        rw [eqv_iff _ _ (a = b) (by simp)]
        by_cases e : a = b <;> simp [e]
      rw [e]
    | array n e =>
      obtain ⟨rfl, rfl⟩ := hagg rfl
      simp only [flatB, hu, Bool.and_eq_true] at h
      obtain ⟨he, hsz⟩ := h
      have hsz := Nat.eq_of_beq_eq_true hsz
      obtain ⟨De, hue⟩ := flat_under he
      obtain ⟨i, hi⟩ := info_of_underlying hue
      rw [run_equalIn_array (P := P) w m cs.toArray ds.toArray hu hi]
      have gen : ∀ q j, j + q = n → (Op.eqItems m e (P.cellsOf e) cs.toArray ds.toArray (List.range' j q)).run P w = .ok (eqv (cs.drop (j * P.cellsOf e)) (ds.drop (j * P.cellsOf e))) w := by
        intro q
        induction q with
        | zero =>
          intro j hj
          rw [List.drop_of_length_le (by rw [hcell, hsz, ← hj]; exact Nat.le_refl _), List.drop_of_length_le (by rw [hcell2, hsz, ← hj]; exact Nat.le_refl _)]
          simp [Op.eqItems, eqv_self]
        | succ q ih =>
          intro j hj
          have hfit : j * P.cellsOf e + P.cellsOf e ≤ cs.length := by rw [hcell, hsz, ← Nat.succ_mul]; exact Nat.mul_le_mul_right _ (by omega)
          obtain ⟨a, b, ha, hb, hr⟩ := step e (j * P.cellsOf e) he hfit
          simp only [List.range'_succ, Op.eqItems, Sem.run_bind, ha, hb, Result.andThen_ok, hr]
          rw [eqv_split (show (cs.drop (j * P.cellsOf e)).length = (ds.drop (j * P.cellsOf e)).length by simp [hl.1]) (P.cellsOf e), List.drop_drop, List.drop_drop, show j * P.cellsOf e + P.cellsOf e = (j + 1) * P.cellsOf e by rw [Nat.succ_mul]]
          cases hb2 : eqv ((cs.drop (j * P.cellsOf e)).take (P.cellsOf e)) ((ds.drop (j * P.cellsOf e)).take (P.cellsOf e)) with
          | false => simp
          | true => simp [ih (j + 1) (by omega)]
      have := gen n 0 (by omega)
      rw [List.range_eq_range', this]
      simp
    | struct fs =>
      obtain ⟨rfl, rfl⟩ := hagg rfl
      simp only [flatB, hu, Bool.and_eq_true] at h
      obtain ⟨⟨hs, hall⟩, hlay⟩ := h
      have hfo : P.fieldsOf t = fs := by simp [Program.fieldsOf, hu]
      rw [run_equalIn_struct w m t cs.toArray ds.toArray (by rw [hfo]; exact hu) (by simpa using hs), hfo]
      have gen : ∀ (l : List Field) (o : Nat), (∀ f ∈ l, (f.name != "_" && flatB P d f.type) = true) → layB P o (P.cellsOf t) l = true → o ≤ P.cellsOf t ∧ (Op.eqFields m cs.toArray ds.toArray l).run P w = .ok (eqv (cs.drop o) (ds.drop o)) w := by
        intro l
        induction l with
        | nil =>
          intro o _ ho
          simp only [layB] at ho
          have ho := Nat.eq_of_beq_eq_true ho
          refine ⟨by omega, ?_⟩
          rw [List.drop_of_length_le (by omega), List.drop_of_length_le (by omega)]
          simp [Op.eqFields, eqv_self]
        | cons f l ih =>
          intro o hf ho
          simp only [layB, Bool.and_eq_true] at ho
          have hoff := Nat.eq_of_beq_eq_true ho.1
          obtain ⟨hle, hrun⟩ := ih (o + P.cellsOf f.type) (fun g hg => hf g (by simp [hg])) ho.2
          have hff := hf f (by simp)
          rw [Bool.and_eq_true, bne_iff_ne] at hff
          obtain ⟨a, b, ha, hb, hr⟩ := step f.type o hff.2 (by omega)
          refine ⟨by omega, ?_⟩
          simp only [Op.eqFields, hff.1, ne_eq, not_false_eq_true, if_true, hoff, Sem.run_bind, ha, hb, Result.andThen_ok, hr]
          rw [eqv_split (show (cs.drop o).length = (ds.drop o).length by simp [hl.1]) (P.cellsOf f.type), List.drop_drop, List.drop_drop]
          cases hb2 : eqv ((cs.drop o).take (P.cellsOf f.type)) ((ds.drop o).take (P.cellsOf f.type)) with
          | false => simp
          | true => simp [hrun]
      have := (gen fs.toList 0 (List.all_eq_true.1 hall) hlay).2
      simpa using this
    | _ => simp only [flatB, hu] at h; cases h
variable {F : Fr} {ty t t' : TypeId} {x y : Operand}
theorem ov_eqlF {cs ds : List Value} {D : TypeDesc} (hu : P.underlying t = some D) (hd : agd D = true) (hf : flatB P 20 t = true) (hc : (P.info? t).map (·.size) = some cs.length) (hm : P.eqGuardType P.depth t = false) (hx : evF F x = some (.agg cs.toArray)) (hy : evF F y = some (.agg ds.toArray)) (hl : Like cs ds) :
    OpV P F w (.binOp .eql t x y t') ty (.bool (eqv cs ds)) := by
  intro n ac ha o ho _
  have hc' : cs.length = P.cellsOf t := by
    cases hq : P.info? t with
    | none => simp [hq] at hc
    | some i => simp [hq] at hc; simp [Program.cellsOf, hq, hc]
  have h := run_flat (w := w) 20 t 10000 (.agg cs.toArray) (.agg ds.toArray) cs ds hf (by omega) ⟨hc', .inl ⟨D, hu, hd, rfl⟩⟩ ⟨by rw [← hl.1]; exact hc', .inl ⟨D, hu, hd, rfl⟩⟩ hl
  simp [execOp, ho, ha.eval hx, ha.eval hy, run_eqGuard_agg _ _ _ _ _ _ _ hm, run_eql_struct, h]
theorem ov_neqF {cs ds : List Value} {D : TypeDesc} (hu : P.underlying t = some D) (hd : agd D = true) (hf : flatB P 20 t = true) (hc : (P.info? t).map (·.size) = some cs.length) (hm : P.eqGuardType P.depth t = false) (hx : evF F x = some (.agg cs.toArray)) (hy : evF F y = some (.agg ds.toArray)) (hl : Like cs ds) :
    OpV P F w (.binOp .neq t x y t') ty (.bool (!eqv cs ds)) := by
  intro n ac ha o ho _
  have hc' : cs.length = P.cellsOf t := by
    cases hq : P.info? t with
    | none => simp [hq] at hc
    | some i => simp [hq] at hc; simp [Program.cellsOf, hq, hc]
  have h := run_flat (w := w) 20 t 10000 (.agg cs.toArray) (.agg ds.toArray) cs ds hf (by omega) ⟨hc', .inl ⟨D, hu, hd, rfl⟩⟩ ⟨by rw [← hl.1]; exact hc', .inl ⟨D, hu, hd, rfl⟩⟩ hl
  simp [execOp, ho, ha.eval hx, ha.eval hy, run_eqGuard_agg _ _ _ _ _ _ _ hm, run_neq_struct, h]
end
end Go.Proofs.YtjdolgfhcjnniaaDoor
