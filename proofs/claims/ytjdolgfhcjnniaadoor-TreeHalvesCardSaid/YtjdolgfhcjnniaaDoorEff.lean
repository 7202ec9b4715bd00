/-
  The operations of this seat's walks that turn memory: a variable, a store, a call, a slice made, appended to, copied into.
-/
import Derived.Test.YtjdolgfhcjnniaaDoorStep
import Derived.Deep.AppendSrc
import Derived.Laws.CopyOwn
namespace Go.Proofs.YtjdolgfhcjnniaaDoor
open Go Go.RowKit

section
variable {P : Program} {Q : Exit → Act → World → Prop} {n : Nat} {F : Fr} {w w0 : World} {ops : Array Oper} {rest : List Oper} {ty : TypeId} {pos : String} {af : Array Edge} {d : Tmp}
variable {S : List Nat} {L : Lk} {X : List Ck} {T : TypeId} {x y : Operand}

/-- What an operation that yields a value leaves: over every world that it may leave. -/
theorem st_run {op : Op} {v : Value} {w' : World} (h : ∀ n a, Knows n F a → ∀ o : Oper, o.op = op → o.type = ty → (execOp a.eval o).run P w = .ok (.value v) w') (hd : Nat.blt d n = true) (k : St P Q n ops rest ((d, v) :: F) w') :
    St P Q n ops (⟨some d, op, ty, pos, af, none⟩ :: rest) F w := by
  intro a ha
  refine wpList_plain rfl fun K hK => ?_
  unfold Oper.wp
  rw [h n a ha _ rfl rfl, Oper.upon_value]
  exact hK _ _ (k _ (ha.put hd v))
theorem st_run_ {op : Op} {v : Value} {w' : World} (h : ∀ n a, Knows n F a → ∀ o : Oper, o.op = op → o.type = ty → (execOp a.eval o).run P w = .ok (.value v) w') (k : St P Q n ops rest F w') :
    St P Q n ops (⟨none, op, ty, pos, af, none⟩ :: rest) F w := by
  intro a ha
  refine wpList_plain rfl fun K hK => ?_
  unfold Oper.wp
  rw [h n a ha _ rfl rfl, Oper.upon_value]
  exact hK _ _ (k _ ha)
theorem st_runs {op : Op} {w' : World} (h : ∀ n a, Knows n F a → ∀ o : Oper, o.op = op → o.type = ty → (execOp a.eval o).run P w = .ok .skip w') (k : St P Q n ops rest F w') :
    St P Q n ops (⟨none, op, ty, pos, af, none⟩ :: rest) F w := by
  intro a ha
  refine wpList_plain rfl fun K hK => ?_
  unfold Oper.wp
  rw [h n a ha _ rfl rfl, Oper.upon_skip]
  exact hK _ _ (k _ ha)

/-! ### 1. Variables -/
theorem st_alloc (t : Nat) (zs : List Value) {z : Value} (hp : Hp w0 S L X w) (hd : Nat.blt d n = true) (hz : (P.info? T).bind (·.zero) = some z) (hc : z.cells = zs.toArray)
    (k : ∀ b w', Hp w0 S ((t, ⟨some b, zs, T⟩) :: L) X w' → St P Q n ops rest ((d, .pointer (some ⟨b, 0, none⟩)) :: F) w') : St P Q n ops (⟨some d, .alloc T, ty, pos, af, none⟩ :: rest) F w := by
  cases hq : P.info? T with
  | none => simp [hq] at hz
  | some i =>
    have hz' : i.zero = some z := by simpa [hq] using hz
    refine st_run (v := .pointer (some ⟨w.heap.size, 0, none⟩)) (w' := w.alloc (.cells zs.toArray T)) ?_ hd (k _ _ (hp.new t zs T rfl rfl rfl rfl))
    intro n a ha o ho _
    simp [execOp, ho, Instr.alloc, zeroValue, typeInfo, hq, hz', newVar, newRow, newObj, Sem.run, hc]
theorem st_box (t : Nat) {v : Value} {cs : List Value} (hp : Hp w0 S L X w) (hd : Nat.blt d n = true) (hx : evF F x = some v) (hc : v.cells = cs.toArray)
    (k : ∀ b w', Hp w0 S ((t, ⟨some b, cs, T⟩) :: L) X w' → St P Q n ops rest ((d, .pointer (some ⟨b, 0, none⟩)) :: F) w') : St P Q n ops (⟨some d, .box T x, ty, pos, af, none⟩ :: rest) F w := by
  refine st_run (v := .pointer (some ⟨w.heap.size, 0, none⟩)) (w' := w.alloc (.cells cs.toArray T)) ?_ hd (k _ _ (hp.new t cs T rfl rfl rfl rfl))
  intro n a ha o ho _
  simp [execOp, ho, ha.eval hx, Instr.box, newVar, newRow, newObj, Sem.run, hc]

/-! ### 2. Stores -/
theorem st_store (t : Nat) {b off : Nat} {cs new cs' : List Value} {E : TypeId} {v : Value} (hp : Hp w0 S L X w) (hL : lc L t = some ⟨some b, cs, E⟩) (hx : evF F x = some (.pointer (some ⟨b, off, none⟩))) (hy : evF F y = some v)
    (hv : v.cells = new.toArray) (hsz : (P.info? T).map (·.size) = some new.length) (hfit : off + new.length ≤ cs.length) (h1 : ∀ u ∈ new, u.oneCell' = true)
    (hcs : cs' = cs.take off ++ new ++ cs.drop (off + new.length))
    (k : ∀ w', Hp w0 S ((t, ⟨some b, cs', E⟩) :: L) X w' → St P Q n ops rest F w') : St P Q n ops (⟨none, .store T x y, ty, pos, af, none⟩ :: rest) F w := by
  subst hcs
  refine st_runs (w' := w.setRow b (cs.take off ++ new ++ cs.drop (off + new.length)).toArray) ?_ (k _ (hp.write hL _))
  intro n a ha o ho _
  have hb := (hp.own t _ hL).heap rfl
  have hst := run_storeCells_at (P := P) b off E new 0 cs.toArray w hb (by simpa using hfit) h1
  simp only [Nat.add_zero] at hst
  cases hq : P.info? T with
  | none => simp [hq] at hsz
  | some i =>
    have hi : i.size = new.length := by simpa [hq] using hsz
    simp [execOp, ho, ha.eval hx, ha.eval hy, Instr.storeAt, Instr.sureAddr, storeVar, hv, sizeOf, typeInfo, hq, hi, hst]
/-- One cell. -/
theorem st_store1 (t : Nat) {b off : Nat} {cs : List Value} {E : TypeId} {v : Value} (hp : Hp w0 S L X w) (hL : lc L t = some ⟨some b, cs, E⟩) (hx : evF F x = some (.pointer (some ⟨b, off, none⟩))) (hy : evF F y = some v)
    (h1 : v.oneCell' = true) (hsz : (P.info? T).map (·.size) = some 1) (hfit : off < cs.length)
    (k : ∀ w', Hp w0 S ((t, ⟨some b, cs.set off v, E⟩) :: L) X w' → St P Q n ops rest F w') : St P Q n ops (⟨none, .store T x y, ty, pos, af, none⟩ :: rest) F w := by
  refine st_store t (new := [v]) hp hL hx hy ?_ hsz (by simp only [List.length_singleton]; omega) (by simpa using h1) ?_ k
  · cases v <;> first | rfl | cases h1
  · rw [List.set_eq_take_append_cons_drop, if_pos hfit]; simp
/-- An element of a row that reads as 'xs.map f'. -/
theorem st_storeE (t : Nat) {α : Type} {b off : Nat} {xs : List α} {f : α → Value} {u : α} {E : TypeId} (hp : Hp w0 S L X w) (hL : lc L t = some ⟨some b, xs.map f, E⟩) (hx : evF F x = some (.pointer (some ⟨b, off, none⟩))) (hy : evF F y = some (f u))
    (j : Nat) (hj : off = j ∧ j < xs.length) (h1 : (f u).oneCell' = true) (hsz : (P.info? T).map (·.size) = some 1)
    (k : ∀ w', Hp w0 S ((t, ⟨some b, (xs.set j u).map f, E⟩) :: L) X w' → St P Q n ops rest F w') : St P Q n ops (⟨none, .store T x y, ty, pos, af, none⟩ :: rest) F w := by
  obtain ⟨rfl, hj⟩ := hj
  refine st_store1 t hp hL hx hy h1 hsz (by simpa using hj) ?_
  rw [← List.map_set]
  exact k
/-- A whole variable. -/
theorem st_storeA (t : Nat) {b : Nat} {cs new : List Value} {E : TypeId} (hp : Hp w0 S L X w) (hL : lc L t = some ⟨some b, cs, E⟩) (hx : evF F x = some (.pointer (some ⟨b, 0, none⟩))) (hy : evF F y = some (.agg new.toArray))
    (hl : new.length = cs.length) (hsz : (P.info? T).map (·.size) = some new.length) (h1 : ∀ u ∈ new, u.oneCell' = true)
    (k : ∀ w', Hp w0 S ((t, ⟨some b, new, E⟩) :: L) X w' → St P Q n ops rest F w') : St P Q n ops (⟨none, .store T x y, ty, pos, af, none⟩ :: rest) F w := by
  refine st_store t (new := new) hp hL hx hy rfl hsz (by omega) h1 ?_ k
  rw [Nat.zero_add, hl]; simp
/-- A field of several cells. -/
theorem st_storeM (t : Nat) {b off : Nat} (A old B new : List Value) {E : TypeId} {v : Value} (hp : Hp w0 S L X w) (hL : lc L t = some ⟨some b, A ++ (old ++ B), E⟩) (hx : evF F x = some (.pointer (some ⟨b, off, none⟩))) (hy : evF F y = some v)
    (hv : v.cells = new.toArray) (hoff : A.length = off) (hl : new.length = old.length) (hsz : (P.info? T).map (·.size) = some new.length) (h1 : ∀ u ∈ new, u.oneCell' = true)
    (k : ∀ w', Hp w0 S ((t, ⟨some b, A ++ (new ++ B), E⟩) :: L) X w' → St P Q n ops rest F w') : St P Q n ops (⟨none, .store T x y, ty, pos, af, none⟩ :: rest) F w := by
  subst hoff
  refine st_store t (new := new) hp hL hx hy hv hsz (by simp; omega) h1 ?_ k
  rw [hl, List.take_left, List.append_assoc, List.drop_append, List.drop_of_length_le (by omega)]
  simp

/-! ### 3. Calls -/
def evs (F : Fr) : List Operand → Option (List Value)
  | [] => some []
  | x :: t => match evF F x, evs F t with | some v, some vs => some (v :: vs) | _, _ => none
theorem Knows.evals {n : Nat} {F : Fr} {a : Act} (h : Knows n F a) : ∀ {xs : List Operand} {vs : List Value}, evs F xs = some vs → xs.map a.eval = vs
  | [], vs, hv => by simp [evs] at hv; subst hv; rfl
  | x :: t, vs, hv => by
    simp only [evs] at hv
    cases hx : evF F x with
    | none => simp [hx] at hv
    | some v =>
      cases ht : evs F t with
      | none => simp [hx, ht] at hv
      | some us =>
        simp [hx, ht] at hv
        subst hv
        simp [h.eval hx, h.evals ht]
/-- It has a body, and is none of the run-time's own. -/
def Plain (P : Program) (f : FuncId) : Prop := ∃ fn, P.funcs[f]? = some fn ∧ (fn.name == "runtime.NumGoroutine") = false ∧ fn.body.isNone = false
theorem st_call {f : FuncId} {g : Operand} {xs : List Operand} {vs : List Value} {ats : Array TypeId} {R : Ending → World → Prop} (hf : Plain P f) (hg : evF F g = some (.func (.func f) #[] #[])) (hxs : evs F xs = some vs) (hd : Nat.blt d n = true)
    (h : Calls P f vs.toArray w R) (k : ∀ e w', R e w' → ∃ v, e = .returned v ∧ St P Q n ops rest ((d, v) :: F) w') :
    St P Q n ops (⟨some d, .call { callee := .value g, args := xs.toArray, argTypes := ats }, ty, pos, af, none⟩ :: rest) F w := by
  intro a ha
  refine wpList_plain rfl fun K hK => ?_
  obtain ⟨fn, hfn, hn, hb⟩ := hf
  have he : (execOp a.eval ⟨some d, .call { callee := .value g, args := xs.toArray, argTypes := ats }, ty, pos, af, none⟩).run P w = .ok (.enter f vs.toArray) w := by
    have hb' : fn.body ≠ none := by cases hbo : fn.body <;> simp_all
    have hn' : fn.name ≠ "runtime.NumGoroutine" := by simpa using hn
    simp [execOp, resolve, ha.eval hg, ha.evals hxs, Deferred.ofValue, invoke, callFunc, hfn, hn', hb']
  unfold Oper.wp
  rw [he, Oper.upon_enter]
  refine h.mono fun e w' hR => ?_
  obtain ⟨v, rfl, hk⟩ := k e w' hR
  exact hK _ _ (hk _ (ha.put hd v))
theorem st_call_ {f : FuncId} {g : Operand} {xs : List Operand} {vs : List Value} {ats : Array TypeId} {R : Ending → World → Prop} (hf : Plain P f) (hg : evF F g = some (.func (.func f) #[] #[])) (hxs : evs F xs = some vs)
    (h : Calls P f vs.toArray w R) (k : ∀ e w', R e w' → ∃ v, e = .returned v ∧ St P Q n ops rest F w') :
    St P Q n ops (⟨none, .call { callee := .value g, args := xs.toArray, argTypes := ats }, ty, pos, af, none⟩ :: rest) F w := by
  intro a ha
  refine wpList_plain rfl fun K hK => ?_
  obtain ⟨fn, hfn, hn, hb⟩ := hf
  have he : (execOp a.eval ⟨none, .call { callee := .value g, args := xs.toArray, argTypes := ats }, ty, pos, af, none⟩).run P w = .ok (.enter f vs.toArray) w := by
    have hb' : fn.body ≠ none := by cases hbo : fn.body <;> simp_all
    have hn' : fn.name ≠ "runtime.NumGoroutine" := by simpa using hn
    simp [execOp, resolve, ha.eval hg, ha.evals hxs, Deferred.ofValue, invoke, callFunc, hfn, hn', hb']
  unfold Oper.wp
  rw [he, Oper.upon_enter]
  refine h.mono fun e w' hR => ?_
  obtain ⟨v, rfl, hk⟩ := k e w' hR
  exact hK _ _ (hk _ ha)
theorem ss_call {q : Act → Prop} {f : FuncId} {g : Operand} {xs : List Operand} {vs : List Value} {ats : Array TypeId} {v : Value} (hf : Plain P f) (hg : evF F g = some (.func (.func f) #[] #[])) (hxs : evs F xs = some vs) (hd : Nat.blt d n = true)
    (h : Calls P f vs.toArray w fun e w' => e = .returned v ∧ w' = w) (k : Ss P q n ops rest ((d, v) :: F) w) :
    Ss P q n ops (⟨some d, .call { callee := .value g, args := xs.toArray, argTypes := ats }, ty, pos, af, none⟩ :: rest) F w := by
  intro a ha
  refine wpStill_step fun K hK => ?_
  rw [if_pos (by simp [Region.wanted])]
  obtain ⟨fn, hfn, hn, hb⟩ := hf
  have he : (execOp a.eval ⟨some d, .call { callee := .value g, args := xs.toArray, argTypes := ats }, ty, pos, af, none⟩).run P w = .ok (.enter f vs.toArray) w := by
    have hb' : fn.body ≠ none := by cases hbo : fn.body <;> simp_all
    have hn' : fn.name ≠ "runtime.NumGoroutine" := by simpa using hn
    simp [execOp, resolve, ha.eval hg, ha.evals hxs, Deferred.ofValue, invoke, callFunc, hfn, hn', hb']
  unfold Oper.still
  rw [he]
  exact ⟨rfl, v, h, hK _ (k _ (ha.put hd v))⟩
/-! ### 4. Results that lie in variables -/
def RV (P : Program) (F : Fr) (w : World) (r : ResultVar) (v : Value) : Prop :=
  match r with
  | .tmp t => lk F t = some v
  | .cell ad t => ∃ A, lk F ad = some (.pointer (some A)) ∧ (loadVar t A).run P w = .ok v w
theorem rv_tmp {t : Tmp} {v : Value} (hv : lk F t = some v) : RV P F w (.tmp t) v := hv
theorem run_loadVar_cells {t : TypeId} {bl o : Nat} {D : TypeDesc} {cs : List Value} (hu : P.underlying t = some D) (hd : (match D with | .struct _ | .array _ _ => true | _ => false) = true)
    (hi : (P.info? t).map (·.size) = some cs.length) (hc : Cells w bl o cs) : (loadVar t ⟨bl, o, none⟩).run P w = .ok (.agg cs.toArray) w := by
  have hl := run_loadCells_list (P := P) w ⟨bl, o, none⟩ cs (cells_add hc)
  cases hq : P.info? t with
  | none => simp [hq] at hi
  | some i =>
    have hi' : i.size = cs.length := by simpa [hq] using hi
    simp [loadVar, run_isAgg_yes hu hd, sizeOf, typeInfo, hq, hi', hl]
theorem rv_cells {ad : Tmp} {t : TypeId} {bl o : Nat} {D : TypeDesc} {cs : List Value} (hv : lk F ad = some (.pointer (some ⟨bl, o, none⟩))) (hu : P.underlying t = some D) (hd : (match D with | .struct _ | .array _ _ => true | _ => false) = true)
    (hi : (P.info? t).map (·.size) = some cs.length) (hc : Cells w bl o cs) : RV P F w (.cell ad t) (.agg cs.toArray) := ⟨_, hv, run_loadVar_cells hu hd hi hc⟩
theorem rv_cell {ad : Tmp} {t : TypeId} {bl o : Nat} {D : TypeDesc} {v : Value} (hv : lk F ad = some (.pointer (some ⟨bl, o, none⟩))) (hu : P.underlying t = some D) (hd : (match D with | .struct _ | .array _ _ => true | _ => false) = false)
    (hc : w.cell? ⟨bl, o, none⟩ = some v) : RV P F w (.cell ad t) v := ⟨_, hv, by simp [loadVar, run_isAgg_no hu hd, load, Sem.run, hc]⟩
theorem pr_rv1 {fn : Func} {R : Ending → World → Prop} {r : ResultVar} {v : Value} (hres : fn.results = #[r]) (h1 : RV P F w r v) (h : R (.returned v) w) : Pr (bodyPost P fn R) n F w := by
  intro a ha
  refine ⟨ha.defers, v, ?_, h⟩
  cases r with
  | tmp t => have := ha.get t _ h1; simp_all [results]
  | cell ad t => obtain ⟨A, h2, h3⟩ := h1; have := ha.get ad _ h2; simp_all [results, asAddr]
theorem pr_rv2 {fn : Func} {R : Ending → World → Prop} {r s : ResultVar} {v u : Value} (hres : fn.results = #[r, s]) (h1 : RV P F w r v) (h2 : RV P F w s u) (h : R (.returned (.tuple #[v, u])) w) : Pr (bodyPost P fn R) n F w := by
  intro a ha
  refine ⟨ha.defers, _, ?_, h⟩
  cases r with
  | tmp t =>
    have := ha.get t _ h1
    cases s with
    | tmp t' => have := ha.get t' _ h2; simp_all [results]
    | cell ad t' => obtain ⟨A, h3, h4⟩ := h2; have := ha.get ad _ h3; simp_all [results, asAddr]
  | cell ad t =>
    obtain ⟨A, h3, h4⟩ := h1
    have := ha.get ad _ h3
    cases s with
    | tmp t' => have := ha.get t' _ h2; simp_all [results, asAddr]
    | cell ad' t' => obtain ⟨A', h5, h6⟩ := h2; have := ha.get ad' _ h5; simp_all [results, asAddr]
theorem plain_of {P : Program} {f : FuncId} {fn : Func} (hf : P.funcs[f]? = some fn) (h : ((fn.name == "runtime.NumGoroutine") || fn.body.isNone) = false) : Plain P f := by
  rw [Bool.or_eq_false_iff] at h
  exact ⟨fn, hf, h.1, h.2⟩
end
end Go.Proofs.YtjdolgfhcjnniaaDoor
