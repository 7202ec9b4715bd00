/-
  Regions that draw their order and do more than read: a plan says which operation may be taken first and which come up alone; what the taken ones lean on ('Hs') is shown anew behind every operation that turns the world.
-/
import Derived.Test.YtjdolgfhcjnniaaDoorFld
import Derived.OrdersHeld
namespace Go.Proofs.YtjdolgfhcjnniaaDoor
open Go Go.RowKit

inductive Plan where
  | nil : Plan
  | take : Nat → Plan → Plan
  | load : Nat → Plan → Plan
  | one : Nat → Plan → Plan
  | two : Nat → Plan → Nat → Plan → Plan
  | three : Nat → Plan → Nat → Plan → Nat → Plan → Plan
def Plan.depth : Plan → Nat
  | .nil => 0
  | .take _ p | .load _ p | .one _ p => p.depth + 1
  | .two _ p _ q => max p.depth q.depth + 1
  | .three _ p _ q _ r => max p.depth (max q.depth r.depth) + 1
/-- Who waits for i, at once or through others (edges lead to lower numbers). -/
def reachL (ops : Array Oper) (i : Nat) : Array Bool := (List.range ops.size).foldl (fun R j => R.push (match ops[j]? with
  | some oj => oj.after.any fun e => Region.binds .any e && (e.on == i || R.getD e.on false)
  | none => false)) #[]
/-- .. is closed, holds all that wait at once, and none of them is behind us. -/
def reachOkB (ops : Array Oper) (l R : Array Bool) (i : Nat) : Bool := (List.range ops.size).all fun j => match ops[j]? with
  | some oj => (!R.getD j false || (!l.getD j true && oj.after.any fun e => Region.binds .any e && (e.on == i || (R.getD e.on false && Nat.blt e.on ops.size)))) && (!(oj.after.any fun e => Region.binds .any e && e.on == i) || R.getD j false)
  | none => true
/-- Everyone who does not wait for i leaves the world (pu) or keeps what the loads lean on (nd). -/
def keptB (ops : Array Oper) (pu nd : List Nat) (l R : Array Bool) (i : Nat) : Bool := (List.range ops.size).all fun j => j == i || l.getD j true || pu.contains j || nd.contains j || R.getD j false
def planB (ops : Array Oper) (pu nd : List Nat) : Plan → Array Bool → Bool
  | .nil, l => (Region.ready .any ops l).isEmpty
  | .take i p, l => (Region.ready .any ops l).contains i && Region.free .any ops l i && planB ops pu nd p (l.setIfInBounds i true)
  | .load i p, l => (Region.ready .any ops l).contains i && Region.free .any ops l i && reachOkB ops l (reachL ops i) i && keptB ops pu nd l (reachL ops i) i && planB ops pu nd p (l.setIfInBounds i true)
  | .one i p, l => Region.ready .any ops l == [i] && !pu.contains i && planB ops pu nd p (l.setIfInBounds i true)
  | .two i p j q, l => Region.ready .any ops l == [i, j] && !pu.contains i && !pu.contains j && planB ops pu nd p (l.setIfInBounds i true) && planB ops pu nd q (l.setIfInBounds j true)
  | .three i p j q k r, l => Region.ready .any ops l == [i, j, k] && !pu.contains i && !pu.contains j && !pu.contains k && planB ops pu nd p (l.setIfInBounds i true) && planB ops pu nd q (l.setIfInBounds j true) && planB ops pu nd r (l.setIfInBounds k true)
def planAllB (ops : Array Oper) (pu nd : List Nat) (p : Plan) : Bool := Region.noSelect ops && Nat.ble p.depth ops.size && planB ops pu nd p (Array.replicate ops.size false)

/-- A panic's end does not look at the temporaries. -/
def Calm (Q : Exit → Act → World → Prop) : Prop := ∀ c a d v w, Q (.panic c) (a.put d v) w → Q (.panic c) a w
theorem calm_then {K : Act → World → Prop} {Q : Exit → Act → World → Prop} (h : Calm Q) : Calm (Exit.then K Q) := fun c a d v w hq => h c a d v w hq
theorem calm_block {id : Nat} {Q : Exit → Act → World → Prop} (h : Calm Q) : Calm (Exit.inBlock id Q) := fun c a d v w hq => h c a d v w hq
theorem calm_body (P : Program) (fn : Func) (R : Ending → World → Prop) : Calm (bodyPost P fn R) := fun c a d v w hq => by
  cases d <;> exact hq
section
variable {P : Program} {Q : Exit → Act → World → Prop} {Hs : World → Prop} {pu nd : List Nat} {n : Nat} {F : Fr} {w : World} {ops : Array Oper} {ty : TypeId} {pos : String} {af : Array Edge} {d : Tmp} {op : Op} {v : Value}
/-- What an operation says of the world behind it. -/
def Keep (Hs : World → Prop) (pu nd : List Nat) (j : Nat) (w w' : World) : Prop := (pu.contains j = true → w' = w) ∧ (nd.contains j = true → Hs w → Hs w')
/-- Whatever order is picked from here on. -/
def anyN (P : Program) (ops : Array Oper) (Q : Exit → Act → World → Prop) (Hs : World → Prop) (pu nd : List Nat) : Nat → Array Bool → Act → World → Prop
  | 0, l, a, w => Region.ready .any ops l = [] ∧ Q .normal a w
  | fuel + 1, l, a, w => (Region.ready .any ops l = [] → Q .normal a w) ∧
    ∀ i ∈ Region.ready .any ops l, wpOp P ops Q i (fun a' w' => Keep Hs pu nd i w w' ∧ anyN P ops Q Hs pu nd fuel (l.setIfInBounds i true) a' w') a w
theorem any_of_N : ∀ (fuel : Nat) (l : Array Bool) (a : Act) (w : World), anyN P ops Q Hs pu nd fuel l a w → wpAny P .any ops Q fuel l a w
  | 0, _, _, _, h => h
  | fuel + 1, _, _, _, h => ⟨h.1, fun i hi => wpOp_mono (fun a' w' h' => any_of_N fuel _ a' w' h'.2) (h.2 i hi)⟩
/-- An operation may be taken first that yields its value in every world with R, if everyone who might come before it keeps R. -/
theorem anyN_first {R : World → Prop} {i : Nat} {oi : Oper} {v : Value} (hi : ops[i]? = some oi) (hsel : ∀ (j : Nat) (o : Oper) cs b, ops[j]? = some o → o.op ≠ .select cs b) (hQ : Calm Q) :
    ∀ (fuel : Nat) (l : Array Bool) (a : Act) (w : World),
      (∀ j oj, ops[j]? = some oj → j ≠ i → l.getD j true = false → (∀ e ∈ oj.after, Region.binds .any e = true → e.on ≠ i) → oi.apart ops oj = true ∧ ∀ w1 w2, R w1 → Keep Hs pu nd j w1 w2 → R w2) →
      i ∈ Region.ready .any ops l → YieldsIf P ops R oi v a → R w → anyN P ops Q Hs pu nd fuel (l.setIfInBounds i true) (a.put oi.dst v) w → anyN P ops Q Hs pu nd (fuel + 1) l a w := by
  intro fuel
  induction fuel with
  | zero =>
    intro l a w _ hr hy hw H
    refine ⟨fun h => (by rw [h] at hr; cases hr), fun j hj => ?_⟩
    by_cases hji : j = i
    · subst hji; exact hy.wpOp hi hw ⟨⟨fun _ => rfl, fun _ h => h⟩, H⟩
    · have := ready_mono hj hji
      rw [H.1] at this
      cases this
  | succ fuel ih =>
    intro l a w hfree hr hy hw H
    refine ⟨fun h => (by rw [h] at hr; cases hr), fun j hj => ?_⟩
    by_cases hji : j = i
    · subst hji; exact hy.wpOp hi hw ⟨⟨fun _ => rfl, fun _ h => h⟩, H⟩
    · have h1 := H.2 j (ready_mono hj hji)
      obtain ⟨hjun, oj, hoj, hall⟩ := mem_ready.1 hj
      have hnot : ∀ e ∈ oj.after, Region.binds .any e = true → e.on ≠ i := fun e he hb heq => by
        have h1 := hall e he hb
        have h0 := (mem_ready.1 hr).1
        rw [heq] at h1
        rcases Nat.lt_or_ge i l.size with h' | h'
        · simp [h'] at h0 h1; rw [h0] at h1; cases h1
        · simp [Array.getElem?_eq_none h'] at h1
      obtain ⟨hap, hRj⟩ := hfree j oj hoj hji hjun hnot
      have h2 := wpOp_putIf hoj hap (fun cs b => hsel i oi cs b hi) (fun cs b => hsel j oj cs b hoj) (fun c a w => hQ c a oi.dst v w) hy h1
      have later : ∀ k ok, ops[k]? = some ok → k ≠ i → (l.setIfInBounds j true).getD k true = false → l.getD k true = false := fun k ok hk hki hun => by
        by_cases hjk : j = k
        · subst hjk; exact hjun
        · rw [getD_set_ne true hjk] at hun; exact hun
      refine wpOp_mono (fun a' w' h3 => ⟨h3.2.1, ih (l.setIfInBounds j true) a' w' (fun k ok hk hki hun hno => hfree k ok hk hki (later k ok hk hki hun) hno) (ready_mono hr (Ne.symm hji)) h3.1 (hRj w w' hw h3.2.1) ?_⟩) h2
      rw [Array.setIfInBounds_comm _ _ hji]
      exact h3.2.2

/-- .. if everyone who might come before it, and does not wait for it through others, keeps R. -/
theorem anyN_firstR {R : World → Prop} {i : Nat} {oi : Oper} {v : Value} (V : Nat → Prop) (hi : ops[i]? = some oi) (hsel : ∀ (j : Nat) (o : Oper) cs b, ops[j]? = some o → o.op ≠ .select cs b) (hQ : Calm Q)
    (hV : ∀ (j : Nat) oj, ops[j]? = some oj → V j → ∃ e ∈ oj.after, Region.binds .any e = true ∧ (e.on = i ∨ (V e.on ∧ e.on < ops.size))) :
    ∀ (fuel : Nat) (l : Array Bool) (a : Act) (w : World),
      (∀ j, V j → j < ops.size → l.getD j true = false) →
      (∀ j oj, ops[j]? = some oj → j ≠ i → l.getD j true = false → ¬ V j → oi.apart ops oj = true ∧ ∀ w1 w2, R w1 → Keep Hs pu nd j w1 w2 → R w2) →
      i ∈ Region.ready .any ops l → YieldsIf P ops R oi v a → R w → anyN P ops Q Hs pu nd fuel (l.setIfInBounds i true) (a.put oi.dst v) w → anyN P ops Q Hs pu nd (fuel + 1) l a w := by
  intro fuel
  induction fuel with
  | zero =>
    intro l a w _ _ hr hy hw H
    refine ⟨fun h => (by rw [h] at hr; cases hr), fun j hj => ?_⟩
    by_cases hji : j = i
    · subst hji; exact hy.wpOp hi hw ⟨⟨fun _ => rfl, fun _ h => h⟩, H⟩
    · have := ready_mono hj hji
      rw [H.1] at this
      cases this
  | succ fuel ih =>
    intro l a w hun0 hfree hr hy hw H
    refine ⟨fun h => (by rw [h] at hr; cases hr), fun j hj => ?_⟩
    by_cases hji : j = i
    · subst hji; exact hy.wpOp hi hw ⟨⟨fun _ => rfl, fun _ h => h⟩, H⟩
    · have h1 := H.2 j (ready_mono hj hji)
      obtain ⟨hjun, oj, hoj, hall⟩ := mem_ready.1 hj
      have hlisted : ∀ k, l.getD k true = false → l[k]? = some true → False := fun k h0 h1 => by
        rw [Array.getD_eq_getD_getElem?, h1] at h0; cases h0
      have hnot : ¬ V j := fun hv => by
        obtain ⟨e, he, hb, hc⟩ := hV j oj hoj hv
        have h1 := hall e he hb
        have h0 : l.getD e.on true = false := by
          rcases hc with hc | ⟨hc, hlt⟩
          · rw [hc]; exact (mem_ready.1 hr).1
          · exact hun0 e.on hc hlt
        rcases Nat.lt_or_ge e.on l.size with h' | h'
        · simp [h'] at h0 h1; rw [h0] at h1; cases h1
        · simp [Array.getElem?_eq_none h'] at h1
      obtain ⟨hap, hRj⟩ := hfree j oj hoj hji hjun hnot
      have h2 := wpOp_putIf hoj hap (fun cs b => hsel i oi cs b hi) (fun cs b => hsel j oj cs b hoj) (fun c a w => hQ c a oi.dst v w) hy h1
      have later : ∀ k ok, ops[k]? = some ok → k ≠ i → (l.setIfInBounds j true).getD k true = false → l.getD k true = false := fun k ok hk hki hun => by
        by_cases hjk : j = k
        · subst hjk; exact hjun
        · rw [getD_set_ne true hjk] at hun; exact hun
      refine wpOp_mono (fun a' w' h3 => ⟨h3.2.1, ih (l.setIfInBounds j true) a' w' (fun k hk hlt => ?_) (fun k ok hk hki hun hno => hfree k ok hk hki (later k ok hk hki hun) hno) (ready_mono hr (Ne.symm hji)) h3.1 (hRj w w' hw h3.2.1) ?_⟩) h2
      · have hkj : j ≠ k := fun e => hnot (e ▸ hk)
        rw [getD_set_ne true hkj]; exact hun0 k hk hlt
      · rw [Array.setIfInBounds_comm _ _ hji]
        exact h3.2.2

/-- What follows along a plan. -/
def planWp (P : Program) (ops : Array Oper) (Q : Exit → Act → World → Prop) (Hs : World → Prop) (nd : List Nat) : Plan → Act → World → Prop
  | .nil, a, w => Q .normal a w
  | .take i p, a, w => ∃ o v, ops[i]? = some o ∧ YieldsIf P ops (fun _ => True) o v a ∧ planWp P ops Q Hs nd p (a.put o.dst v) w
  | .load i p, a, w => Hs w ∧ ∃ o v, ops[i]? = some o ∧ YieldsIf P ops Hs o v a ∧ planWp P ops Q Hs nd p (a.put o.dst v) w
  | .one i p, a, w => wpOp P ops Q i (fun a' w' => (nd.contains i = true → Hs w') ∧ planWp P ops Q Hs nd p a' w') a w
  | .two i p j q, a, w => wpOp P ops Q i (fun a' w' => (nd.contains i = true → Hs w') ∧ planWp P ops Q Hs nd p a' w') a w ∧ wpOp P ops Q j (fun a' w' => (nd.contains j = true → Hs w') ∧ planWp P ops Q Hs nd q a' w') a w
  | .three i p j q k r, a, w => wpOp P ops Q i (fun a' w' => (nd.contains i = true → Hs w') ∧ planWp P ops Q Hs nd p a' w') a w ∧ wpOp P ops Q j (fun a' w' => (nd.contains j = true → Hs w') ∧ planWp P ops Q Hs nd q a' w') a w ∧
      wpOp P ops Q k (fun a' w' => (nd.contains k = true → Hs w') ∧ planWp P ops Q Hs nd r a' w') a w

theorem kept_spec {l R : Array Bool} {i j : Nat} {oj : Oper} (h : keptB ops pu nd l R i = true) (hj : ops[j]? = some oj) (hne : j ≠ i) (hun : l.getD j true = false) (hno : ¬ R.getD j false = true) : pu.contains j = true ∨ nd.contains j = true := by
  unfold keptB at h
  rw [List.all_eq_true] at h
  have h1 := h j (List.mem_range.2 (Array.getElem?_eq_some_iff.1 hj).1)
  simp only [Bool.or_eq_true, beq_iff_eq, hun, Bool.false_eq_true, or_false] at h1
  rcases h1 with ((h1 | h1) | h1) | h1
  · exact absurd h1 hne
  · exact .inl h1
  · exact .inr h1
  · exact absurd h1 hno
theorem reach_at {l R : Array Bool} {i j : Nat} {oj : Oper} (h : reachOkB ops l R i = true) (hj : ops[j]? = some oj) :
    (R.getD j false = true → l.getD j true = false ∧ ∃ e ∈ oj.after, Region.binds .any e = true ∧ (e.on = i ∨ (R.getD e.on false = true ∧ e.on < ops.size))) ∧ ((∃ e ∈ oj.after, Region.binds .any e = true ∧ e.on = i) → R.getD j false = true) := by
  unfold reachOkB at h
  rw [List.all_eq_true] at h
  have h1 := h j (List.mem_range.2 (Array.getElem?_eq_some_iff.1 hj).1)
  simp only [hj, Bool.and_eq_true, Bool.or_eq_true, Bool.not_eq_true'] at h1
  obtain ⟨h2, h3⟩ := h1
  refine ⟨fun hR => ?_, fun ⟨e, he, hb, ho⟩ => ?_⟩
  · rcases h2 with h2 | ⟨h4, h5⟩
    · rw [hR] at h2; cases h2
    · refine ⟨h4, ?_⟩
      rw [Array.any_eq_true] at h5
      obtain ⟨k, hk, hb⟩ := h5
      simp only [Bool.and_eq_true, Bool.or_eq_true, beq_iff_eq, Nat.blt_eq] at hb
      exact ⟨_, Array.getElem_mem hk, hb.1, hb.2⟩
  · rcases h3 with h3 | h3
    · rw [Array.any_eq_false] at h3
      obtain ⟨k, hk, rfl⟩ := Array.getElem_of_mem he
      exact absurd (by simp [hb, ho]) (h3 k hk)
    · exact h3
theorem plan_held (hs : Region.noSelect ops = true) (hQ : Calm Q) : ∀ (p : Plan) (l : Array Bool) (fuel : Nat) (a : Act) (w : World), p.depth ≤ fuel → planB ops pu nd p l = true → planWp P ops Q Hs nd p a w → anyN P ops Q Hs pu nd fuel l a w
  | .nil, l, fuel, a, w, _, hB, h => by
    have hr : Region.ready .any ops l = [] := by simpa [planB] using hB
    cases fuel with
    | zero => exact ⟨hr, h⟩
    | succ f => exact ⟨fun _ => h, by rw [hr]; simp⟩
  | .take i p, l, fuel, a, w, hd, hB, h => by
    obtain ⟨o, v, ho, hy, hk⟩ := h
    simp only [planB, Bool.and_eq_true] at hB
    obtain ⟨⟨h1, h2⟩, h3⟩ := hB
    obtain ⟨f, rfl⟩ : ∃ f, fuel = f + 1 := ⟨fuel - 1, by simp only [Plan.depth] at hd; omega⟩
    exact anyN_first ho (Region.noSelect_spec hs) hQ f l a w (fun j oj hj hne hun hno => ⟨Region.free_spec ho h2 j oj hj hne hun hno, fun _ _ _ _ => trivial⟩) (by simpa using h1) hy trivial (plan_held hs hQ p _ f _ w (by simp only [Plan.depth] at hd; omega) h3 hk)
  | .load i p, l, fuel, a, w, hd, hB, h => by
    obtain ⟨hS, o, v, ho, hy, hk⟩ := h
    simp only [planB, Bool.and_eq_true] at hB
    obtain ⟨⟨⟨⟨h1, h2⟩, h5⟩, h4⟩, h3⟩ := hB
    obtain ⟨f, rfl⟩ : ∃ f, fuel = f + 1 := ⟨fuel - 1, by simp only [Plan.depth] at hd; omega⟩
    exact anyN_firstR (fun j => (reachL ops i).getD j false = true) ho (Region.noSelect_spec hs) hQ (fun j oj hj hv => ((reach_at h5 hj).1 hv).2) f l a w
      (fun j hv hlt => ((reach_at h5 (Array.getElem?_eq_some_iff.2 ⟨hlt, rfl⟩)).1 hv).1)
      (fun j oj hj hne hun hno => ⟨Region.free_spec ho h2 j oj hj hne hun (fun e he hb heq => hno ((reach_at h5 hj).2 ⟨e, he, hb, heq⟩)), fun w1 w2 hw1 hkp => by
        rcases kept_spec h4 hj hne hun hno with hp | hn
        · rw [hkp.1 hp]; exact hw1
        · exact hkp.2 hn hw1⟩) (by simpa using h1) hy hS (plan_held hs hQ p _ f _ w (by simp only [Plan.depth] at hd; omega) h3 hk)
  | .one i p, l, fuel, a, w, hd, hB, h => by
    simp only [planB, Bool.and_eq_true, beq_iff_eq, Bool.not_eq_true'] at hB
    obtain ⟨⟨h1, h2⟩, h3⟩ := hB
    obtain ⟨f, rfl⟩ : ∃ f, fuel = f + 1 := ⟨fuel - 1, by simp only [Plan.depth] at hd; omega⟩
    refine ⟨fun h0 => (by rw [h1] at h0; cases h0), fun j hj => ?_⟩
    obtain rfl : j = i := by rw [h1] at hj; simpa using hj
    exact wpOp_mono (fun a' w' hk => ⟨⟨fun hp => (by rw [h2] at hp; cases hp), fun hn _ => hk.1 hn⟩, plan_held hs hQ p _ f a' w' (by simp only [Plan.depth] at hd; omega) h3 hk.2⟩) h
  | .two i p j q, l, fuel, a, w, hd, hB, h => by
    simp only [planB, Bool.and_eq_true, beq_iff_eq, Bool.not_eq_true'] at hB
    obtain ⟨⟨⟨⟨h1, h2⟩, h2'⟩, h3⟩, h4⟩ := hB
    obtain ⟨f, rfl⟩ : ∃ f, fuel = f + 1 := ⟨fuel - 1, by simp only [Plan.depth] at hd; omega⟩
    refine ⟨fun h0 => (by rw [h1] at h0; cases h0), fun x hx => ?_⟩
    rw [h1] at hx
    rcases List.mem_cons.1 hx with rfl | hx
    · exact wpOp_mono (fun a' w' hk => ⟨⟨fun hp => (by rw [h2] at hp; cases hp), fun hn _ => hk.1 hn⟩, plan_held hs hQ p _ f a' w' (by simp only [Plan.depth] at hd; omega) h3 hk.2⟩) h.1
    · obtain rfl : x = j := by simpa using hx
      exact wpOp_mono (fun a' w' hk => ⟨⟨fun hp => (by rw [h2'] at hp; cases hp), fun hn _ => hk.1 hn⟩, plan_held hs hQ q _ f a' w' (by simp only [Plan.depth] at hd; omega) h4 hk.2⟩) h.2
  | .three i p j q k r, l, fuel, a, w, hd, hB, h => by
    simp only [planB, Bool.and_eq_true, beq_iff_eq, Bool.not_eq_true'] at hB
    obtain ⟨⟨⟨⟨⟨⟨h1, h2⟩, h2'⟩, h2''⟩, h3⟩, h4⟩, h5⟩ := hB
    obtain ⟨f, rfl⟩ : ∃ f, fuel = f + 1 := ⟨fuel - 1, by simp only [Plan.depth] at hd; omega⟩
    refine ⟨fun h0 => (by rw [h1] at h0; cases h0), fun x hx => ?_⟩
    rw [h1] at hx
    rcases List.mem_cons.1 hx with rfl | hx
    · exact wpOp_mono (fun a' w' hk => ⟨⟨fun hp => (by rw [h2] at hp; cases hp), fun hn _ => hk.1 hn⟩, plan_held hs hQ p _ f a' w' (by simp only [Plan.depth] at hd; omega) h3 hk.2⟩) h.1
    · rcases List.mem_cons.1 hx with rfl | hx
      · exact wpOp_mono (fun a' w' hk => ⟨⟨fun hp => (by rw [h2'] at hp; cases hp), fun hn _ => hk.1 hn⟩, plan_held hs hQ q _ f a' w' (by simp only [Plan.depth] at hd; omega) h4 hk.2⟩) h.2.1
      · obtain rfl : x = k := by simpa using hx
        exact wpOp_mono (fun a' w' hk => ⟨⟨fun hp => (by rw [h2''] at hp; cases hp), fun hn _ => hk.1 hn⟩, plan_held hs hQ r _ f a' w' (by simp only [Plan.depth] at hd; omega) h5 hk.2⟩) h.2.2

def Sp (P : Program) (Q : Exit → Act → World → Prop) (Hs : World → Prop) (nd : List Nat) (n : Nat) (ops : Array Oper) (p : Plan) (F : Fr) (w : World) : Prop := ∀ a, Knows n F a → planWp P ops Q Hs nd p a w

theorem sc_plan {id : Nat} (Hs : World → Prop) (pu nd : List Nat) (p : Plan) (hm : P.follows .mixedOrders = true) (hB : planAllB ops pu nd p = true) (hQ : Calm Q)
    (h : Sp P Q Hs nd n ops p F { w with drawn := w.drawn + 1 }) : Sc P Q n (.region id ops true) F w := fun a ha => by
  simp only [planAllB, Bool.and_eq_true] at hB
  obtain ⟨⟨h1, h2⟩, h3⟩ := hB
  exact wp_region_any hm (any_of_N _ _ a _ (plan_held h1 hQ p _ _ a _ (Nat.le_of_ble_eq_true h2) h3 (h a ha)))
theorem sp_nil (h : Pn Q n F w) : Sp P Q Hs nd n ops .nil F w := h
theorem sp_take {i : Nat} {p : Plan} (ho : ops[i]? = some ⟨some d, op, ty, pos, af, none⟩) (hv : ∀ w', OpV P F w' op ty v) (hd : Nat.blt d n = true) (k : Sp P Q Hs nd n ops p ((d, v) :: F) w) : Sp P Q Hs nd n ops (.take i p) F w :=
  fun a ha => ⟨_, v, ho, .inl ⟨by simp [Region.wanted], fun w' _ => hv w' n a ha _ rfl rfl⟩, k _ (ha.put hd v)⟩
theorem sp_take_on {i j tj : Nat} {b : Bool} {p : Plan} (ho : ops[i]? = some ⟨some d, op, ty, pos, af, some (j, b)⟩) (hj : (ops[j]?).bind (·.dst) = some tj) (hb : lk F tj = some (.bool b)) (hv : ∀ w', OpV P F w' op ty v) (hd : Nat.blt d n = true)
    (k : Sp P Q Hs nd n ops p ((d, v) :: F) w) : Sp P Q Hs nd n ops (.take i p) F w :=
  fun a ha => ⟨_, v, ho, .inl ⟨by have hy := yielded_of ha hj hb; simp [Region.wanted, hy], fun w' _ => hv w' n a ha _ rfl rfl⟩, k _ (ha.put hd v)⟩
theorem sp_take_off {i j tj : Nat} {b c : Bool} {p : Plan} (ho : ops[i]? = some ⟨some d, op, ty, pos, af, some (j, c)⟩) (hj : (ops[j]?).bind (·.dst) = some tj) (hb : lk F tj = some (.bool b)) (hne : b = !c) (hd : Nat.blt d n = true)
    (k : Sp P Q Hs nd n ops p ((d, undef) :: F) w) : Sp P Q Hs nd n ops (.take i p) F w :=
  fun a ha => ⟨_, undef, ho, .inr ⟨by have hy := yielded_of ha hj hb; subst hne; simp only [Region.wanted, hy]; cases c <;> rfl, rfl⟩, k _ (ha.put hd undef)⟩
theorem sp_load {i : Nat} {p : Plan} (ho : ops[i]? = some ⟨some d, op, ty, pos, af, none⟩) (hS : Hs w) (hv : ∀ w', Hs w' → OpV P F w' op ty v) (hd : Nat.blt d n = true) (k : Sp P Q Hs nd n ops p ((d, v) :: F) w) : Sp P Q Hs nd n ops (.load i p) F w :=
  fun a ha => ⟨hS, _, v, ho, .inl ⟨by simp [Region.wanted], fun w' hw' => hv w' hw' n a ha _ rfl rfl⟩, k _ (ha.put hd v)⟩
theorem sp_load_on {i j tj : Nat} {b : Bool} {p : Plan} (ho : ops[i]? = some ⟨some d, op, ty, pos, af, some (j, b)⟩) (hj : (ops[j]?).bind (·.dst) = some tj) (hb : lk F tj = some (.bool b)) (hS : Hs w) (hv : ∀ w', Hs w' → OpV P F w' op ty v) (hd : Nat.blt d n = true)
    (k : Sp P Q Hs nd n ops p ((d, v) :: F) w) : Sp P Q Hs nd n ops (.load i p) F w :=
  fun a ha => ⟨hS, _, v, ho, .inl ⟨by have hy := yielded_of ha hj hb; simp [Region.wanted, hy], fun w' hw' => hv w' hw' n a ha _ rfl rfl⟩, k _ (ha.put hd v)⟩
theorem sp_load_off {i j tj : Nat} {b c : Bool} {p : Plan} (ho : ops[i]? = some ⟨some d, op, ty, pos, af, some (j, c)⟩) (hj : (ops[j]?).bind (·.dst) = some tj) (hb : lk F tj = some (.bool b)) (hne : b = !c) (hS : Hs w) (hd : Nat.blt d n = true)
    (k : Sp P Q Hs nd n ops p ((d, undef) :: F) w) : Sp P Q Hs nd n ops (.load i p) F w :=
  fun a ha => ⟨hS, _, undef, ho, .inr ⟨by have hy := yielded_of ha hj hb; subst hne; simp only [Region.wanted, hy]; cases c <;> rfl, rfl⟩, k _ (ha.put hd undef)⟩
theorem sp_split {p : Plan} {j : Tmp} {b : Bool} (hb : lk F j = some (.bool b)) (ht : b = true → Sp P Q Hs nd n ops p ((j, .bool true) :: F) w) (hf : b = false → Sp P Q Hs nd n ops p ((j, .bool false) :: F) w) : Sp P Q Hs nd n ops p F w := by
  intro a ha
  have hk : ∀ c, b = c → Knows n ((j, .bool c) :: F) a := by
    rintro c rfl
    refine ⟨ha.size, ha.defers, fun i v hi => ?_⟩
    simp only [lk] at hi
    by_cases e : j = i
    · subst e; rw [Nat.beq_refl] at hi; obtain rfl := Option.some.inj hi; exact ha.get j _ hb
    · rw [beq_ne e] at hi; exact ha.get i v hi
  cases b
  · exact hf rfl a (hk _ rfl)
  · exact ht rfl a (hk _ rfl)
/-- An operation that is carried out. -/
theorem wpOp_of_list {i : Nat} {o : Oper} {K : Act → World → Prop} {a : Act} (ho : ops[i]? = some o) (h : wpList P ops (Exit.then K fun _ _ _ => False) [o] a w) : wpOp P ops Q i K a w := by
  unfold wpOp
  simp only [ho]
  unfold wpList at h
  split
  · rename_i hw
    rw [if_pos hw] at h
    rcases h with h | ⟨_, h⟩
    · refine .inl ?_
      unfold Oper.wp at *
      generalize (execOp a.eval o).run P w = r at *
      cases r with
      | ok m w' =>
        cases m <;> simp only [Oper.upon] at h ⊢
        case value u => exact h
        case skip => exact h
        case defer d => exact h
        case enter f args =>
          refine Calls.mono h fun e w'' he => ?_
          cases e with
          | returned u => exact he
          | panicked c => exact he.elim
          | outgrown =>
            obtain ⟨_, _, hf⟩ := he
            exact False.elim hf
        case row row args => exact h
      | halt x w' =>
        cases x <;> simp only [Oper.upon] at h ⊢
        case panic u => exact h.elim
    · obtain ⟨_, _, hf⟩ := h
      exact False.elim hf
  · rename_i hw
    rw [if_neg hw] at h
    exact h
theorem sp_one {i : Nat} {p : Plan} {o : Oper} (ho : ops[i]? = some o) (h : St P (Exit.then (fun a' w' => (nd.contains i = true → Hs w') ∧ planWp P ops Q Hs nd p a' w') fun _ _ _ => False) n ops [o] F w) : Sp P Q Hs nd n ops (.one i p) F w :=
  fun a ha => wpOp_of_list ho (h a ha)
theorem sp_two {i j : Nat} {p q : Plan} (h1 : Sp P Q Hs nd n ops (.one i p) F w) (h2 : Sp P Q Hs nd n ops (.one j q) F w) : Sp P Q Hs nd n ops (.two i p j q) F w := fun a ha => ⟨h1 a ha, h2 a ha⟩
theorem sp_three {i j k : Nat} {p q r : Plan} (h1 : Sp P Q Hs nd n ops (.one i p) F w) (h2 : Sp P Q Hs nd n ops (.one j q) F w) (h3 : Sp P Q Hs nd n ops (.one k r) F w) : Sp P Q Hs nd n ops (.three i p j q k r) F w := fun a ha => ⟨h1 a ha, h2 a ha, h3 a ha⟩
theorem sp_next {i : Nat} {p : Plan} {R : Exit → Act → World → Prop} (hS : nd.contains i = true → Hs w) (h : Sp P Q Hs nd n ops p F w) : Pn (Exit.then (fun a' w' => (nd.contains i = true → Hs w') ∧ planWp P ops Q Hs nd p a' w') R) n F w := fun a ha => ⟨hS, h a ha⟩
end
end Go.Proofs.YtjdolgfhcjnniaaDoor
