/-
  Regions that draw their order and do more than read: a plan says which operation may be taken first and which come up alone; what the taken ones lean on ('Hs') is shown anew behind every operation that turns the world.
-/
import Derived.Test.YtcpbfnbfbladoaaDoorFld
import Derived.OrdersHeld
namespace Go.Proofs.YtcpbfnbfbladoaaDoor
open Go Go.RowKit

inductive Plan where
  | nil : Plan
  | take : Nat → Plan → Plan
  | one : Nat → Plan → Plan
  | two : Nat → Plan → Nat → Plan → Plan
  | three : Nat → Plan → Nat → Plan → Nat → Plan → Plan
def Plan.depth : Plan → Nat
  | .nil => 0
  | .take _ p | .one _ p => p.depth + 1
  | .two _ p _ q => max p.depth q.depth + 1
  | .three _ p _ q _ r => max p.depth (max q.depth r.depth) + 1
def planB (ops : Array Oper) : Plan → Array Bool → Bool
  | .nil, l => (Region.ready .any ops l).isEmpty
  | .take i p, l => (Region.ready .any ops l).contains i && Region.free .any ops l i && planB ops p (l.setIfInBounds i true)
  | .one i p, l => Region.ready .any ops l == [i] && planB ops p (l.setIfInBounds i true)
  | .two i p j q, l => Region.ready .any ops l == [i, j] && planB ops p (l.setIfInBounds i true) && planB ops q (l.setIfInBounds j true)
  | .three i p j q k r, l => Region.ready .any ops l == [i, j, k] && planB ops p (l.setIfInBounds i true) && planB ops q (l.setIfInBounds j true) && planB ops r (l.setIfInBounds k true)
def planAllB (ops : Array Oper) (p : Plan) : Bool := Region.noSelect ops && Nat.ble p.depth ops.size && planB ops p (Array.replicate ops.size false)

/-- A panic's end does not look at the temporaries. -/
def Calm (Q : Exit → Act → World → Prop) : Prop := ∀ c a d v w, Q (.panic c) (a.put d v) w → Q (.panic c) a w
theorem calm_then {K : Act → World → Prop} {Q : Exit → Act → World → Prop} (h : Calm Q) : Calm (Exit.then K Q) := fun c a d v w hq => h c a d v w hq
theorem calm_block {id : Nat} {Q : Exit → Act → World → Prop} (h : Calm Q) : Calm (Exit.inBlock id Q) := fun c a d v w hq => h c a d v w hq
theorem calm_body (P : Program) (fn : Func) (R : Ending → World → Prop) : Calm (bodyPost P fn R) := fun c a d v w hq => by
  cases d <;> exact hq
section
variable {P : Program} {Q : Exit → Act → World → Prop} {Hs : World → Prop} {n : Nat} {F : Fr} {w : World} {ops : Array Oper} {ty : TypeId} {pos : String} {af : Array Edge} {d : Tmp} {op : Op} {v : Value}
/-- What follows along a plan. -/
def planWp (P : Program) (ops : Array Oper) (Q : Exit → Act → World → Prop) (Hs : World → Prop) : Plan → Act → World → Prop
  | .nil, a, w => Q .normal a w
  | .take i p, a, w => Hs w ∧ ∃ o v, ops[i]? = some o ∧ YieldsIf P ops Hs o v a ∧ planWp P ops Q Hs p (a.put o.dst v) w
  | .one i p, a, w => wpOp P ops Q i (fun a' w' => Hs w' ∧ planWp P ops Q Hs p a' w') a w
  | .two i p j q, a, w => wpOp P ops Q i (fun a' w' => Hs w' ∧ planWp P ops Q Hs p a' w') a w ∧ wpOp P ops Q j (fun a' w' => Hs w' ∧ planWp P ops Q Hs q a' w') a w
  | .three i p j q k r, a, w => wpOp P ops Q i (fun a' w' => Hs w' ∧ planWp P ops Q Hs p a' w') a w ∧ wpOp P ops Q j (fun a' w' => Hs w' ∧ planWp P ops Q Hs q a' w') a w ∧ wpOp P ops Q k (fun a' w' => Hs w' ∧ planWp P ops Q Hs r a' w') a w

theorem plan_held (hs : Region.noSelect ops = true) (hQ : Calm Q) : ∀ (p : Plan) (l : Array Bool) (fuel : Nat) (a : Act) (w : World), p.depth ≤ fuel → planB ops p l = true → planWp P ops Q Hs p a w →
    wpAnyH P .any ops Q Hs fuel l a w
  | .nil, l, fuel, a, w, _, hB, h => wpAnyH_done (by simpa [planB] using hB) h fuel
  | .take i p, l, fuel, a, w, hd, hB, h => by
    obtain ⟨hS, o, v, ho, hy, hk⟩ := h
    simp only [planB, Bool.and_eq_true] at hB
    obtain ⟨⟨h1, h2⟩, h3⟩ := hB
    obtain ⟨f, rfl⟩ : ∃ f, fuel = f + 1 := ⟨fuel - 1, by simp only [Plan.depth] at hd; omega⟩
    exact wpAnyH_take ho hs h2 h1 (fun c a w => hQ c a o.dst v w) hy hS (plan_held hs hQ p _ f _ w (by simp only [Plan.depth] at hd; omega) h3 hk)
  | .one i p, l, fuel, a, w, hd, hB, h => by
    simp only [planB, Bool.and_eq_true, beq_iff_eq] at hB
    obtain ⟨h1, h3⟩ := hB
    obtain ⟨f, rfl⟩ : ∃ f, fuel = f + 1 := ⟨fuel - 1, by simp only [Plan.depth] at hd; omega⟩
    refine wpAnyH_all h1 (by simp) fun j hj => ?_
    obtain rfl : j = i := by simpa using hj
    exact wpOp_mono (fun a' w' hk => ⟨hk.1, plan_held hs hQ p _ f a' w' (by simp only [Plan.depth] at hd; omega) h3 hk.2⟩) h
  | .two i p j q, l, fuel, a, w, hd, hB, h => by
    simp only [planB, Bool.and_eq_true, beq_iff_eq] at hB
    obtain ⟨⟨h1, h3⟩, h4⟩ := hB
    obtain ⟨f, rfl⟩ : ∃ f, fuel = f + 1 := ⟨fuel - 1, by simp only [Plan.depth] at hd; omega⟩
    refine wpAnyH_all h1 (by simp) fun x hx => ?_
    rcases List.mem_cons.1 hx with rfl | hx
    · exact wpOp_mono (fun a' w' hk => ⟨hk.1, plan_held hs hQ p _ f a' w' (by simp only [Plan.depth] at hd; omega) h3 hk.2⟩) h.1
    · obtain rfl : x = j := by simpa using hx
      exact wpOp_mono (fun a' w' hk => ⟨hk.1, plan_held hs hQ q _ f a' w' (by simp only [Plan.depth] at hd; omega) h4 hk.2⟩) h.2
  | .three i p j q k r, l, fuel, a, w, hd, hB, h => by
    simp only [planB, Bool.and_eq_true, beq_iff_eq] at hB
    obtain ⟨⟨⟨h1, h3⟩, h4⟩, h5⟩ := hB
    obtain ⟨f, rfl⟩ : ∃ f, fuel = f + 1 := ⟨fuel - 1, by simp only [Plan.depth] at hd; omega⟩
    refine wpAnyH_all h1 (by simp) fun x hx => ?_
    rcases List.mem_cons.1 hx with rfl | hx
    · exact wpOp_mono (fun a' w' hk => ⟨hk.1, plan_held hs hQ p _ f a' w' (by simp only [Plan.depth] at hd; omega) h3 hk.2⟩) h.1
    · rcases List.mem_cons.1 hx with rfl | hx
      · exact wpOp_mono (fun a' w' hk => ⟨hk.1, plan_held hs hQ q _ f a' w' (by simp only [Plan.depth] at hd; omega) h4 hk.2⟩) h.2.1
      · obtain rfl : x = k := by simpa using hx
        exact wpOp_mono (fun a' w' hk => ⟨hk.1, plan_held hs hQ r _ f a' w' (by simp only [Plan.depth] at hd; omega) h5 hk.2⟩) h.2.2

def Sp (P : Program) (Q : Exit → Act → World → Prop) (Hs : World → Prop) (n : Nat) (ops : Array Oper) (p : Plan) (F : Fr) (w : World) : Prop := ∀ a, Knows n F a → planWp P ops Q Hs p a w

theorem sc_plan {id : Nat} (Hs : World → Prop) (p : Plan) (hm : P.follows .mixedOrders = true) (hB : planAllB ops p = true) (hQ : Calm Q)
    (h : Sp P Q Hs n ops p F { w with drawn := w.drawn + 1 }) : Sc P Q n (.region id ops true) F w := fun a ha => by
  simp only [planAllB, Bool.and_eq_true] at hB
  obtain ⟨⟨h1, h2⟩, h3⟩ := hB
  exact wp_region_held hm (plan_held h1 hQ p _ _ a _ (Nat.le_of_ble_eq_true h2) h3 (h a ha))
theorem sp_nil (h : Pn Q n F w) : Sp P Q Hs n ops .nil F w := h
theorem sp_take {i : Nat} {p : Plan} (ho : ops[i]? = some ⟨some d, op, ty, pos, af, none⟩) (hS : Hs w) (hv : ∀ w', Hs w' → OpV P F w' op ty v) (hd : Nat.blt d n = true) (k : Sp P Q Hs n ops p ((d, v) :: F) w) : Sp P Q Hs n ops (.take i p) F w :=
  fun a ha => ⟨hS, _, v, ho, .inl ⟨by simp [Region.wanted], fun w' hw' => hv w' hw' n a ha _ rfl rfl⟩, k _ (ha.put hd v)⟩
theorem sp_take_on {i j tj : Nat} {b : Bool} {p : Plan} (ho : ops[i]? = some ⟨some d, op, ty, pos, af, some (j, b)⟩) (hj : (ops[j]?).bind (·.dst) = some tj) (hb : lk F tj = some (.bool b)) (hS : Hs w) (hv : ∀ w', Hs w' → OpV P F w' op ty v) (hd : Nat.blt d n = true)
    (k : Sp P Q Hs n ops p ((d, v) :: F) w) : Sp P Q Hs n ops (.take i p) F w :=
  fun a ha => ⟨hS, _, v, ho, .inl ⟨by have hy := yielded_of ha hj hb; simp [Region.wanted, hy], fun w' hw' => hv w' hw' n a ha _ rfl rfl⟩, k _ (ha.put hd v)⟩
theorem sp_take_off {i j tj : Nat} {b c : Bool} {p : Plan} (ho : ops[i]? = some ⟨some d, op, ty, pos, af, some (j, c)⟩) (hj : (ops[j]?).bind (·.dst) = some tj) (hb : lk F tj = some (.bool b)) (hne : b = !c) (hS : Hs w) (hd : Nat.blt d n = true)
    (k : Sp P Q Hs n ops p ((d, undef) :: F) w) : Sp P Q Hs n ops (.take i p) F w :=
  fun a ha => ⟨hS, _, undef, ho, .inr ⟨by have hy := yielded_of ha hj hb; subst hne; simp only [Region.wanted, hy]; cases c <;> rfl, rfl⟩, k _ (ha.put hd undef)⟩
theorem sp_split {p : Plan} {j : Tmp} {b : Bool} (hb : lk F j = some (.bool b)) (ht : b = true → Sp P Q Hs n ops p ((j, .bool true) :: F) w) (hf : b = false → Sp P Q Hs n ops p ((j, .bool false) :: F) w) : Sp P Q Hs n ops p F w := by
  intro a ha
  have hk : ∀ c, b = c → Knows n ((j, .bool c) :: F) a := by
    rintro c rfl
    refine ⟨ha.size, ha.defers, fun i v hi => ?_⟩
    simp only [lk] at hi
    by_cases e : j = i
    · subst e; rw [Nat.beq_refl] at hi; obtain rfl := Option.some.inj hi; exact ha.get j _ hb
    · rw [beq_ne e] at hi; exact ha.get i v hi
  cases b
  · exact hf rfl a (hk _ rfl)
  · exact ht rfl a (hk _ rfl)
/-- An operation that is carried out. -/
theorem wpOp_of_list {i : Nat} {o : Oper} {K : Act → World → Prop} {a : Act} (ho : ops[i]? = some o) (h : wpList P ops (Exit.then K fun _ _ _ => False) [o] a w) : wpOp P ops Q i K a w := by
  unfold wpOp
  simp only [ho]
  unfold wpList at h
  split
  · rename_i hw
    rw [if_pos hw] at h
    rcases h with h | ⟨_, h⟩
    · refine .inl ?_
      unfold Oper.wp at *
      generalize (execOp a.eval o).run P w = r at *
      cases r with
      | ok m w' =>
        cases m <;> simp only [Oper.upon] at h ⊢
        case value u => exact h
        case skip => exact h
        case defer d => exact h
        case enter f args =>
          refine Calls.mono h fun e w'' he => ?_
          cases e with
          | returned u => exact he
          | panicked c => exact he.elim
          | outgrown =>
            obtain ⟨_, _, hf⟩ := he
            exact False.elim hf
        case row row args => exact h
      | halt x w' =>
        cases x <;> simp only [Oper.upon] at h ⊢
        case panic u => exact h.elim
    · obtain ⟨_, _, hf⟩ := h
      exact False.elim hf
  · rename_i hw
    rw [if_neg hw] at h
    exact h
theorem sp_one {i : Nat} {p : Plan} {o : Oper} (ho : ops[i]? = some o) (h : St P (Exit.then (fun a' w' => Hs w' ∧ planWp P ops Q Hs p a' w') fun _ _ _ => False) n ops [o] F w) : Sp P Q Hs n ops (.one i p) F w :=
  fun a ha => wpOp_of_list ho (h a ha)
theorem sp_two {i j : Nat} {p q : Plan} (h1 : Sp P Q Hs n ops (.one i p) F w) (h2 : Sp P Q Hs n ops (.one j q) F w) : Sp P Q Hs n ops (.two i p j q) F w := fun a ha => ⟨h1 a ha, h2 a ha⟩
theorem sp_three {i j k : Nat} {p q r : Plan} (h1 : Sp P Q Hs n ops (.one i p) F w) (h2 : Sp P Q Hs n ops (.one j q) F w) (h3 : Sp P Q Hs n ops (.one k r) F w) : Sp P Q Hs n ops (.three i p j q k r) F w := fun a ha => ⟨h1 a ha, h2 a ha, h3 a ha⟩
theorem sp_next {p : Plan} {R : Exit → Act → World → Prop} (hS : Hs w) (h : Sp P Q Hs n ops p F w) : Pn (Exit.then (fun a' w' => Hs w' ∧ planWp P ops Q Hs p a' w') R) n F w := fun a ha => ⟨hS, h a ha⟩
end
end Go.Proofs.YtcpbfnbfbladoaaDoor
