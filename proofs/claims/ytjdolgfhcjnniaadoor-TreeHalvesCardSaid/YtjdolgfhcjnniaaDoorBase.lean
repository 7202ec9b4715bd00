/-
  The step laws of this seat's walks: a frame that is known in part ('Knows'), what follows as a goal over it ('St', 'Sc'), and one law for each form of code. Nothing here speaks of a program's own functions.
-/
import Derived.Test.YtjdolgfhcjnniaaDoorRows
import Derived.WalkKit
import Derived.ProofKit
import Derived.StillTail
import Derived.OrdersHeld
namespace Go.Proofs.YtjdolgfhcjnniaaDoor
open Go

/-! ### 1. A frame, known in part -/
abbrev Fr := List (Nat × Value)

def lk : Fr → Nat → Option Value
  | [], _ => none
  | (j, v) :: t, i => match Nat.beq j i with | true => some v | false => lk t i

theorem beq_ne {i j : Nat} (h : i ≠ j) : Nat.beq i j = false := by
  cases hb : Nat.beq i j with
  | false => rfl
  | true => exact absurd (Nat.eq_of_beq_eq_true hb) h

structure Knows (n : Nat) (F : Fr) (a : Act) : Prop where
  size : a.tmps.size = n
  defers : a.defers = []
  get : ∀ i v, lk F i = some v → a.tmps.getD i undef = v

def evF (F : Fr) : Operand → Option Value
  | .tmp t => lk F t
  | .const v => some v
  | .global g => some (.pointer (some ⟨g, 0, none⟩))
  | .func f => some (.func (.func f) #[] #[])

theorem Knows.eval {n : Nat} {F : Fr} {a : Act} (h : Knows n F a) {x : Operand} {v : Value} (hx : evF F x = some v) : a.eval x = v := by
  cases x with
  | tmp t => exact h.get t v hx
  | const u => exact Option.some.inj hx
  | global g => exact Option.some.inj hx
  | func f => exact Option.some.inj hx

theorem Knows.put {n : Nat} {F : Fr} {a : Act} (h : Knows n F a) {d : Nat} (hd : Nat.blt d n = true) (v : Value) : Knows n ((d, v) :: F) (a.put (some d) v) := by
  have hd' : d < n := by simpa [Nat.blt_eq] using hd
  refine ⟨by simp [Act.put, h.size], by simp [Act.put, h.defers], fun i u hi => ?_⟩
  simp only [lk] at hi
  simp only [Act.put]
  by_cases hij : d = i
  · subst hij
    rw [Nat.beq_refl] at hi
    obtain rfl := Option.some.inj hi
    simp [h.size, hd']
  · rw [beq_ne hij] at hi
    have := h.get i u hi
    simp only [Array.getD_eq_getD_getElem?] at this ⊢
    rw [Array.getElem?_setIfInBounds_ne hij]
    exact this

theorem Knows.put_none {n : Nat} {F : Fr} {a : Act} (h : Knows n F a) (v : Value) : Knows n F (a.put none v) := h

/-- Less is known. -/
def Sub (F' F : Fr) : Prop := ∀ i v, lk F' i = some v → lk F i = some v
theorem Knows.sub {n : Nat} {F F' : Fr} {a : Act} (h : Knows n F a) (hs : Sub F' F) : Knows n F' a := ⟨h.size, h.defers, fun i v hi => h.get i v (hs i v hi)⟩
theorem Sub.nil (F : Fr) : Sub [] F := fun i v h => by cases h
theorem Sub.cons {F' F : Fr} {j : Nat} {v : Value} (h : lk F j = some v) (hs : Sub F' F) : Sub ((j, v) :: F') F := by
  intro i u hi
  simp only [lk] at hi
  by_cases hji : j = i
  · subst hji
    rw [Nat.beq_refl] at hi
    obtain rfl := Option.some.inj hi
    exact h
  · rw [beq_ne hji] at hi
    exact hs i u hi
theorem Sub.refl (F : Fr) : Sub F F := fun _ _ h => h

/-! ### 2. What is left to do, over what is known -/
section
variable (P : Program) (Q : Exit → Act → World → Prop) (n : Nat)
def Sc (c : Code) (F : Fr) (w : World) : Prop := ∀ a, Knows n F a → c.wp P Q a w
def St (ops : Array Oper) (os : List Oper) (F : Fr) (w : World) : Prop := ∀ a, Knows n F a → wpList P ops Q os a w
def Pn (F : Fr) (w : World) : Prop := ∀ a, Knows n F a → Q .normal a w
def Pe (id : Nat) (F : Fr) (w : World) : Prop := ∀ a, Knows n F a → Q (.exit id) a w
def Pg (l : Nat) (F : Fr) (w : World) : Prop := ∀ a, Knows n F a → Q (.goto l) a w
def Pr (F : Fr) (w : World) : Prop := ∀ a, Knows n F a → Q .ret a w
end

section
variable {P : Program} {Q Q' : Exit → Act → World → Prop} {n : Nat} {F : Fr} {w : World}
theorem sc_seq {x y : Code} (h : Sc P (Exit.then (y.wp P Q) Q) n x F w) : Sc P Q n (.seq x y) F w := fun a ha => wp_seq (h a ha)
theorem sc_skip (h : Pn Q n F w) : Sc P Q n .skip F w := fun a ha => wp_skip (h a ha)
theorem sc_label {l : Nat} (h : Pn Q n F w) : Sc P Q n (.label l) F w := fun a ha => wp_label (h a ha)
theorem sc_ret (h : Pr Q n F w) : Sc P Q n .ret F w := fun a ha => wp_ret (h a ha)
theorem sc_exit {id : Nat} (h : Pe Q n id F w) : Sc P Q n (.exit id) F w := fun a ha => wp_exit (h a ha)
theorem sc_block {id : Nat} {c : Code} (h : Sc P (Exit.inBlock id Q) n c F w) : Sc P Q n (.block id c) F w := fun a ha => wp_block (h a ha)
theorem sc_cond {c : Operand} {x y : Code} {b : Bool} (hc : evF F c = some (.bool b)) (ht : b = true → Sc P Q n x F w) (hf : b = false → Sc P Q n y F w) : Sc P Q n (.cond c x y) F w :=
  fun a ha => wp_cond_split (ha.eval hc) (fun h => ht h a ha) (fun h => hf h a ha)
theorem sc_true {c : Operand} {x y : Code} (hc : evF F c = some (.bool true)) (h : Sc P Q n x F w) : Sc P Q n (.cond c x y) F w := fun a ha => wp_cond_true (ha.eval hc) (h a ha)
theorem sc_false {c : Operand} {x y : Code} (hc : evF F c = some (.bool false)) (h : Sc P Q n y F w) : Sc P Q n (.cond c x y) F w := fun a ha => wp_cond_false (ha.eval hc) (h a ha)
theorem sc_sub {c : Code} {F' : Fr} (hs : Sub F' F) (h : Sc P Q n c F' w) : Sc P Q n c F w := fun a ha => h a (ha.sub hs)
theorem sc_region {id : Nat} {l : List Oper} (h : St P Q n l.toArray l F w) : Sc P Q n (.region id l.toArray false) F w := fun a ha => wp_region_lit (h a ha)

theorem pn_then {y : Code} (h : Sc P Q' n y F w) : Pn (Exit.then (y.wp P Q') Q) n F w := h
theorem pn_block {id : Nat} (h : Pn Q n F w) : Pn (Exit.inBlock id Q) n F w := h
theorem pe_then {id : Nat} {K : Act → World → Prop} (h : Pe Q n id F w) : Pe (Exit.then K Q) n id F w := h
theorem pe_hit {id : Nat} (h : Pn Q n F w) : Pe (Exit.inBlock id Q) n id F w := fun a ha => by simp only [Exit.inBlock, if_true]; exact h a ha
theorem pe_miss {id id' : Nat} (hne : Nat.beq id id' = false) (h : Pe Q n id F w) : Pe (Exit.inBlock id' Q) n id F w := fun a ha => by
  simp only [Exit.inBlock]
  rw [if_neg (by rintro rfl; simp at hne)]
  exact h a ha
theorem pr_then {K : Act → World → Prop} (h : Pr Q n F w) : Pr (Exit.then K Q) n F w := h
theorem pr_block {id : Nat} (h : Pr Q n F w) : Pr (Exit.inBlock id Q) n F w := h
theorem pn_sub {F' : Fr} (hs : Sub F' F) (h : Pn Q n F' w) : Pn Q n F w := fun a ha => h a (ha.sub hs)

/-- Into a function. -/
def fr0 : Nat → List Value → Fr
  | _, [] => []
  | k, v :: t => (k, v) :: fr0 (k + 1) t
theorem fr0_get : ∀ (vs : List Value) (k i : Nat) (v : Value), lk (fr0 k vs) i = some v → k ≤ i ∧ vs[i - k]? = some v
  | [], _, _, _, h => by simp [fr0, lk] at h
  | u :: t, k, i, v, h => by
    simp only [fr0, lk] at h
    by_cases e : k = i
    · subst e
      rw [Nat.beq_refl] at h
      simpa using h
    · rw [beq_ne e] at h
      obtain ⟨h1, h2⟩ := fr0_get t (k + 1) i v h
      refine ⟨by omega, ?_⟩
      rw [show i - k = (i - (k + 1)) + 1 by omega]
      simpa using h2
theorem calls_in {f : FuncId} {fn : Func} {c : Code} {args : List Value} {R : Ending → World → Prop} (hf : P.funcs[f]? = some fn) (hn : fn.ntmps = n) (hb : fn.body = some c)
    (hl : Nat.ble args.length n = true) (h : Sc P (bodyPost P fn R) n c (fr0 0 args) w) : Calls P f args.toArray w R := by
  subst hn
  have hn' : args.length ≤ fn.ntmps := Nat.le_of_ble_eq_true hl
  refine calls_of_wp hf hb (h _ ⟨by simp; omega, rfl, fun i v hi => ?_⟩)
  have h2 := (fr0_get args 0 i v hi).2
  have hi' : i < args.length := (List.getElem?_eq_some_iff.1 h2).1
  simp only [Array.getD_eq_getD_getElem?]
  rw [Array.getElem?_append_left (by simpa using hi')]
  simp at h2
  simp [h2]

theorem pr_one {fn : Func} {R : Ending → World → Prop} {t : Tmp} {v : Value} (hres : fn.results = #[.tmp t]) (hv : lk F t = some v) (h : R (.returned v) w) : Pr (bodyPost P fn R) n F w := by
  intro a ha
  refine ⟨ha.defers, v, ?_, h⟩
  rw [results_tmp hres, ha.get t v hv]
theorem pr_two {fn : Func} {R : Ending → World → Prop} {t u : Tmp} {v v' : Value} (hres : fn.results = #[.tmp t, .tmp u]) (hv : lk F t = some v) (hv' : lk F u = some v') (h : R (.returned (.tuple #[v, v'])) w) : Pr (bodyPost P fn R) n F w := by
  intro a ha
  refine ⟨ha.defers, _, ?_, h⟩
  rw [results_tmp2 hres, ha.get t v hv, ha.get u v' hv']
theorem pr_three {fn : Func} {R : Ending → World → Prop} {t u s : Tmp} {v v' v'' : Value} (hres : fn.results = #[.tmp t, .tmp u, .tmp s]) (hv : lk F t = some v) (hv' : lk F u = some v') (hv'' : lk F s = some v'') (h : R (.returned (.tuple #[v, v', v''])) w) : Pr (bodyPost P fn R) n F w := by
  intro a ha
  refine ⟨ha.defers, _, ?_, h⟩
  rw [results_tmp3 hres, ha.get t v hv, ha.get u v' hv', ha.get s v'' hv'']
theorem pr_none {fn : Func} {R : Ending → World → Prop} (hres : fn.results = #[]) (h : R (.returned (.tuple #[])) w) : Pr (bodyPost P fn R) n F w := by
  intro a ha
  exact ⟨ha.defers, _, results_none hres _ _ _, h⟩
/-- Off the end of a function. -/
theorem pn_end {fn : Func} {R : Ending → World → Prop} (h : Pr (bodyPost P fn R) n F w) : Pn (bodyPost P fn R) n F w := h

/-- A loop: what holds at each round's head is told by a ghost 'x'; each round lowers its measure. -/
theorem sc_loop {c : Code} {ι : Type} (x0 : ι) (Fv : ι → Fr) (Pw : ι → World → Prop) (μ : ι → Nat) (hs : Sub (Fv x0) F) (h0 : Pw x0 w)
    (round : ∀ x w, Pw x w → Sc P (Exit.then (fun a' w' => ∃ x', μ x' < μ x ∧ Knows n (Fv x') a' ∧ Pw x' w') Q) n c (Fv x) w) : Sc P Q n (.loop c) F w := by
  intro a ha b k cs
  have key : ∀ m x a w, μ x = m → Knows n (Fv x) a → Pw x w →
      ∃ e a' w', Q e a' w' ∧ Arrives P (lone (b.at a (.code c :: .inLoop c :: k)) cs w) b k cs e a' w' := by
    intro m
    induction m using Nat.strongRecOn with
    | _ m ih =>
      intro x a w hm ha hw
      obtain ⟨e, a₁, w₁, hq, harr⟩ := round x w hw a ha b (.inLoop c :: k) cs
      cases e with
      | normal =>
        obtain ⟨x', hlt, hk, hw'⟩ := hq
        obtain ⟨e₂, a₂, w₂, hq₂, harr₂⟩ := ih (μ x') (hm ▸ hlt) x' a₁ w₁ rfl hk hw'
        exact ⟨e₂, a₂, w₂, hq₂, .of_steps (Steps.trans harr (.one step_inLoop)) harr₂⟩
      | exit id => exact ⟨_, a₁, w₁, hq, .pass (x := .inLoop c) rfl (fun _ _ => .inl (by simp)) harr⟩
      | goto l => exact ⟨_, a₁, w₁, hq, .pass (x := .inLoop c) rfl (fun _ _ => .inl (by simp)) harr⟩
      | ret => exact ⟨_, a₁, w₁, hq, .pass (x := .inLoop c) rfl (fun _ _ => .inl (by simp)) harr⟩
      | panic ch => exact ⟨_, a₁, w₁, hq, .pass (x := .inLoop c) rfl (fun _ _ => .inl (by simp)) harr⟩
      | outgrown => exact ⟨_, a₁, w₁, hq, .pass (b := b) (k := k) (cs := cs) (e := .outgrown) (x := .inLoop c) rfl (fun _ _ => .inl (by simp)) harr⟩
  obtain ⟨e, a', w', hq, harr⟩ := key _ x0 a w rfl (ha.sub hs) h0
  exact ⟨e, a', w', hq, .of_steps (.one step_loop) harr⟩
/-- A round's end. -/
theorem pn_round {ι : Type} {Fv : ι → Fr} {Pw : ι → World → Prop} {μ : ι → Nat} {m : Nat} (x' : ι) (hs : Sub (Fv x') F) (hlt : μ x' < m) (hw : Pw x' w) :
    Pn (Exit.then (fun a' w' => ∃ x', μ x' < m ∧ Knows n (Fv x') a' ∧ Pw x' w') Q) n F w := fun _ ha => ⟨x', hlt, ha.sub hs, hw⟩
/-- A round's end: a ghost that is lower. -/
def Again1 {α : Type} (n : Nat) (Fv : α → Fr) (Pw : α → World → Prop) (μ : α → Nat) (m : Nat) : Act → World → Prop := fun a' w' => ∃ x' : α, μ x' < m ∧ Knows n (Fv x') a' ∧ Pw x' w'
theorem sc_loop1 {c : Code} {α : Type} (a0 : α) (Fv : α → Fr) (Pw : α → World → Prop) (μ : α → Nat) (hs : Sub (Fv a0) F) (h0 : Pw a0 w)
    (round : ∀ x0 w, Pw x0 w → Sc P (Exit.then (Again1 n Fv Pw μ (μ x0)) Q) n c (Fv x0) w) : Sc P Q n (.loop c) F w :=
  sc_loop (ι := α) (a0) (fun x => Fv x) (fun x => Pw x) (fun x => μ x) hs h0 fun x w hw => round x w hw
theorem pn_round1 {α : Type} {Fv : α → Fr} {Pw : α → World → Prop} {μ : α → Nat} {m : Nat} (a0 : α) (hs : Sub (Fv a0) F) (hlt : μ a0 < m) (hw : Pw a0 w) :
    Pn (Exit.then (Again1 n Fv Pw μ m) Q) n F w := fun _ ha => ⟨a0, hlt, ha.sub hs, hw⟩
/-- A round's end: a ghost that is lower. -/
def Again2 {α β : Type} (n : Nat) (Fv : α → β → Fr) (Pw : α → β → World → Prop) (μ : α → β → Nat) (m : Nat) : Act → World → Prop := fun a' w' => ∃ x' : α × β, μ x'.1 x'.2 < m ∧ Knows n (Fv x'.1 x'.2) a' ∧ Pw x'.1 x'.2 w'
theorem sc_loop2 {c : Code} {α β : Type} (a0 : α) (a1 : β) (Fv : α → β → Fr) (Pw : α → β → World → Prop) (μ : α → β → Nat) (hs : Sub (Fv a0 a1) F) (h0 : Pw a0 a1 w)
    (round : ∀ x0 x1 w, Pw x0 x1 w → Sc P (Exit.then (Again2 n Fv Pw μ (μ x0 x1)) Q) n c (Fv x0 x1) w) : Sc P Q n (.loop c) F w :=
  sc_loop (ι := α × β) (a0, a1) (fun x => Fv x.1 x.2) (fun x => Pw x.1 x.2) (fun x => μ x.1 x.2) hs h0 fun x w hw => round x.1 x.2 w hw
theorem pn_round2 {α β : Type} {Fv : α → β → Fr} {Pw : α → β → World → Prop} {μ : α → β → Nat} {m : Nat} (a0 : α) (a1 : β) (hs : Sub (Fv a0 a1) F) (hlt : μ a0 a1 < m) (hw : Pw a0 a1 w) :
    Pn (Exit.then (Again2 n Fv Pw μ m) Q) n F w := fun _ ha => ⟨(a0, a1), hlt, ha.sub hs, hw⟩
/-- A round's end: a ghost that is lower. -/
def Again3 {α β γ : Type} (n : Nat) (Fv : α → β → γ → Fr) (Pw : α → β → γ → World → Prop) (μ : α → β → γ → Nat) (m : Nat) : Act → World → Prop := fun a' w' => ∃ x' : α × β × γ, μ x'.1 x'.2.1 x'.2.2 < m ∧ Knows n (Fv x'.1 x'.2.1 x'.2.2) a' ∧ Pw x'.1 x'.2.1 x'.2.2 w'
theorem sc_loop3 {c : Code} {α β γ : Type} (a0 : α) (a1 : β) (a2 : γ) (Fv : α → β → γ → Fr) (Pw : α → β → γ → World → Prop) (μ : α → β → γ → Nat) (hs : Sub (Fv a0 a1 a2) F) (h0 : Pw a0 a1 a2 w)
    (round : ∀ x0 x1 x2 w, Pw x0 x1 x2 w → Sc P (Exit.then (Again3 n Fv Pw μ (μ x0 x1 x2)) Q) n c (Fv x0 x1 x2) w) : Sc P Q n (.loop c) F w :=
  sc_loop (ι := α × β × γ) (a0, a1, a2) (fun x => Fv x.1 x.2.1 x.2.2) (fun x => Pw x.1 x.2.1 x.2.2) (fun x => μ x.1 x.2.1 x.2.2) hs h0 fun x w hw => round x.1 x.2.1 x.2.2 w hw
theorem pn_round3 {α β γ : Type} {Fv : α → β → γ → Fr} {Pw : α → β → γ → World → Prop} {μ : α → β → γ → Nat} {m : Nat} (a0 : α) (a1 : β) (a2 : γ) (hs : Sub (Fv a0 a1 a2) F) (hlt : μ a0 a1 a2 < m) (hw : Pw a0 a1 a2 w) :
    Pn (Exit.then (Again3 n Fv Pw μ m) Q) n F w := fun _ ha => ⟨(a0, a1, a2), hlt, ha.sub hs, hw⟩
/-- A round's end: a ghost that is lower. -/
def Again4 {α β γ δ : Type} (n : Nat) (Fv : α → β → γ → δ → Fr) (Pw : α → β → γ → δ → World → Prop) (μ : α → β → γ → δ → Nat) (m : Nat) : Act → World → Prop := fun a' w' => ∃ x' : α × β × γ × δ, μ x'.1 x'.2.1 x'.2.2.1 x'.2.2.2 < m ∧ Knows n (Fv x'.1 x'.2.1 x'.2.2.1 x'.2.2.2) a' ∧ Pw x'.1 x'.2.1 x'.2.2.1 x'.2.2.2 w'
theorem sc_loop4 {c : Code} {α β γ δ : Type} (a0 : α) (a1 : β) (a2 : γ) (a3 : δ) (Fv : α → β → γ → δ → Fr) (Pw : α → β → γ → δ → World → Prop) (μ : α → β → γ → δ → Nat) (hs : Sub (Fv a0 a1 a2 a3) F) (h0 : Pw a0 a1 a2 a3 w)
    (round : ∀ x0 x1 x2 x3 w, Pw x0 x1 x2 x3 w → Sc P (Exit.then (Again4 n Fv Pw μ (μ x0 x1 x2 x3)) Q) n c (Fv x0 x1 x2 x3) w) : Sc P Q n (.loop c) F w :=
  sc_loop (ι := α × β × γ × δ) (a0, a1, a2, a3) (fun x => Fv x.1 x.2.1 x.2.2.1 x.2.2.2) (fun x => Pw x.1 x.2.1 x.2.2.1 x.2.2.2) (fun x => μ x.1 x.2.1 x.2.2.1 x.2.2.2) hs h0 fun x w hw => round x.1 x.2.1 x.2.2.1 x.2.2.2 w hw
theorem pn_round4 {α β γ δ : Type} {Fv : α → β → γ → δ → Fr} {Pw : α → β → γ → δ → World → Prop} {μ : α → β → γ → δ → Nat} {m : Nat} (a0 : α) (a1 : β) (a2 : γ) (a3 : δ) (hs : Sub (Fv a0 a1 a2 a3) F) (hlt : μ a0 a1 a2 a3 < m) (hw : Pw a0 a1 a2 a3 w) :
    Pn (Exit.then (Again4 n Fv Pw μ m) Q) n F w := fun _ ha => ⟨(a0, a1, a2, a3), hlt, ha.sub hs, hw⟩
/-- A round's end: a ghost that is lower. -/
def Again5 {α β γ δ ε : Type} (n : Nat) (Fv : α → β → γ → δ → ε → Fr) (Pw : α → β → γ → δ → ε → World → Prop) (μ : α → β → γ → δ → ε → Nat) (m : Nat) : Act → World → Prop := fun a' w' => ∃ x' : α × β × γ × δ × ε, μ x'.1 x'.2.1 x'.2.2.1 x'.2.2.2.1 x'.2.2.2.2 < m ∧ Knows n (Fv x'.1 x'.2.1 x'.2.2.1 x'.2.2.2.1 x'.2.2.2.2) a' ∧ Pw x'.1 x'.2.1 x'.2.2.1 x'.2.2.2.1 x'.2.2.2.2 w'
theorem sc_loop5 {c : Code} {α β γ δ ε : Type} (a0 : α) (a1 : β) (a2 : γ) (a3 : δ) (a4 : ε) (Fv : α → β → γ → δ → ε → Fr) (Pw : α → β → γ → δ → ε → World → Prop) (μ : α → β → γ → δ → ε → Nat) (hs : Sub (Fv a0 a1 a2 a3 a4) F) (h0 : Pw a0 a1 a2 a3 a4 w)
    (round : ∀ x0 x1 x2 x3 x4 w, Pw x0 x1 x2 x3 x4 w → Sc P (Exit.then (Again5 n Fv Pw μ (μ x0 x1 x2 x3 x4)) Q) n c (Fv x0 x1 x2 x3 x4) w) : Sc P Q n (.loop c) F w :=
  sc_loop (ι := α × β × γ × δ × ε) (a0, a1, a2, a3, a4) (fun x => Fv x.1 x.2.1 x.2.2.1 x.2.2.2.1 x.2.2.2.2) (fun x => Pw x.1 x.2.1 x.2.2.1 x.2.2.2.1 x.2.2.2.2) (fun x => μ x.1 x.2.1 x.2.2.1 x.2.2.2.1 x.2.2.2.2) hs h0 fun x w hw => round x.1 x.2.1 x.2.2.1 x.2.2.2.1 x.2.2.2.2 w hw
theorem pn_round5 {α β γ δ ε : Type} {Fv : α → β → γ → δ → ε → Fr} {Pw : α → β → γ → δ → ε → World → Prop} {μ : α → β → γ → δ → ε → Nat} {m : Nat} (a0 : α) (a1 : β) (a2 : γ) (a3 : δ) (a4 : ε) (hs : Sub (Fv a0 a1 a2 a3 a4) F) (hlt : μ a0 a1 a2 a3 a4 < m) (hw : Pw a0 a1 a2 a3 a4 w) :
    Pn (Exit.then (Again5 n Fv Pw μ m) Q) n F w := fun _ ha => ⟨(a0, a1, a2, a3, a4), hlt, ha.sub hs, hw⟩
/-- A round's end: a ghost that is lower. -/
def Again6 {α β γ δ ε ζ : Type} (n : Nat) (Fv : α → β → γ → δ → ε → ζ → Fr) (Pw : α → β → γ → δ → ε → ζ → World → Prop) (μ : α → β → γ → δ → ε → ζ → Nat) (m : Nat) : Act → World → Prop := fun a' w' => ∃ x' : α × β × γ × δ × ε × ζ, μ x'.1 x'.2.1 x'.2.2.1 x'.2.2.2.1 x'.2.2.2.2.1 x'.2.2.2.2.2 < m ∧ Knows n (Fv x'.1 x'.2.1 x'.2.2.1 x'.2.2.2.1 x'.2.2.2.2.1 x'.2.2.2.2.2) a' ∧ Pw x'.1 x'.2.1 x'.2.2.1 x'.2.2.2.1 x'.2.2.2.2.1 x'.2.2.2.2.2 w'
theorem sc_loop6 {c : Code} {α β γ δ ε ζ : Type} (a0 : α) (a1 : β) (a2 : γ) (a3 : δ) (a4 : ε) (a5 : ζ) (Fv : α → β → γ → δ → ε → ζ → Fr) (Pw : α → β → γ → δ → ε → ζ → World → Prop) (μ : α → β → γ → δ → ε → ζ → Nat) (hs : Sub (Fv a0 a1 a2 a3 a4 a5) F) (h0 : Pw a0 a1 a2 a3 a4 a5 w)
    (round : ∀ x0 x1 x2 x3 x4 x5 w, Pw x0 x1 x2 x3 x4 x5 w → Sc P (Exit.then (Again6 n Fv Pw μ (μ x0 x1 x2 x3 x4 x5)) Q) n c (Fv x0 x1 x2 x3 x4 x5) w) : Sc P Q n (.loop c) F w :=
  sc_loop (ι := α × β × γ × δ × ε × ζ) (a0, a1, a2, a3, a4, a5) (fun x => Fv x.1 x.2.1 x.2.2.1 x.2.2.2.1 x.2.2.2.2.1 x.2.2.2.2.2) (fun x => Pw x.1 x.2.1 x.2.2.1 x.2.2.2.1 x.2.2.2.2.1 x.2.2.2.2.2) (fun x => μ x.1 x.2.1 x.2.2.1 x.2.2.2.1 x.2.2.2.2.1 x.2.2.2.2.2) hs h0 fun x w hw => round x.1 x.2.1 x.2.2.1 x.2.2.2.1 x.2.2.2.2.1 x.2.2.2.2.2 w hw
theorem pn_round6 {α β γ δ ε ζ : Type} {Fv : α → β → γ → δ → ε → ζ → Fr} {Pw : α → β → γ → δ → ε → ζ → World → Prop} {μ : α → β → γ → δ → ε → ζ → Nat} {m : Nat} (a0 : α) (a1 : β) (a2 : γ) (a3 : δ) (a4 : ε) (a5 : ζ) (hs : Sub (Fv a0 a1 a2 a3 a4 a5) F) (hlt : μ a0 a1 a2 a3 a4 a5 < m) (hw : Pw a0 a1 a2 a3 a4 a5 w) :
    Pn (Exit.then (Again6 n Fv Pw μ m) Q) n F w := fun _ ha => ⟨(a0, a1, a2, a3, a4, a5), hlt, ha.sub hs, hw⟩
end
end Go.Proofs.YtjdolgfhcjnniaaDoor
