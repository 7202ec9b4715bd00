/-
  Values that are built; a joint between two parts of a walk.
-/
import Derived.Test.YtjdolgfhcjnniaaDoorHeld
namespace Go.Proofs.YtjdolgfhcjnniaaDoor
open Go Go.RowKit
section
variable {P : Program} {F : Fr} {w : World} {ty t : TypeId} {x y : Operand}
/-- An array written out. -/
theorem ov_buildA {len e s : Nat} {zs cells : List Value} {ps : List (Nat × Operand)} {vs : List (Nat × Value)} (hxs : evp F ps = some vs) (hu : P.underlying t = some (.array len e)) (hz : (P.info? t).bind (·.zero) = some (.agg zs.toArray))
    (hs : (P.info? e).map (·.size) = some s) (hf : Instr.fill (fun i => some (i * s, s)) zs.toArray vs = some cells.toArray) : OpV P F w (.build t ps.toArray) ty (.agg cells.toArray) := by
  intro n a ha o ho _
  have hvs := ha.evalp hxs
  cases hq : P.info? t with
  | none => simp [hq] at hz
  | some i =>
    cases hr : P.info? e with
    | none => simp [hr] at hs
    | some j =>
      have hz' : i.zero = some (.agg zs.toArray) := by simpa [hq] using hz
      have hs' : j.size = s := by simpa [hr] using hs
      simp only [execOp, ho, Instr.build, zeroValue, underlying, Sem.run_bind, run_program, hu, sizeOf, typeInfo, hq, hr, hz', Sem.run_pure, Result.andThen_ok, Value.cells]
      simp [hvs, hs', hf]
/-- A struct written out. -/
theorem ov_buildS {zs cells : List Value} {fs : Array Field} {pl : Array (Nat × Nat)} {ps : List (Nat × Operand)} {vs : List (Nat × Value)} (hxs : evp F ps = some vs) (hu : P.underlying t = some (.struct fs)) (hz : (P.info? t).bind (·.zero) = some (.agg zs.toArray))
    (hpl : ∀ w : World, (fs.mapM fun f => do pure (f.offset, ← sizeOf f.type) : Sem (Array (Nat × Nat))).run P w = .ok pl w) (hf : Instr.fill (pl[·]?) zs.toArray vs = some cells.toArray) : OpV P F w (.build t ps.toArray) ty (.agg cells.toArray) := by
  intro n a ha o ho _
  have hvs := ha.evalp hxs
  cases hq : P.info? t with
  | none => simp [hq] at hz
  | some i =>
    have hz' : i.zero = some (.agg zs.toArray) := by simpa [hq] using hz
    simp only [execOp, ho, Instr.build, zeroValue, underlying, Sem.run_bind, run_program, hu, typeInfo, hq, hz', Sem.run_pure, Result.andThen_ok, Value.cells, hpl]
    simp [hvs, hf]
end
section
variable {P : Program} {Q : Exit → Act → World → Prop} {n : Nat} {F : Fr} {w : World}

def Cut0 (n : Nat) (Fv : Fr) (Pw : World → Prop) : Act → World → Prop := fun a w => Knows n Fv a ∧ Pw w
theorem sc_cut0 {c : Code} (Fv : Fr) (Pw : World → Prop) (h1 : Sc P (Exit.then (Cut0 n Fv Pw) Q) n c F w) (h2 : ∀ w, Pw w → Pn Q n Fv w) : Sc P Q n c F w := fun a ha =>
  wp_mono (h1 a ha) fun e a' w' h => by
    cases e with
    | normal => obtain ⟨hk, hw⟩ := h; exact h2 w' hw a' hk
    | _ => exact h
theorem pn_cut0 {Fv : Fr} {Pw : World → Prop} (hs : Sub Fv F) (hw : Pw w) : Pn (Exit.then (Cut0 n Fv Pw) Q) n F w := fun _ ha => ⟨ha.sub hs, hw⟩
def Cut1 {α : Type} (n : Nat) (Fv : α → Fr) (Pw : α → World → Prop) : Act → World → Prop := fun a w => ∃ x' : α, Knows n (Fv x') a ∧ Pw x' w
theorem sc_cut1 {c : Code} {α : Type} (Fv : α → Fr) (Pw : α → World → Prop) (h1 : Sc P (Exit.then (Cut1 n Fv Pw) Q) n c F w) (h2 : ∀ a0 w, Pw a0 w → Pn Q n (Fv a0) w) : Sc P Q n c F w := fun a ha =>
  wp_mono (h1 a ha) fun e a' w' h => by
    cases e with
    | normal => obtain ⟨x', hk, hw⟩ := h; exact h2 x' w' hw a' hk
    | _ => exact h
theorem pn_cut1 {α : Type} {Fv : α → Fr} {Pw : α → World → Prop} (a0 : α) (hs : Sub (Fv a0) F) (hw : Pw a0 w) : Pn (Exit.then (Cut1 n Fv Pw) Q) n F w := fun _ ha => ⟨a0, ha.sub hs, hw⟩
def Cut2 {α β : Type} (n : Nat) (Fv : α → β → Fr) (Pw : α → β → World → Prop) : Act → World → Prop := fun a w => ∃ x' : α × β, Knows n (Fv x'.1 x'.2) a ∧ Pw x'.1 x'.2 w
theorem sc_cut2 {c : Code} {α β : Type} (Fv : α → β → Fr) (Pw : α → β → World → Prop) (h1 : Sc P (Exit.then (Cut2 n Fv Pw) Q) n c F w) (h2 : ∀ a0 a1 w, Pw a0 a1 w → Pn Q n (Fv a0 a1) w) : Sc P Q n c F w := fun a ha =>
  wp_mono (h1 a ha) fun e a' w' h => by
    cases e with
    | normal => obtain ⟨x', hk, hw⟩ := h; exact h2 x'.1 x'.2 w' hw a' hk
    | _ => exact h
theorem pn_cut2 {α β : Type} {Fv : α → β → Fr} {Pw : α → β → World → Prop} (a0 : α) (a1 : β) (hs : Sub (Fv a0 a1) F) (hw : Pw a0 a1 w) : Pn (Exit.then (Cut2 n Fv Pw) Q) n F w := fun _ ha => ⟨(a0, a1), ha.sub hs, hw⟩
def Cut3 {α β γ : Type} (n : Nat) (Fv : α → β → γ → Fr) (Pw : α → β → γ → World → Prop) : Act → World → Prop := fun a w => ∃ x' : α × β × γ, Knows n (Fv x'.1 x'.2.1 x'.2.2) a ∧ Pw x'.1 x'.2.1 x'.2.2 w
theorem sc_cut3 {c : Code} {α β γ : Type} (Fv : α → β → γ → Fr) (Pw : α → β → γ → World → Prop) (h1 : Sc P (Exit.then (Cut3 n Fv Pw) Q) n c F w) (h2 : ∀ a0 a1 a2 w, Pw a0 a1 a2 w → Pn Q n (Fv a0 a1 a2) w) : Sc P Q n c F w := fun a ha =>
  wp_mono (h1 a ha) fun e a' w' h => by
    cases e with
    | normal => obtain ⟨x', hk, hw⟩ := h; exact h2 x'.1 x'.2.1 x'.2.2 w' hw a' hk
    | _ => exact h
theorem pn_cut3 {α β γ : Type} {Fv : α → β → γ → Fr} {Pw : α → β → γ → World → Prop} (a0 : α) (a1 : β) (a2 : γ) (hs : Sub (Fv a0 a1 a2) F) (hw : Pw a0 a1 a2 w) : Pn (Exit.then (Cut3 n Fv Pw) Q) n F w := fun _ ha => ⟨(a0, a1, a2), ha.sub hs, hw⟩
def Cut4 {α β γ δ : Type} (n : Nat) (Fv : α → β → γ → δ → Fr) (Pw : α → β → γ → δ → World → Prop) : Act → World → Prop := fun a w => ∃ x' : α × β × γ × δ, Knows n (Fv x'.1 x'.2.1 x'.2.2.1 x'.2.2.2) a ∧ Pw x'.1 x'.2.1 x'.2.2.1 x'.2.2.2 w
theorem sc_cut4 {c : Code} {α β γ δ : Type} (Fv : α → β → γ → δ → Fr) (Pw : α → β → γ → δ → World → Prop) (h1 : Sc P (Exit.then (Cut4 n Fv Pw) Q) n c F w) (h2 : ∀ a0 a1 a2 a3 w, Pw a0 a1 a2 a3 w → Pn Q n (Fv a0 a1 a2 a3) w) : Sc P Q n c F w := fun a ha =>
  wp_mono (h1 a ha) fun e a' w' h => by
    cases e with
    | normal => obtain ⟨x', hk, hw⟩ := h; exact h2 x'.1 x'.2.1 x'.2.2.1 x'.2.2.2 w' hw a' hk
    | _ => exact h
theorem pn_cut4 {α β γ δ : Type} {Fv : α → β → γ → δ → Fr} {Pw : α → β → γ → δ → World → Prop} (a0 : α) (a1 : β) (a2 : γ) (a3 : δ) (hs : Sub (Fv a0 a1 a2 a3) F) (hw : Pw a0 a1 a2 a3 w) : Pn (Exit.then (Cut4 n Fv Pw) Q) n F w := fun _ ha => ⟨(a0, a1, a2, a3), ha.sub hs, hw⟩
def Cut5 {α β γ δ ε : Type} (n : Nat) (Fv : α → β → γ → δ → ε → Fr) (Pw : α → β → γ → δ → ε → World → Prop) : Act → World → Prop := fun a w => ∃ x' : α × β × γ × δ × ε, Knows n (Fv x'.1 x'.2.1 x'.2.2.1 x'.2.2.2.1 x'.2.2.2.2) a ∧ Pw x'.1 x'.2.1 x'.2.2.1 x'.2.2.2.1 x'.2.2.2.2 w
theorem sc_cut5 {c : Code} {α β γ δ ε : Type} (Fv : α → β → γ → δ → ε → Fr) (Pw : α → β → γ → δ → ε → World → Prop) (h1 : Sc P (Exit.then (Cut5 n Fv Pw) Q) n c F w) (h2 : ∀ a0 a1 a2 a3 a4 w, Pw a0 a1 a2 a3 a4 w → Pn Q n (Fv a0 a1 a2 a3 a4) w) : Sc P Q n c F w := fun a ha =>
  wp_mono (h1 a ha) fun e a' w' h => by
    cases e with
    | normal => obtain ⟨x', hk, hw⟩ := h; exact h2 x'.1 x'.2.1 x'.2.2.1 x'.2.2.2.1 x'.2.2.2.2 w' hw a' hk
    | _ => exact h
theorem pn_cut5 {α β γ δ ε : Type} {Fv : α → β → γ → δ → ε → Fr} {Pw : α → β → γ → δ → ε → World → Prop} (a0 : α) (a1 : β) (a2 : γ) (a3 : δ) (a4 : ε) (hs : Sub (Fv a0 a1 a2 a3 a4) F) (hw : Pw a0 a1 a2 a3 a4 w) : Pn (Exit.then (Cut5 n Fv Pw) Q) n F w := fun _ ha => ⟨(a0, a1, a2, a3, a4), ha.sub hs, hw⟩
def Cut6 {α β γ δ ε ζ : Type} (n : Nat) (Fv : α → β → γ → δ → ε → ζ → Fr) (Pw : α → β → γ → δ → ε → ζ → World → Prop) : Act → World → Prop := fun a w => ∃ x' : α × β × γ × δ × ε × ζ, Knows n (Fv x'.1 x'.2.1 x'.2.2.1 x'.2.2.2.1 x'.2.2.2.2.1 x'.2.2.2.2.2) a ∧ Pw x'.1 x'.2.1 x'.2.2.1 x'.2.2.2.1 x'.2.2.2.2.1 x'.2.2.2.2.2 w
theorem sc_cut6 {c : Code} {α β γ δ ε ζ : Type} (Fv : α → β → γ → δ → ε → ζ → Fr) (Pw : α → β → γ → δ → ε → ζ → World → Prop) (h1 : Sc P (Exit.then (Cut6 n Fv Pw) Q) n c F w) (h2 : ∀ a0 a1 a2 a3 a4 a5 w, Pw a0 a1 a2 a3 a4 a5 w → Pn Q n (Fv a0 a1 a2 a3 a4 a5) w) : Sc P Q n c F w := fun a ha =>
  wp_mono (h1 a ha) fun e a' w' h => by
    cases e with
    | normal => obtain ⟨x', hk, hw⟩ := h; exact h2 x'.1 x'.2.1 x'.2.2.1 x'.2.2.2.1 x'.2.2.2.2.1 x'.2.2.2.2.2 w' hw a' hk
    | _ => exact h
theorem pn_cut6 {α β γ δ ε ζ : Type} {Fv : α → β → γ → δ → ε → ζ → Fr} {Pw : α → β → γ → δ → ε → ζ → World → Prop} (a0 : α) (a1 : β) (a2 : γ) (a3 : δ) (a4 : ε) (a5 : ζ) (hs : Sub (Fv a0 a1 a2 a3 a4 a5) F) (hw : Pw a0 a1 a2 a3 a4 a5 w) : Pn (Exit.then (Cut6 n Fv Pw) Q) n F w := fun _ ha => ⟨(a0, a1, a2, a3, a4, a5), ha.sub hs, hw⟩
end
end Go.Proofs.YtjdolgfhcjnniaaDoor
