/-
  The heap of this seat's walks: what one knows of memory while a function runs ('Hp'): which blocks it owns and what stands in them, and that nothing else has turned.
-/
import Derived.Test.YtjdolgfhcjnniaaDoorBase
namespace Go.Proofs.YtjdolgfhcjnniaaDoor
open Go Go.RowKit

/-! ### 1. Cells that read as a list -/
def Cells (w : World) (b off : Nat) (cs : List Value) : Prop := ∀ j v, cs[j]? = some v → w.cell? ⟨b, off + j, none⟩ = some v

section
variable {w w' : World} {b off : Nat} {cs ds : List Value} {v : Value}
theorem Cells.nil (w : World) (b off : Nat) : Cells w b off [] := fun j v h => by simp at h
theorem Cells.at (h : Cells w b off cs) {o : Nat} (j : Nat) (ho : o = off + j) (hv : cs[j]? = some v) : w.cell? ⟨b, o, none⟩ = some v := by subst ho; exact h j v hv
theorem Cells.head (h : Cells w b off (v :: cs)) : w.cell? ⟨b, off, none⟩ = some v := h 0 v rfl
theorem Cells.left (h : Cells w b off (cs ++ ds)) : Cells w b off cs := fun j v hj => h j v (by rw [List.getElem?_append_left (List.getElem?_eq_some_iff.1 hj).1]; exact hj)
theorem Cells.right (h : Cells w b off (cs ++ ds)) : Cells w b (off + cs.length) ds := fun j v hj => by
  have := h (cs.length + j) v (by rw [List.getElem?_append_right (by omega)]; simpa using hj)
  rwa [← Nat.add_assoc] at this
theorem Cells.append (h : Cells w b off cs) (k : Cells w b (off + cs.length) ds) : Cells w b off (cs ++ ds) := fun j v hj => by
  rcases Nat.lt_or_ge j cs.length with hl | hl
  · rw [List.getElem?_append_left hl] at hj; exact h j v hj
  · rw [List.getElem?_append_right hl] at hj
    have := k (j - cs.length) v hj
    rwa [Nat.add_assoc, Nat.add_sub_cancel' hl] at this
theorem Cells.drop (h : Cells w b off cs) (k : Nat) : Cells w b (off + k) (cs.drop k) := fun j v hj => by
  rw [List.getElem?_drop] at hj
  rw [Nat.add_assoc]; exact h (k + j) v hj
theorem Cells.take (h : Cells w b off cs) (k : Nat) : Cells w b off (cs.take k) := fun j v hj => by
  rw [List.getElem?_take] at hj
  split at hj
  · exact h j v hj
  · cases hj
theorem Cells.moved (h : Cells w b off cs) (hb : w'.heap[b]? = w.heap[b]?) : Cells w' b off cs := fun j v hj => (World.cell?_of_block (w := w) (a := ⟨b, off + j, none⟩) hb).trans (h j v hj)
theorem Cells.toOff {o : Nat} (h : Cells w b off cs) (ho : o = off) : Cells w b o cs := ho ▸ h
/-- An element of a row that reads as 'xs.map f'. -/
theorem Cells.elem {α : Type} {f : α → Value} {xs : List α} (h : Cells w b off (xs.map f)) {o : Nat} (j : Nat) (ho : o = off + j) (hj : j < xs.length) (z : α) : w.cell? ⟨b, o, none⟩ = some (f (xs.getD j z)) := by
  refine h.at j ho ?_
  rw [List.getElem?_map, List.getElem?_eq_getElem hj]
  simp [hj]
theorem Cells.lt (h : Cells w b off cs) (hne : cs ≠ []) : b < w.heap.size := by
  cases cs with
  | nil => exact absurd rfl hne
  | cons v t => exact block_lt_of_cell (h 0 v rfl)
end

/-! ### 2. What has turned since the call began -/
/-- Of the blocks that were there none has turned but those of S. -/
structure Chg (S : List Nat) (w w' : World) : Prop where
  os : w'.os = w.os
  tape : w'.tape = w.tape
  output : w'.output = w.output
  size : w.heap.size ≤ w'.heap.size
  block : ∀ k, k < w.heap.size → k ∉ S → w'.heap[k]? = w.heap[k]?

section
variable {S T : List Nat} {w w' w'' : World}
theorem Chg.refl (S : List Nat) (w : World) : Chg S w w := ⟨rfl, rfl, rfl, Nat.le_refl _, fun _ _ _ => rfl⟩
theorem Chg.trans (h : Chg S w w') (k : Chg T w' w'') (hT : ∀ b ∈ T, w.heap.size ≤ b ∨ b ∈ S) : Chg S w w'' :=
  ⟨k.os.trans h.os, k.tape.trans h.tape, k.output.trans h.output, Nat.le_trans h.size k.size, fun i hi hS => by
    rw [k.block i (Nat.lt_of_lt_of_le hi h.size) (fun hiT => by rcases hT i hiT with h' | h'; omega; exact hS h')]
    exact h.block i hi hS⟩
theorem Chg.mono (h : Chg S w w') (hS : ∀ b ∈ S, b ∈ T) : Chg T w w' := ⟨h.os, h.tape, h.output, h.size, fun i hi hT => h.block i hi (fun hi' => hT (hS i hi'))⟩
theorem Chg.cells (h : Chg S w w') {b off : Nat} {cs : List Value} (hc : Cells w b off cs) (hb : b ∉ S) : Cells w' b off cs := by
  cases cs with
  | nil => exact Cells.nil _ _ _
  | cons v t => exact hc.moved (h.block b (hc.lt (by simp)) hb)
theorem Chg.below (h : Chg [] w w') : w.keptBut w' (fun _ => False) := by
  refine ⟨h.os, h.output, fun i hi => ?_⟩
  rw [h.block i hi (by simp)]
  split <;> simp_all
theorem Chg.below' (h : Chg [] w w') : Below w.heap.size w w' := ⟨h.os, h.tape, h.output, h.size, fun k hk => h.block k hk (by simp)⟩
theorem Chg.of_below (h : Below w.heap.size w w') : Chg [] w w' := ⟨h.os, h.tape, h.output, h.size, fun k hk _ => h.block k hk⟩
end

/-! ### 3. The blocks that a function owns -/
/-- A block and what stands in it (or no block, and nothing). -/
structure Ck where
  b : Option Nat
  cs : List Value
  E : TypeId

/-- A block whole, not frozen. -/
def Blk (w : World) (c : Ck) : Prop := match c.b with | some b => w.heap[b]? = some (.cells c.cs.toArray c.E (0, 0)) | none => c.cs = []

abbrev Lk := List (Nat × Ck)
def lc : Lk → Nat → Option Ck
  | [], _ => none
  | (j, v) :: t, i => match Nat.beq j i with | true => some v | false => lc t i

/-- The world w: since w0 nothing has turned but the blocks of S and what is new; the blocks of L (by tags) and of X (a list) are our own. -/
structure Hp (w0 : World) (S : List Nat) (L : Lk) (X : List Ck) (w : World) : Prop where
  chg : Chg S w0 w
  own : ∀ t c, lc L t = some c → Blk w c
  mine : ∀ t c b, lc L t = some c → c.b = some b → w0.heap.size ≤ b ∨ b ∈ S
  apart : ∀ t t' c c' b, lc L t = some c → lc L t' = some c' → t ≠ t' → c.b = some b → c'.b ≠ some b
  ownX : ∀ c ∈ X, Blk w c
  mineX : ∀ c ∈ X, ∀ b, c.b = some b → w0.heap.size ≤ b ∨ b ∈ S
  apartX : (X.filterMap Ck.b).Nodup
  apartLX : ∀ t c b, lc L t = some c → c.b = some b → b ∉ X.filterMap Ck.b

theorem Blk.heap {w : World} {c : Ck} (h : Blk w c) {b : Nat} (hb : c.b = some b) : w.heap[b]? = some (.cells c.cs.toArray c.E (0, 0)) := by
  unfold Blk at h; rw [hb] at h; exact h
theorem Blk.none_ {w : World} {c : Ck} (h : Blk w c) (hb : c.b = none) : c.cs = [] := by
  unfold Blk at h; rw [hb] at h; exact h
theorem Blk.lt {w : World} {c : Ck} (h : Blk w c) {b : Nat} (hb : c.b = some b) : b < w.heap.size := (Array.getElem?_eq_some_iff.1 (h.heap hb)).1
theorem Blk.cells {w : World} {b : Nat} {cs : List Value} {E : TypeId} (h : Blk w ⟨some b, cs, E⟩) : Cells w b 0 cs := fun j v hj => by
  rw [cell_of_row w b (0 + j) cs.toArray E (0, 0) h]
  simpa using hj
theorem Blk.moved {w w' : World} {c : Ck} (h : Blk w c) (hb : ∀ b, c.b = some b → w'.heap[b]? = w.heap[b]?) : Blk w' c := by
  unfold Blk at h ⊢
  cases e : c.b with
  | none => rw [e] at h; exact h
  | some b => rw [e] at h; exact (hb b e).trans h
theorem Blk.frozen {w : World} {b : Nat} {cs : List Value} {E : TypeId} (h : Blk w ⟨some b, cs, E⟩) (j : Nat) : w.frozen? ⟨b, j, none⟩ = false := frozen_of_row w b j cs.toArray E h
theorem Blk.nil (w : World) (E : TypeId) : Blk w ⟨none, [], E⟩ := rfl

section
variable {w0 w w' : World} {S T : List Nat} {L L' : Lk} {X X' : List Ck}
theorem lc_cons (L : Lk) (t i : Nat) (c : Ck) : lc ((t, c) :: L) i = if t = i then some c else lc L i := by
  simp only [lc]
  by_cases h : t = i
  · subst h; rw [Nat.beq_refl]; simp
  · rw [beq_ne h]; simp [h]

theorem Hp.start (w : World) : Hp w [] [] [] w :=
  ⟨Chg.refl _ _, fun _ _ h => (by cases h), fun _ _ _ h => (by cases h), fun _ _ _ _ _ h => (by cases h), fun _ h => (by cases h), fun _ h => (by cases h), List.nodup_nil, fun _ _ _ h => (by cases h)⟩

/-- Less is told. -/
theorem Hp.sub (h : Hp w0 S L X w) (hs : ∀ t c, lc L' t = some c → lc L t = some c) : Hp w0 S L' X w :=
  ⟨h.chg, fun t c hc => h.own t c (hs t c hc), fun t c b hc => h.mine t c b (hs t c hc), fun t t' c c' b hc hc' => h.apart t t' c c' b (hs t c hc) (hs t' c' hc'), h.ownX, h.mineX, h.apartX, fun t c b hc => h.apartLX t c b (hs t c hc)⟩
theorem lsub_nil (L : Lk) : ∀ t c, lc [] t = some c → lc L t = some c := fun _ _ h => by cases h
theorem lsub_cons {L L' : Lk} {j : Nat} {v : Ck} (h : lc L j = some v) (hs : ∀ t c, lc L' t = some c → lc L t = some c) : ∀ t c, lc ((j, v) :: L') t = some c → lc L t = some c := by
  intro i u hi
  rw [lc_cons] at hi
  split at hi
  · rename_i e; subst e; obtain rfl := Option.some.inj hi; exact h
  · exact hs i u hi

theorem Hp.cells' (h : Hp w0 S L X w) {t b : Nat} {cs : List Value} {E : TypeId} (hc : lc L t = some ⟨some b, cs, E⟩) : Cells w b 0 cs := (h.own t _ hc).cells
theorem Hp.old (h : Hp w0 S L X w) {b off : Nat} {cs : List Value} (hc : Cells w0 b off cs) (hb : b ∉ S) : Cells w b off cs := h.chg.cells hc hb

/-- The general step: the world has turned at no block of ours but at tag t's, where c stands now. -/
theorem Hp.step (h : Hp w0 S L X w) (t : Nat) {c : Ck} {T : List Nat} (hc : Chg T w w') (hT : ∀ b ∈ T, ∃ c, lc L t = some c ∧ c.b = some b) (hB : Blk w' c)
    (hn : ∀ b, c.b = some b → w.heap.size ≤ b ∨ ∃ c, lc L t = some c ∧ c.b = some b) : Hp w0 S ((t, c) :: L) X w' := by
  have hTm : ∀ b ∈ T, w0.heap.size ≤ b ∨ b ∈ S := fun b hb => by
    obtain ⟨d, hd, he⟩ := hT b hb
    exact h.mine t d b hd he
  have hkeep : ∀ i d, lc L i = some d → i ≠ t → Blk w' d := fun i d hi hne => (h.own i d hi).moved fun b hb => hc.block b ((h.own i d hi).lt hb) fun hbT => by
    obtain ⟨d', hd', he'⟩ := hT b hbT
    exact h.apart i t d d' b hi hd' hne hb he'
  have hnew : ∀ b, c.b = some b → (∀ i d, lc L i = some d → i ≠ t → d.b ≠ some b) ∧ b ∉ X.filterMap Ck.b ∧ (w0.heap.size ≤ b ∨ b ∈ S) := fun b hb => by
    rcases hn b hb with hge | ⟨d, hd, he⟩
    · refine ⟨fun i d hi _ hdb => ?_, fun hm => ?_, .inl (Nat.le_trans h.chg.size hge)⟩
      · have := (h.own i d hi).lt hdb
        omega
      · obtain ⟨e, he, heb⟩ := List.mem_filterMap.1 hm
        have := (h.ownX e he).lt heb
        omega
    · exact ⟨fun i d' hi hne hdb => h.apart i t d' d b hi hd hne hdb he, h.apartLX t d b hd he, h.mine t d b hd he⟩
  refine ⟨h.chg.trans hc hTm, fun i d hi => ?_, fun i d b hi hb => ?_, fun i i' d d' b hi hi' hne hb => ?_, fun d hd => (h.ownX d hd).moved fun b hb => hc.block b ((h.ownX d hd).lt hb) fun hbT => ?_, h.mineX, h.apartX, fun i d b hi hb => ?_⟩
  · rw [lc_cons] at hi; split at hi
    · obtain rfl := Option.some.inj hi; exact hB
    · rename_i hne; exact hkeep i d hi (Ne.symm hne)
  · rw [lc_cons] at hi; split at hi
    · obtain rfl := Option.some.inj hi; exact (hnew b hb).2.2
    · exact h.mine i d b hi hb
  · rw [lc_cons] at hi hi'
    split at hi <;> split at hi'
    · omega
    · obtain rfl := Option.some.inj hi
      rename_i hne'
      exact (hnew b hb).1 i' d' hi' (Ne.symm hne')
    · obtain rfl := Option.some.inj hi'
      rename_i hne' _
      exact fun e => (hnew b e).1 i d hi (Ne.symm hne') hb
    · exact h.apart i i' d d' b hi hi' hne hb
  · obtain ⟨d', hd', he'⟩ := hT b hbT
    exact h.apartLX t d' b hd' he' (List.mem_filterMap.2 ⟨d, hd, hb⟩)
  · rw [lc_cons] at hi; split at hi
    · obtain rfl := Option.some.inj hi; exact (hnew b hb).2.1
    · exact h.apartLX i d b hi hb

/-- A new block. -/
theorem Hp.new (h : Hp w0 S L X w) (t : Nat) (cs : List Value) (E : TypeId) (hw : w'.heap = w.heap.push (.cells cs.toArray E)) (hos : w'.os = w.os) (htape : w'.tape = w.tape) (hout : w'.output = w.output) :
    Hp w0 S ((t, ⟨some w.heap.size, cs, E⟩) :: L) X w' := by
  refine h.step t (T := []) ⟨hos, htape, hout, by rw [hw]; simp, fun k hk _ => by rw [hw, Array.getElem?_push, if_neg (by omega)]⟩ (by simp) ?_ fun b hb => ?_
  · show w'.heap[w.heap.size]? = _
    rw [hw]; simp
  · obtain rfl := Option.some.inj hb; exact .inl (Nat.le_refl _)
/-- A block of ours is written. -/
theorem Hp.write (h : Hp w0 S L X w) {t b : Nat} {cs : List Value} {E : TypeId} (hc : lc L t = some ⟨some b, cs, E⟩) (cs' : List Value) : Hp w0 S ((t, ⟨some b, cs', E⟩) :: L) X (w.setRow b cs'.toArray) := by
  have hb := (h.own t _ hc).heap rfl
  refine h.step t (T := [b]) ⟨rfl, rfl, rfl, by simp, fun k _ hk => setRow_other w b k _ (by simpa using hk)⟩ (fun x hx => ⟨_, hc, by simpa using (List.mem_singleton.1 hx).symm⟩) (setRow_heap w b _ _ E _ hb) fun x hx => .inr ⟨_, hc, hx⟩
/-- Behind a call (or whatever else) that turns none of our blocks. -/
theorem Hp.call (h : Hp w0 S L X w) (hc : Chg [] w w') : Hp w0 S L X w' :=
  ⟨h.chg.trans hc (by simp), fun t c ht => (h.own t c ht).moved fun b hb => hc.block _ ((h.own t c ht).lt hb) (by simp), h.mine, h.apart, fun c hX => (h.ownX c hX).moved fun b hb => hc.block _ ((h.ownX c hX).lt hb) (by simp), h.mineX, h.apartX, h.apartLX⟩
theorem Hp.drew (h : Hp w0 S L X w) : Hp w0 S L X { w with drawn := w.drawn + 1 } := h.call ⟨rfl, rfl, rfl, Nat.le_refl _, fun _ _ _ => rfl⟩
/-- Fresh: no block, or one that was not there in w. -/
def Fresh (w : World) (c : Ck) : Prop := ∀ b, c.b = some b → w.heap.size ≤ b
/-- .. and hands back a block that is new. -/
theorem Hp.call_new (h : Hp w0 S L X w) (hc : Chg [] w w') (t : Nat) {c : Ck} (hb : Fresh w c) (hB : Blk w' c) : Hp w0 S ((t, c) :: L) X w' :=
  h.step t hc (by simp) hB fun b hcb => .inl (hb b hcb)
/-- A further new block that a call handed back. -/
theorem Hp.more (h : Hp w0 S L X w') (t : Nat) {c : Ck} (hB : Blk w' c) (hm : ∀ b, c.b = some b → w0.heap.size ≤ b) (hap : ∀ b, c.b = some b → ∀ i d, lc L i = some d → i ≠ t → d.b ≠ some b) (hX : ∀ b, c.b = some b → b ∉ X.filterMap Ck.b) : Hp w0 S ((t, c) :: L) X w' := by
  refine ⟨h.chg, fun i d hi => ?_, fun i d b hi hb => ?_, fun i i' d d' b hi hi' hne hb => ?_, h.ownX, h.mineX, h.apartX, fun i d b hi hb => ?_⟩
  · rw [lc_cons] at hi; split at hi
    · obtain rfl := Option.some.inj hi; exact hB
    · exact h.own i d hi
  · rw [lc_cons] at hi; split at hi
    · obtain rfl := Option.some.inj hi; exact .inl (hm b hb)
    · exact h.mine i d b hi hb
  · rw [lc_cons] at hi hi'
    split at hi <;> split at hi'
    · omega
    · obtain rfl := Option.some.inj hi
      rename_i hne'
      exact hap b hb i' d' hi' (Ne.symm hne')
    · obtain rfl := Option.some.inj hi'
      rename_i hne' _
      exact fun e => hap b e i d hi (Ne.symm hne') hb
    · exact h.apart i i' d d' b hi hi' hne hb
  · rw [lc_cons] at hi; split at hi
    · obtain rfl := Option.some.inj hi; exact hX b hb
    · exact h.apartLX i d b hi hb
/-- A callee begins with one block of its caller's. -/
theorem Hp.start1 {c : Ck} (h : Blk w c) : Hp w c.b.toList [(0, c)] [] w := by
  refine ⟨Chg.refl _ _, fun t d hd => ?_, fun t d b hd hb => ?_, fun t t' d d' b hd hd' hne => ?_, fun _ h => (by cases h), fun _ h => (by cases h), List.nodup_nil, fun _ _ _ _ _ h => by simp at h⟩
  · rw [lc_cons] at hd; split at hd
    · obtain rfl := Option.some.inj hd; exact h
    · cases hd
  · rw [lc_cons] at hd; split at hd
    · obtain rfl := Option.some.inj hd; exact .inr (by rw [hb]; simp)
    · cases hd
  · rw [lc_cons] at hd hd'; split at hd <;> split at hd'
    · omega
    all_goals first | (cases hd'; done) | (cases hd; done)
/-- .. and has turned one block of ours, or has another in its place. -/
theorem Hp.call_upd (h : Hp w0 S L X w) {t : Nat} {c c' : Ck} (ht : lc L t = some c) (hc : Chg c.b.toList w w') (hB : Blk w' c') (hn : ∀ b, c'.b = some b → w.heap.size ≤ b ∨ c.b = some b) : Hp w0 S ((t, c') :: L) X w' :=
  h.step t hc (fun b hb => ⟨c, ht, by simpa using hb⟩) hB fun b hb => (hn b hb).imp id fun e => ⟨c, ht, e⟩
end

/-! ### 4. What a slice value reads as -/
/-- A slice of address ao reads the cells cs. -/
def Rd (w : World) (ao : Option Addr) (cs : List Value) : Prop := cs = [] ∨ ∃ b off, ao = some ⟨b, off, none⟩ ∧ Cells w b off cs
section
variable {w w' : World} {ao : Option Addr} {cs : List Value}
theorem Rd.nil (w : World) (ao : Option Addr) : Rd w ao [] := .inl rfl
theorem Rd.of {b off : Nat} (h : Cells w b off cs) : Rd w (some ⟨b, off, none⟩) cs := .inr ⟨b, off, rfl, h⟩
theorem Rd.pos (h : Rd w ao cs) (hne : 0 < cs.length) : ∃ b off, ao = some ⟨b, off, none⟩ ∧ Cells w b off cs := by
  rcases h with rfl | h
  · simp at hne
  · exact h
theorem Rd.chg (h : Rd w ao cs) (hc : Chg [] w w') : Rd w' ao cs := h.imp id fun ⟨b, off, e, k⟩ => ⟨b, off, e, hc.cells k (by simp)⟩
theorem Rd.drew (h : Rd w ao cs) : Rd { w with drawn := w.drawn + 1 } ao cs := h.chg ⟨rfl, rfl, rfl, Nat.le_refl _, fun _ _ _ => rfl⟩
/-- The address of a slice that begins at a block's head. -/
def adr (ob : Option Nat) : Option Addr := ob.map fun b => ⟨b, 0, none⟩
theorem Rd.own {ob : Option Nat} {xs sp : List Value} {E : TypeId} (h : Blk w ⟨ob, xs ++ sp, E⟩) : Rd w (adr ob) xs := by
  cases ob with
  | none => left; have := h.none_ rfl; simp at this; exact this.1
  | some b => exact .inr ⟨b, 0, rfl, h.cells.left⟩
theorem Rd.take (h : Rd w ao cs) (k : Nat) : Rd w ao (cs.take k) := by
  rcases h with rfl | ⟨b, off, e, h⟩
  · left; simp
  · exact .inr ⟨b, off, e, h.take k⟩
end
end Go.Proofs.YtjdolgfhcjnniaaDoor
