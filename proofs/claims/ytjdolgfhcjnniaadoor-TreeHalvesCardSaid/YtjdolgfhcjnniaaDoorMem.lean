/-
  Slices made, appended to, copied into; a row written out.
-/
import Derived.Test.YtjdolgfhcjnniaaDoorOps
namespace Go.Proofs.YtjdolgfhcjnniaaDoor
open Go Go.RowKit

section
variable {P : Program} {Q : Exit → Act → World → Prop} {n : Nat} {F : Fr} {w w0 : World} {ops : Array Oper} {rest : List Oper} {ty : TypeId} {pos : String} {af : Array Edge} {d : Tmp}
variable {S : List Nat} {L : Lk} {X : List Ck} {T : TypeId} {x y z : Operand}

/-- Where a slice of our own lies: its block, its capacity, what stands in the room behind it. -/
structure Gs where
  ob : Option Nat
  cap : Nat
  sp : List Value
abbrev gnil : Gs := ⟨none, 0, []⟩
theorem adr_some (b : Nat) : adr (some b) = some ⟨b, 0, none⟩ := rfl

/-! ### 1. make, and a row written out -/
theorem one_all {α : Type} {k : IntKind} {g : α → Int} (xs : List α) : ∀ u ∈ xs.map (fun x => Value.int k (g x)), u.oneCell' = true := by
  intro u hu; obtain ⟨_, _, rfl⟩ := List.mem_map.1 hu; rfl
theorem st_make (t : Nat) {e s by_ l c : Nat} {zv : Value} {zs : List Value} {k k' : IntKind} {a b : Int} (hp : Hp w0 S L X w) (hd : Nat.blt d n = true) (hx : evF F x = some (.int k a)) (hy : evF F y = some (.int k' b)) (hu : P.underlying T = some (.slice e))
    (hi : (P.info? e).map (fun i => (i.zero, i.size, i.bytes)) = some (some zv, s, by_)) (ha : a = (l : Int)) (hb : b = (c : Int)) (hlc : l ≤ c) (hby : by_ * c ≤ 281474976710656) (h63 : c ≤ 9223372036854775807) (hz : zv.cells = zs.toArray)
    (K : ∀ bl w', Hp w0 S ((t, ⟨some bl, (List.range (c * s)).map fun i => zs.toArray[i % zs.length]!, e⟩) :: L) X w' → St P Q n ops rest ((d, .slice (adr (some bl)) l c) :: F) w') :
    St P Q n ops (⟨some d, .makeSlice T x y, ty, pos, af, none⟩ :: rest) F w := by
  subst ha hb
  obtain ⟨i, hi1, hi2, hi3, hi4⟩ := info_parts hi
  have hrun := run_make (P := P) w T e i zv hu hi1 hi2 k k' (l : Int) (c : Int) (by omega) (by omega) (by rw [hi4]; omega) (by omega)
  rw [hi3, hz] at hrun
  have e1 : madeCells zs.toArray ((c : Int).toNat * s) = ((List.range (c * s)).map fun i => zs.toArray[i % zs.length]!).toArray := by
    apply Array.ext'
    simp [madeCells]
  rw [e1] at hrun
  refine st_run (v := .slice (adr (some w.heap.size)) l c) (w' := w.alloc (.cells ((List.range (c * s)).map fun i => zs.toArray[i % zs.length]!).toArray e)) ?_ hd (K _ _ (hp.new t _ e rfl rfl rfl rfl))
  intro n a ha o ho _
  simp [execOp, ho, ha.eval hx, ha.eval hy, hrun, adr]
theorem range_one {zv : Value} (c : Nat) : ((List.range (c * 1)).map fun i => [zv].toArray[i % [zv].length]!) = List.replicate c zv := by
  apply List.ext_getElem
  · simp
  · intro i h1 h2
    simp [Nat.mod_one]
/-- .. of elements of one cell. -/
theorem st_make1 (t : Nat) {e by_ l c : Nat} {zv : Value} {k k' : IntKind} {a b : Int} (hp : Hp w0 S L X w) (hd : Nat.blt d n = true) (hx : evF F x = some (.int k a)) (hy : evF F y = some (.int k' b)) (hu : P.underlying T = some (.slice e))
    (hi : (P.info? e).map (fun i => (i.zero, i.size, i.bytes)) = some (some zv, 1, by_)) (ha : a = (l : Int) ∧ b = (c : Int) ∧ l ≤ c ∧ by_ * c ≤ 281474976710656 ∧ c ≤ 9223372036854775807) (hz : zv.cells = [zv].toArray)
    (K : ∀ bl w', Hp w0 S ((t, ⟨some bl, List.replicate c zv, e⟩) :: L) X w' → St P Q n ops rest ((d, .slice (adr (some bl)) l c) :: F) w') :
    St P Q n ops (⟨some d, .makeSlice T x y, ty, pos, af, none⟩ :: rest) F w :=
  st_make t (s := 1) hp hd hx hy hu hi ha.1 ha.2.1 ha.2.2.1 ha.2.2.2.1 ha.2.2.2.2 hz (by rw [range_one]; exact K)

def evp (F : Fr) : List (Nat × Operand) → Option (List (Nat × Value))
  | [] => some []
  | (i, x) :: t => match evF F x, evp F t with | some v, some vs => some ((i, v) :: vs) | _, _ => none
theorem Knows.evalp {n : Nat} {F : Fr} {a : Act} (h : Knows n F a) : ∀ {xs : List (Nat × Operand)} {vs : List (Nat × Value)}, evp F xs = some vs → (xs.map fun p => (p.1, a.eval p.2)) = vs
  | [], vs, hv => by simp [evp] at hv; subst hv; rfl
  | (i, x) :: t, vs, hv => by
    simp only [evp] at hv
    cases hx : evF F x with
    | none => simp [hx] at hv
    | some v =>
      cases ht : evp F t with
      | none => simp [hx, ht] at hv
      | some us =>
        simp [hx, ht] at hv
        subst hv
        simp [h.eval hx, h.evalp ht]
theorem in2_of {e s by_ : Nat} {zv : Value} (hi : (P.info? e).map (fun i => (i.zero, i.size, i.bytes)) = some (some zv, s, by_)) : (P.info? e).map (fun i => (i.zero, i.size)) = some (some zv, s) := by
  cases hq : P.info? e with
  | none => simp [hq] at hi
  | some i => simp [hq] at hi ⊢; exact ⟨hi.1, hi.2.1⟩
/-- '[]T{..}': what comes of it is one closed reckoning ('hf'). -/
theorem st_build (t : Nat) {e s len : Nat} {zv : Value} {cells : List Value} {ps : List (Nat × Operand)} {vs : List (Nat × Value)} (hp : Hp w0 S L X w) (hd : Nat.blt d n = true) (hxs : evp F ps = some vs) (hu : P.underlying T = some (.slice e))
    (hi : (P.info? e).map (fun i => (i.zero, i.size)) = some (some zv, s)) (hl : len * s ≤ 16777216 ∧ len * s ≠ 0)
    (hf : Instr.fill (fun i => some (i * s, s)) ((Array.range (len * s)).map (zv.cells[· % zv.cells.size]!)) vs = some cells.toArray)
    (K : ∀ bl w', bl = w.heap.size → Hp w0 S ((t, ⟨some bl, cells, e⟩) :: L) X w' → St P Q n ops rest ((d, .slice (adr (some bl)) len len) :: F) w') :
    St P Q n ops (⟨some d, .buildSlice T len ps.toArray, ty, pos, af, none⟩ :: rest) F w := by
  refine st_run (v := .slice (adr (some w.heap.size)) len len) (w' := w.alloc (.cells cells.toArray e)) ?_ hd (K _ _ rfl (hp.new t _ e rfl rfl rfl rfl))
  intro n a ha o ho _
  cases hq : P.info? e with
  | none => simp [hq] at hi
  | some i =>
    simp [hq] at hi
    have h1 : ¬ (16777216 < len * s) := by omega
    have hvs := ha.evalp hxs
    have hz0 := hi.1
    have hz1 := hi.2
    simp only [execOp, ho, Instr.buildSlice, underlying, Sem.run_bind, run_program, hu, sizeOf, typeInfo, hq, hz1, zeroValue, Sem.run_pure, Result.andThen_ok]
    simp [h1, hl.2, hvs, hq, hz0, hf, newRow, adr]

/-! ### 2. append -/
/-- What grows by append, in elements. -/
theorem nextcap_le (need old : Nat) (h : old < need) : Builtin.nextslicecap need old ≤ 2 * need + 512 := by
  unfold Builtin.nextslicecap
  split
  · omega
  · split
    · omega
    · have hg : ∀ r c, c ≤ need + (need + 768) / 4 → Builtin.growBy need r c ≤ need + (need + 768) / 4 := by
        intro r
        induction r with
        | zero => intro c hc; simpa [Builtin.growBy] using hc
        | succ r ih =>
          intro c hc
          simp only [Builtin.growBy]
          split
          · exact hc
          · exact ih _ (by omega)
      have := hg 4 old (by omega)
      omega
theorem st_appendQ (t : Nat) {e s by_ m c2 k : Nat} {zv : Value} (g : Gs) {xs news : List Value} {bo : Option Addr} {ats : Array TypeId} (hp : Hp w0 S L X w) (hd : Nat.blt d n = true) (hL : lc L t = some ⟨g.ob, xs ++ g.sp, e⟩)
    (hx : evF F x = some (.slice (adr g.ob) k g.cap)) (hy : evF F y = some (.slice bo m c2)) (hat : ats = #[T, T]) (hu : P.underlying T = some (.slice e))
    (hi : (P.info? e).map (fun i => (i.zero, i.size, i.bytes)) = some (some zv, s, by_)) (hs0 : 0 < s) (hzs : zv.cells.size = s) (hxs : xs.length = k * s) (hcap : (xs ++ g.sp).length = g.cap * s) (hnews : Rd w bo news) (hm : news.length = m * s) (h1 : ∀ u ∈ news, u.oneCell' = true)
    (hbd : (k + m ≤ g.cap ∨ Builtin.nextslicecap (k + m) g.cap * by_ ≤ 281474976710656) ∧ k + m ≤ 9223372036854775807)
    (K : ∀ (g' : Gs) w', Hp w0 S ((t, ⟨g'.ob, (xs ++ news) ++ g'.sp, e⟩) :: L) X w' → ((xs ++ news) ++ g'.sp).length = g'.cap * s → (k + m ≤ g.cap → g' = ⟨g.ob, g.cap, g.sp.drop news.length⟩) ∧ (g'.ob = g.ob ∨ ∃ b, g'.ob = some b ∧ w.heap.size ≤ b) → St P Q n ops rest ((d, .slice (adr g'.ob) (k + m) g'.cap) :: F) w') :
    St P Q n ops (⟨some d, .call { callee := .builtin .append, args := #[x, y], argTypes := ats }, ty, pos, af, none⟩ :: rest) F w := by
  subst hat
  obtain ⟨ob, cap, sp⟩ := g
  simp only at hL hx hcap K hbd
  obtain ⟨i, hi1, hi2, hi3, hi4⟩ := info_parts hi
  subst hi3 hi4
  have hB := hp.own t _ hL
  have hkc : k ≤ cap := by
    have h2 : k * i.size ≤ cap * i.size := by rw [← hxs, ← hcap]; simp
    exact Nat.le_of_mul_le_mul_right h2 hs0
  have hfirst : ∀ w1 : World, (∀ a, w1.cell? a = w.cell? a) → (Builtin.firstCells i.size m (.slice bo m c2)).run P w1 = .ok news.toArray w1 := fun w1 hw1 => by
    rcases hnews with rfl | ⟨b, off, rfl, hc⟩
    · have : m = 0 := by
        rcases Nat.eq_zero_or_pos m with h | h
        · exact h
        · have := Nat.mul_pos h hs0; simp at hm; omega
      subst this
      cases bo with
      | none => simp [Builtin.firstCells]
      | some ad => exact run_firstCells_some w1 i.size 0 ad 0 c2 [] (by simp) (by simp)
    · exact run_firstCells_some w1 i.size m _ m c2 news hm fun j v hj => (hw1 _).trans (cells_add hc j v hj)
  have hold : ∀ w1 : World, (∀ a, w1.cell? a = w.cell? a) → (Builtin.firstCells i.size k (.slice (adr ob) k cap)).run P w1 = .ok xs.toArray w1 := fun w1 hw1 => by
    cases ob with
    | none =>
      have : xs = [] := by have := hB.none_ rfl; simp at this; exact this.1
      subst this
      simp [adr, Builtin.firstCells]
    | some b =>
      exact run_firstCells_some w1 i.size k _ k cap xs hxs fun j v hj => (hw1 _).trans (cells_add (hB.cells.left) j v hj)
  by_cases hroom : k + m ≤ cap
  · cases ob with
    | none =>
      have hnil : xs = [] ∧ sp = [] := by have := hB.none_ rfl; simpa using this
      obtain ⟨rfl, rfl⟩ := hnil
      have hc0 : cap = 0 := by
        rcases Nat.eq_zero_or_pos cap with h | h
        · exact h
        · have := Nat.mul_pos h hs0; simp at hcap; omega
      have hm0 : m = 0 := by omega
      have hk0 : k = 0 := by omega
      subst hc0 hm0 hk0
      have hn0 : news = [] := by simpa using hm
      subst hn0
      have hf := hfirst w fun _ => rfl
      refine st_run (v := .slice none 0 0) (w' := w) ?_ hd (K ⟨none, 0, []⟩ w (hp.sub ?_) (by simp) ⟨fun _ => by simp, .inl rfl⟩)
      · intro n a ha o ho _
        simp only [execOp, ho, resolve, invoke, builtin, Sem.run_bind, Sem.run_pure, Result.andThen_ok, List.map_toArray, List.map_cons, List.map_nil, ha.eval hx, ha.eval hy]
        simp [Builtin.append_, run_underlying hu, sizeOf, typeInfo, hi1, Builtin.lenOf, hf, adr]
      · intro j c hc
        rw [lc_cons] at hc
        split at hc
        · rename_i e1; subst e1; rw [← hc]; simpa using hL
        · exact hc
    | some b =>
      have hf := hfirst w fun _ => rfl
      have hb := hB.heap rfl
      have hfit : k * i.size + news.length ≤ (xs ++ sp).length := by
        rw [hcap, hm, ← Nat.add_mul]; exact Nat.mul_le_mul_right _ hroom
      have hst := run_storeCells_at (P := P) b (k * i.size) e news 0 (xs ++ sp).toArray w hb (by simpa using hfit) h1
      simp only [Nat.add_zero] at hst
      have htk : (xs ++ sp).take (k * i.size) = xs := by rw [← hxs]; simp
      have hsp : (xs ++ sp).drop (k * i.size + news.length) = sp.drop news.length := by
        rw [← hxs, List.drop_append, List.drop_of_length_le (by omega)]; simp
      rw [htk, hsp] at hst
      refine st_run (v := .slice (adr (some b)) (k + m) cap) (w' := w.setRow b (xs ++ news ++ sp.drop news.length).toArray) ?_ hd (K ⟨some b, cap, sp.drop news.length⟩ _ (hp.write hL _) ?_ ⟨fun _ => rfl, .inl rfl⟩)
      · intro n a ha o ho _
        simp only [execOp, ho, resolve, invoke, builtin, Sem.run_bind, Sem.run_pure, Result.andThen_ok, List.map_toArray, List.map_cons, List.map_nil, ha.eval hx, ha.eval hy]
        simp [Builtin.append_, run_underlying hu, sizeOf, typeInfo, hi1, Builtin.lenOf, hroom, hf, adr, add_at, hst]
      · simp only [List.length_append, List.length_drop] at hcap hfit ⊢
        omega
  · have hlt : cap < k + m := by omega
    have hfit48 : Builtin.nextslicecap (k + m) cap * i.bytes ≤ 281474976710656 := hbd.1.resolve_left (by omega)
    have h48' : ¬ (281474976710656 < Builtin.nextslicecap (k + m) cap * i.bytes) := by omega
    have h63' : ¬ (9223372036854775807 < ((k : Int) + (m : Int))) := by omega
    have hf := hfirst w.drew fun _ => rfl
    have ho' := hold w.drew fun _ => rfl
    have hge := grownCap_ge w (k + m) cap e
    have hspl : (Builtin.zeroCells zv.cells (grownCap w (k + m) cap e - (k + m))).toList.length = (grownCap w (k + m) cap e - (k + m)) * i.size := by
      rw [Array.length_toList, size_zeroCells, hzs]
    refine st_run (v := .slice (adr (some w.heap.size)) (k + m) (grownCap w (k + m) cap e))
      (w' := w.drew.alloc (.cells ((xs ++ news) ++ (Builtin.zeroCells zv.cells (grownCap w (k + m) cap e - (k + m))).toList).toArray e)) ?_ hd
      (K ⟨some w.heap.size, grownCap w (k + m) cap e, (Builtin.zeroCells zv.cells (grownCap w (k + m) cap e - (k + m))).toList⟩ _ (hp.new t _ e rfl rfl rfl rfl) ?_ ⟨fun h => absurd h hroom, .inr ⟨_, rfl, Nat.le_refl _⟩⟩)
    · intro n a ha o ho _
      simp only [execOp, ho, resolve, invoke, builtin, Sem.run_bind, Sem.run_pure, Result.andThen_ok, List.map_toArray, List.map_cons, List.map_nil, ha.eval hx, ha.eval hy]
      simp [Builtin.append_, run_underlying hu, sizeOf, typeInfo, zeroValue, hi1, hi2, Builtin.lenOf, hroom, h63', h48', Question.forced, hf, ho', newRow, grownCap, adr_some]
      congr 2
      apply Array.ext'
      simp
    · show _ = grownCap w (k + m) cap e * i.size
      rw [List.length_append, hspl, List.length_append, hxs, hm, ← Nat.add_mul, ← Nat.add_mul]
      congr 1
      omega
theorem st_append (t : Nat) {e s by_ m c2 k : Nat} {zv : Value} (g : Gs) {xs news : List Value} {bo : Option Addr} {ats : Array TypeId} (hp : Hp w0 S L X w) (hd : Nat.blt d n = true) (hL : lc L t = some ⟨g.ob, xs ++ g.sp, e⟩)
    (hx : evF F x = some (.slice (adr g.ob) k g.cap)) (hy : evF F y = some (.slice bo m c2)) (hat : ats = #[T, T]) (hu : P.underlying T = some (.slice e))
    (hi : (P.info? e).map (fun i => (i.zero, i.size, i.bytes)) = some (some zv, s, by_)) (hs0 : 0 < s) (hzs : zv.cells.size = s) (hxs : xs.length = k * s) (hcap : (xs ++ g.sp).length = g.cap * s) (hnews : Rd w bo news) (hm : news.length = m * s) (h1 : ∀ u ∈ news, u.oneCell' = true)
    (hbd : (2 * (k + m) + 512) * by_ ≤ 281474976710656 ∧ k + m ≤ 9223372036854775807)
    (K : ∀ (g' : Gs) w', Hp w0 S ((t, ⟨g'.ob, (xs ++ news) ++ g'.sp, e⟩) :: L) X w' → ((xs ++ news) ++ g'.sp).length = g'.cap * s → (k + m ≤ g.cap → g' = ⟨g.ob, g.cap, g.sp.drop news.length⟩) ∧ (g'.ob = g.ob ∨ ∃ b, g'.ob = some b ∧ w.heap.size ≤ b) → St P Q n ops rest ((d, .slice (adr g'.ob) (k + m) g'.cap) :: F) w') :
    St P Q n ops (⟨some d, .call { callee := .builtin .append, args := #[x, y], argTypes := ats }, ty, pos, af, none⟩ :: rest) F w :=
  st_appendQ t g hp hd hL hx hy hat hu hi hs0 hzs hxs hcap hnews hm h1 ⟨by
    rcases Nat.lt_or_ge g.cap (k + m) with h | h
    · exact .inr (Nat.le_trans (Nat.mul_le_mul_right _ (nextcap_le (k + m) g.cap h)) hbd.1)
    · exact .inl h, hbd.2⟩ K
/-- .. to nothing: what is needed, no more. -/
theorem nil_bd {m b : Nat} (h : m * b ≤ 281474976710656) (h2 : m ≤ 9223372036854775807) : (0 + m ≤ 0 ∨ Builtin.nextslicecap (0 + m) 0 * b ≤ 281474976710656) ∧ 0 + m ≤ 9223372036854775807 := by
  refine ⟨?_, by omega⟩
  rcases Nat.eq_zero_or_pos m with h0 | h0
  · left; omega
  · right
    unfold Builtin.nextslicecap
    rw [if_pos (by omega), Nat.zero_add]
    exact h
theorem Hp.nil (h : Hp w0 S L X w) (t : Nat) (e : TypeId) : Hp w0 S ((t, ⟨none, [], e⟩) :: L) X w :=
  h.step t (T := []) (Chg.refl _ _) (by simp) (Blk.nil w e) fun b hb => by cases hb
theorem splice_step (A : List Value) (v : Value) (r : List Value) (i : Nat) (h : i < A.length) :
    (A.take i ++ v :: A.drop (i + 1)).take (i + 1) ++ r ++ (A.take i ++ v :: A.drop (i + 1)).drop (i + 1 + r.length) = A.take i ++ (v :: r) ++ A.drop (i + (r.length + 1)) := by
  have hl : (A.take i ++ [v]).length = i + 1 := by simp; omega
  have e1 : A.take i ++ v :: A.drop (i + 1) = (A.take i ++ [v]) ++ A.drop (i + 1) := by simp
  rw [e1, List.take_left' hl, List.drop_append, List.drop_of_length_le (by omega), hl, List.drop_drop]
  rw [show i + 1 + (i + 1 + r.length - (i + 1)) = i + (r.length + 1) by omega]
  simp
/-- 'append(s, v)': the row of one element, and what is appended to. -/
theorem st_app1 (t t1 : Nat) {d1 : Tmp} {e s by_ k : Nat} {zv u : Value} (g : Gs) {xs new : List Value} {ats : Array TypeId} {ty1 : TypeId} {pos1 : String} {af1 : Array Edge} (hp : Hp w0 S L X w) (hd : Nat.blt d n = true) (hd1 : Nat.blt d1 n = true) (hne : Nat.beq t1 t = false)
    (hL : lc L t = some ⟨g.ob, xs ++ g.sp, e⟩) (hx : evF ((d1, .slice none 0 0) :: F) x = some (.slice (adr g.ob) k g.cap)) (hxd : x ≠ .tmp d1) (hu1 : evF F y = some u) (hat : ats = #[T, T]) (hu : P.underlying T = some (.slice e))
    (hi : (P.info? e).map (fun i => (i.zero, i.size, i.bytes)) = some (some zv, s, by_)) (hs0 : Nat.blt 0 s = true ∧ Nat.ble s 4096 = true) (hzs : zv.cells.size = s) (hxs : xs.length = k * s) (hcap : (xs ++ g.sp).length = g.cap * s) (hu2 : u.cells = new.toArray) (hnl : new.length = s) (h1 : ∀ u ∈ new, u.oneCell' = true)
    (hbd : (2 * (k + 1) + 512) * by_ ≤ 281474976710656 ∧ k + 1 ≤ 9223372036854775807)
    (K : ∀ (g' : Gs) (bl : Nat) w', Hp w0 S ((t, ⟨g'.ob, (xs ++ new) ++ g'.sp, e⟩) :: (t1, ⟨some bl, new, e⟩) :: L) X w' → ((xs ++ new) ++ g'.sp).length = g'.cap * s → (k + 1 ≤ g.cap → g' = ⟨g.ob, g.cap, g.sp.drop new.length⟩) ∧ (g'.ob = g.ob ∨ ∃ b, g'.ob = some b ∧ w.heap.size ≤ b) → St P Q n ops rest ((d, .slice (adr g'.ob) (k + 1) g'.cap) :: (d1, .slice (adr (some bl)) 1 1) :: F) w') :
    St P Q n ops (⟨some d1, .buildSlice T 1 #[(0, y)], ty1, pos1, af1, none⟩ :: ⟨some d, .call { callee := .builtin .append, args := #[x, .tmp d1], argTypes := ats }, ty, pos, af, none⟩ :: rest) F w := by
  have hs1 : 0 < s := by have := hs0.1; simpa [Nat.blt_eq] using this
  have hs2 : s ≤ 4096 := Nat.le_of_ble_eq_true hs0.2
  have hi2 : (P.info? e).map (fun i => (i.zero, i.size)) = some (some zv, s) := by
    cases hq : P.info? e with
    | none => simp [hq] at hi
    | some i => simp [hq] at hi ⊢; exact ⟨hi.1, hi.2.1⟩
  refine st_build t1 (ps := [(0, y)]) (vs := [(0, u)]) (cells := new) hp hd1 (by simp [evp, hu1]) hu hi2 (by omega) ?_ fun bl w1 hbl hp1 => ?_
  · have hsz : ((Array.range (1 * s)).map (zv.cells[· % zv.cells.size]!)).size = s := by simp
    simp only [Instr.fill, hu2, List.size_toArray, hnl, ne_eq, not_true_eq_false, Nat.zero_mul, Nat.zero_add, hsz, decide_false, Bool.false_or, gt_iff_lt, Nat.lt_irrefl]
    have hz : ∀ (l : List Value) (off : Nat) (cs : Array Value), off + l.length ≤ cs.size → l.toArray.zipIdx.foldl (fun cs (c, j) => cs.setIfInBounds (off + j) c) cs = (cs.toList.take off ++ l ++ cs.toList.drop (off + l.length)).toArray := by
      intro l off cs hfit
      rw [← Array.foldl_toList]
      simp only [Array.toList_zipIdx]
      have gen : ∀ (l : List Value) (k : Nat) (cs : Array Value), off + k + l.length ≤ cs.size → (l.zipIdx k).foldl (fun cs (c, j) => cs.setIfInBounds (off + j) c) cs = (cs.toList.take (off + k) ++ l ++ cs.toList.drop (off + k + l.length)).toArray := by
        intro l
        induction l with
        | nil => intro k cs _; simp
        | cons v r ih =>
          intro k cs hf
          simp only [List.length_cons] at hf
          rw [List.zipIdx_cons, List.foldl_cons, ih (k + 1) _ (by simp; omega)]
          have hlt : off + k < cs.toList.length := by simpa using (by omega : off + k < cs.size)
          have hset : (cs.setIfInBounds (off + k) v).toList = cs.toList.take (off + k) ++ v :: cs.toList.drop (off + k + 1) := by
            rw [Array.toList_setIfInBounds, List.set_eq_take_append_cons_drop, if_pos hlt]
          rw [hset, show off + (k + 1) = off + k + 1 by omega, splice_step _ _ _ _ hlt]
          simp only [List.length_cons]
      simpa using gen l 0 cs (by simpa using hfit)
    have h2 := hz new 0 ((Array.range s).map (zv.cells[· % zv.cells.size]!)) (by simp [hnl])
    simp only [Nat.zero_add, List.take_zero, List.nil_append] at h2
    rw [Nat.one_mul, h2]
    rw [List.drop_of_length_le (by simp [hnl])]
    simp
  · have hx' : evF ((d1, .slice (adr (some bl)) 1 1) :: F) x = some (.slice (adr g.ob) k g.cap) := by
      cases x with
      | tmp i =>
        simp only [evF, lk] at hx ⊢
        have hij : Nat.beq d1 i = false := beq_ne fun e => hxd (by rw [e])
        rw [hij] at hx ⊢
        exact hx
      | const v => exact hx
      | global g => exact hx
      | func f => exact hx
    have hy' : evF ((d1, .slice (adr (some bl)) 1 1) :: F) (.tmp d1) = some (.slice (adr (some bl)) 1 1) := by simp [evF, lk, Nat.beq_refl]
    have hL' : lc ((t1, (⟨some bl, new, e⟩ : Ck)) :: L) t = some ⟨g.ob, xs ++ g.sp, e⟩ := by
      simp only [lc, hne]; exact hL
    have hl1 : lc ((t1, (⟨some bl, new, e⟩ : Ck)) :: L) t1 = some ⟨some bl, new, e⟩ := by simp [lc, Nat.beq_refl]
    refine st_append t g (m := 1) hp1 hd hL' hx' hy' hat hu hi hs1 hzs hxs hcap (Rd.of (hp1.cells' hl1)) (by omega) h1 hbd fun g' w' hp' hc' hf' => K g' bl w' hp' hc' ⟨hf'.1, hf'.2.imp id fun ⟨b, hb, hle⟩ => ⟨b, hb, Nat.le_trans ?_ hle⟩⟩
    have := (hp1.own t1 _ hl1).lt rfl
    omega
end
end Go.Proofs.YtjdolgfhcjnniaaDoor
