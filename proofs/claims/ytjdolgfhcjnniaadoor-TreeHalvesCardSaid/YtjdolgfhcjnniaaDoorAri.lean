/-
  More operations: numbers that are not negative, strings appended, stores into rows of our own.
-/
import Derived.Test.YtjdolgfhcjnniaaDoorOwn
import Derived.Laws.Small
import Derived.ScopeJumps
namespace Go.Proofs.YtjdolgfhcjnniaaDoor
open Go Go.RowKit

section
variable {P : Program} {Q : Exit → Act → World → Prop} {n : Nat} {F : Fr} {w w0 : World} {ops : Array Oper} {rest : List Oper} {ty t t' : TypeId} {pos : String} {af : Array Edge} {d : Tmp}
variable {S : List Nat} {L : Lk} {X : List Ck} {T : TypeId} {x y : Operand} {k k' : IntKind}

theorem OpV.is {op : Op} {v v' : Value} (h : OpV P F w op ty v) (e : v = v') : OpV P F w op ty v' := e ▸ h

/-! ### 1. Numbers that are not negative -/
theorem ov_minN {a b : Int} {m : Nat} {ats : Array TypeId} (hx : evF F x = some (.int k a)) (hy : evF F y = some (.int k' b)) (h : ((m : Nat) : Int) = min a b) : OpV P F w (.call { callee := .builtin .min, args := #[x, y], argTypes := ats }) ty (.int k ((m : Nat) : Int)) := by
  intro n ac ha o ho _
  have e : (if b < a then b else a) = ((m : Nat) : Int) := by rw [h]; split <;> omega
  simp [execOp, ho, resolve, invoke, ha.eval hx, ha.eval hy, builtin, run_min_int2, e]
theorem ov_maxN {a b : Int} {m : Nat} {ats : Array TypeId} (hx : evF F x = some (.int k a)) (hy : evF F y = some (.int k' b)) (h : ((m : Nat) : Int) = max a b) : OpV P F w (.call { callee := .builtin .max, args := #[x, y], argTypes := ats }) ty (.int k ((m : Nat) : Int)) := by
  intro n ac ha o ho _
  have e : (if a < b then b else a) = ((m : Nat) : Int) := by rw [h]; split <;> omega
  simp [execOp, ho, resolve, invoke, ha.eval hx, ha.eval hy, builtin, run_max_int2, e]
theorem ov_sub_n {a b : Nat} (hx : evF F x = some (.int .i64 (a : Int))) (hy : evF F y = some (.int .i64 (b : Int))) (h : b ≤ a ∧ a ≤ 9223372036854775807) : OpV P F w (.binOp .sub t x y t') ty (.int .i64 ((a - b : Nat) : Int)) := by
  have := @ov_sub_i64 P F w ty t t' x y _ _ hx hy (by omega)
  rwa [show (a : Int) - (b : Int) = ((a - b : Nat) : Int) by omega] at this
theorem ov_add_n {a b : Nat} (hx : evF F x = some (.int .i64 (a : Int))) (hy : evF F y = some (.int .i64 (b : Int))) (h : a + b ≤ 9223372036854775807) : OpV P F w (.binOp .add t x y t') ty (.int .i64 ((a + b : Nat) : Int)) := by
  have := @ov_add_i64 P F w ty t t' x y _ _ hx hy (by omega)
  rwa [show (a : Int) + (b : Int) = ((a + b : Nat) : Int) by omega] at this
theorem ov_mul_n {a b : Nat} (hx : evF F x = some (.int .i64 (a : Int))) (hy : evF F y = some (.int .i64 (b : Int))) (h : a * b ≤ 9223372036854775807) : OpV P F w (.binOp .mul t x y t') ty (.int .i64 ((a * b : Nat) : Int)) := by
  have := @ov_mul P F w ty t t' x y .i64 _ _ hx hy
  rw [show (a : Int) * (b : Int) = ((a * b : Nat) : Int) by simp] at this
  rwa [wrap_i64 (by omega) (by omega)] at this
theorem ov_quo_n {a b : Nat} (hx : evF F x = some (.int .i64 (a : Int))) (hy : evF F y = some (.int .i64 (b : Int))) (h : 0 < b ∧ a ≤ 9223372036854775807) : OpV P F w (.binOp .quo t x y t') ty (.int .i64 ((a / b : Nat) : Int)) := by
  have := @ov_quo_i64 P F w ty t t' x y _ _ hx hy (by omega)
  rwa [show (a : Int) / (b : Int) = ((a / b : Nat) : Int) by simp] at this
theorem bv64n {a : Nat} (h : a ≤ 9223372036854775807) : (BitVec.ofInt IntKind.i64.bits ((a : Nat) : Int)).toNat = a := by
  simp [IntKind.bits, BitVec.toNat_ofInt]; omega
theorem lt63 {a : Nat} (h : a < 2 ^ 63) : a ≤ 9223372036854775807 := by omega
theorem ov_or_n {a b : Nat} (hx : evF F x = some (.int .i64 (a : Int))) (hy : evF F y = some (.int .i64 (b : Int))) (h : a ≤ 9223372036854775807 ∧ b ≤ 9223372036854775807) : OpV P F w (.binOp .or t x y t') ty (.int .i64 ((a ||| b : Nat) : Int)) := by
  have := @ov_or P F w ty t t' x y .i64 _ _ hx hy
  have hb := lt63 (Nat.or_lt_two_pow (n := 63) (x := a) (y := b) (by omega) (by omega))
  rw [BitVec.toNat_or, bv64n h.1, bv64n h.2, wrap_i64 (by omega) (by omega)] at this
  exact this
theorem ov_and_n {a b : Nat} (hx : evF F x = some (.int .i64 (a : Int))) (hy : evF F y = some (.int .i64 (b : Int))) (h : a ≤ 9223372036854775807 ∧ b ≤ 9223372036854775807) : OpV P F w (.binOp .and t x y t') ty (.int .i64 ((a &&& b : Nat) : Int)) := by
  have := @ov_and P F w ty t t' x y .i64 _ _ hx hy
  have hb := lt63 (Nat.and_lt_two_pow (n := 63) a (y := b) (by omega))
  rw [BitVec.toNat_and, bv64n h.1, bv64n h.2, wrap_i64 (by omega) (by omega)] at this
  exact this
theorem ov_xor_n {a b : Nat} (hx : evF F x = some (.int .i64 (a : Int))) (hy : evF F y = some (.int .i64 (b : Int))) (h : a ≤ 9223372036854775807 ∧ b ≤ 9223372036854775807) : OpV P F w (.binOp .xor t x y t') ty (.int .i64 ((a ^^^ b : Nat) : Int)) := by
  have := @ov_xor P F w ty t t' x y .i64 _ _ hx hy
  have hb := lt63 (Nat.xor_lt_two_pow (n := 63) (x := a) (y := b) (by omega) (by omega))
  rw [BitVec.toNat_xor, bv64n h.1, bv64n h.2, wrap_i64 (by omega) (by omega)] at this
  exact this
theorem ov_shl_n {a b : Nat} (hx : evF F x = some (.int .i64 (a : Int))) (hy : evF F y = some (.int k' (b : Int))) (h : b ≤ 62 ∧ a <<< b ≤ 9223372036854775807) : OpV P F w (.binOp .shl t x y t') ty (.int .i64 ((a <<< b : Nat) : Int)) := by
  have := @ov_shl P F w ty t t' x y .i64 k' _ _ hx hy (by omega)
  obtain ⟨z, hz⟩ : ∃ z, a <<< b = z := ⟨_, rfl⟩
  have e : (a : Int) * 2 ^ b = (z : Int) := by rw [← hz, Nat.shiftLeft_eq]; simp
  rw [hz] at h ⊢
  rw [Int.toNat_natCast, Nat.min_eq_left (show b ≤ IntKind.i64.bits by show b ≤ 64; omega), e, wrap_i64 (by omega) (by omega)] at this
  exact this
theorem ov_conv_n_8 {a : Nat} (hu : P.underlying t = some (.int k)) (hu2 : P.underlying t' = some (.int .u8)) (hx : evF F x = some (.int k (a : Int))) : OpV P F w (.convert t t' x) ty (B8 (UInt8.ofNat a)) := by
  have := @ov_conv P F w ty t t' x .u8 k _ hu hu2 hx
  rw [wrap_u8] at this
  have e : (a : Int) % 256 = ((UInt8.ofNat a).toNat : Int) := by rw [UInt8.toNat_ofNat']; omega
  rwa [e] at this
theorem ov_conv_n_n {a : Nat} (hu : P.underlying t = some (.int k)) (hu2 : P.underlying t' = some (.int k')) (hx : evF F x = some (.int k (a : Int))) (h : a < 9223372036854775808) (h64 : k'.bits = 64 := by rfl) : OpV P F w (.convert t t' x) ty (.int k' (a : Int)) := by
  have := @ov_conv P F w ty t t' x k' k _ hu hu2 hx
  have e : k'.wrap (a : Int) = (a : Int) := by
    cases k' <;> first | (exact absurd h64 (by decide)) | (simp only [IntKind.wrap, IntKind.bits, IntKind.signed]; simp; omega)
  rwa [e] at this

theorem ov_indexStrN {s : List UInt8} {i : Nat} (hx : evF F x = some (vS s)) (hy : evF F y = some (.int k (i : Int))) (hu : P.underlying t = some .string) (hb : i < s.length) : OpV P F w (.index t x y) ty (B8 (s.getD i 0)) := by
  have := @ov_indexStr P F w ty t x y s k _ hx hy hu (by omega)
  rwa [Int.toNat_natCast] at this
theorem pr_four {fn : Func} {R : Ending → World → Prop} {a b c e : Tmp} {u v z r : Value} (hres : fn.results = #[.tmp a, .tmp b, .tmp c, .tmp e]) (h1 : lk F a = some u) (h2 : lk F b = some v) (h3 : lk F c = some z) (h4 : lk F e = some r) {n : Nat} (h : R (.returned (.tuple #[u, v, z, r])) w) : Pr (bodyPost P fn R) n F w := by
  intro ac ha
  refine ⟨ha.defers, _, ?_, h⟩
  have e1 := ha.get a u h1; have e2 := ha.get b v h2; have e3 := ha.get c z h3; have e4 := ha.get e r h4
  simp_all [results]
/-! ### 2. Strings appended -/
theorem st_appendStr (t : Nat) {e by_ k : Nat} {zv : Value} (g : Gs) {xs : List Value} {str : List UInt8} {ats : Array TypeId} {Ts : TypeId} (hp : Hp w0 S L X w) (hd : Nat.blt d n = true) (hL : lc L t = some ⟨g.ob, xs ++ g.sp, e⟩)
    (hx : evF F x = some (.slice (adr g.ob) k g.cap)) (hy : evF F y = some (vS str)) (hat : ats = #[T, Ts]) (hu : P.underlying T = some (.slice e)) (hus : P.underlying Ts = some .string)
    (hi : (P.info? e).map (fun i => (i.zero, i.size, i.bytes)) = some (some zv, 1, by_)) (hxs : xs.length = k) (hcap1 : (xs ++ g.sp).length = g.cap * 1)
    (hzs : zv.cells.size = 1) (hbd : (2 * (k + str.length) + 512) * by_ ≤ 281474976710656 ∧ k + str.length ≤ 9223372036854775807)
    (K : ∀ (g' : Gs) w', Hp w0 S ((t, ⟨g'.ob, (xs ++ str.map B8) ++ g'.sp, e⟩) :: L) X w' → ((xs ++ str.map B8) ++ g'.sp).length = g'.cap * 1 → (k + str.length ≤ g.cap → g' = ⟨g.ob, g.cap, g.sp.drop str.length⟩) ∧ (g'.ob = g.ob ∨ ∃ b, g'.ob = some b ∧ w.heap.size ≤ b) → St P Q n ops rest ((d, .slice (adr g'.ob) (k + str.length) g'.cap) :: F) w') :
    St P Q n ops (⟨some d, .call { callee := .builtin .append, args := #[x, y], argTypes := ats }, ty, pos, af, none⟩ :: rest) F w := by
  subst hat
  obtain ⟨ob, cap, sp⟩ := g
  have hcap := hcap1
  simp only [Nat.mul_one] at hL hx hcap K
  clear hcap1
  obtain ⟨i, hi1, hi2, hi3, hi4⟩ := info_parts hi
  subst hi4
  have hB := hp.own t _ hL
  have hkc : k ≤ cap := by rw [← hxs, ← hcap]; simp
  have hsz : (⟨str.toArray⟩ : ByteArray).size = str.length := by simp [ByteArray.size]
  have h1 : ∀ u ∈ str.map B8, u.oneCell' = true := one_all _
  have hfirst : ∀ w1 : World, (Builtin.firstCells 1 str.length (vS str)).run P w1 = .ok (str.map B8).toArray w1 := fun w1 => by
    simp [Builtin.firstCells, vS]
  have hold : ∀ w1 : World, (∀ a, w1.cell? a = w.cell? a) → (Builtin.firstCells i.size k (.slice (adr ob) k cap)).run P w1 = .ok xs.toArray w1 := fun w1 hw1 => by
    rw [hi3]
    cases ob with
    | none =>
      have : xs = [] := by have := hB.none_ rfl; simp at this; exact this.1
      subst this
      simp [adr, Builtin.firstCells]
    | some b =>
      exact run_firstCells_some w1 1 k _ k cap xs (by omega) fun j v hj => (hw1 _).trans (cells_add (hB.cells.left) j v hj)
  have hlen : (Builtin.lenOf (vS str)).run P w = .ok str.length w := by simp [Builtin.lenOf, vS, hsz]
  by_cases hroom : k + str.length ≤ cap
  · cases ob with
    | none =>
      have hnil : xs = [] ∧ sp = [] := by have := hB.none_ rfl; simpa using this
      obtain ⟨rfl, rfl⟩ := hnil
      have hc0 : cap = 0 := by simpa using hcap.symm
      have hm0 : str.length = 0 := by omega
      have hk0 : k = 0 := by omega
      have hs0 : str = [] := by simpa using hm0
      subst hc0 hk0 hs0
      have hf : (Builtin.firstCells 1 0 (vS [])).run P w = .ok #[] w := hfirst w
      refine st_run (v := .slice none 0 0) (w' := w) ?_ hd (K ⟨none, 0, []⟩ w (hp.sub ?_) (by simp) ⟨fun _ => by simp, .inl rfl⟩)
      · intro n a ha o ho _
        simp only [execOp, ho, resolve, invoke, builtin, Sem.run_bind, Sem.run_pure, Result.andThen_ok, List.map_toArray, List.map_cons, List.map_nil, ha.eval hx, ha.eval hy]
        simp [Builtin.append_, run_underlying hu, run_underlying hus, sizeOf, typeInfo, hi1, hi3, hlen, hf, adr]
      · intro j c hc
        rw [lc_cons] at hc
        split at hc
        · rename_i e1; subst e1; rw [← hc]; simpa using hL
        · exact hc
    | some b =>
      have hf := hfirst w
      have hb := hB.heap rfl
      have hfit : k + (str.map B8).length ≤ (xs ++ sp).length := by rw [hcap, List.length_map]; exact hroom
      have hst := run_storeCells_at (P := P) b k e (str.map B8) 0 (xs ++ sp).toArray w hb (by simpa using hfit) h1
      simp only [Nat.add_zero] at hst
      have htk : (xs ++ sp).take k = xs := by rw [← hxs]; simp
      have hsp : (xs ++ sp).drop (k + (str.map B8).length) = sp.drop str.length := by
        rw [← hxs, List.drop_append, List.drop_of_length_le (by omega)]; simp
      rw [htk, hsp] at hst
      refine st_run (v := .slice (adr (some b)) (k + str.length) cap) (w' := w.setRow b (xs ++ str.map B8 ++ sp.drop str.length).toArray) ?_ hd (K ⟨some b, cap, sp.drop str.length⟩ _ (hp.write hL _) ?_ ⟨fun _ => rfl, .inl rfl⟩)
      · intro n a ha o ho _
        simp only [execOp, ho, resolve, invoke, builtin, Sem.run_bind, Sem.run_pure, Result.andThen_ok, List.map_toArray, List.map_cons, List.map_nil, ha.eval hx, ha.eval hy]
        simp [Builtin.append_, run_underlying hu, run_underlying hus, sizeOf, typeInfo, hi1, hi3, hlen, hroom, hf, adr, add_at, hst]
      · simp only [List.length_append, List.length_drop, List.length_map] at hcap hfit ⊢
        omega
  · have hlt : cap < k + str.length := by omega
    have hnc := nextcap_le (k + str.length) cap hlt
    have hfit48 : Builtin.nextslicecap (k + str.length) cap * i.bytes ≤ 281474976710656 := Nat.le_trans (Nat.mul_le_mul_right _ hnc) hbd.1
    have h48' : ¬ (281474976710656 < Builtin.nextslicecap (k + str.length) cap * i.bytes) := by omega
    have h63' : ¬ (9223372036854775807 < ((k : Int) + (str.length : Int))) := by omega
    have hf := hfirst w.drew
    have ho' := hold w.drew fun _ => rfl
    rw [hi3] at ho'
    have hge := grownCap_ge w (k + str.length) cap e
    have hspl : (Builtin.zeroCells zv.cells (grownCap w (k + str.length) cap e - (k + str.length))).toList.length = grownCap w (k + str.length) cap e - (k + str.length) := by
      rw [Array.length_toList, size_zeroCells, hzs, Nat.mul_one]
    refine st_run (v := .slice (adr (some w.heap.size)) (k + str.length) (grownCap w (k + str.length) cap e))
      (w' := w.drew.alloc (.cells ((xs ++ str.map B8) ++ (Builtin.zeroCells zv.cells (grownCap w (k + str.length) cap e - (k + str.length))).toList).toArray e)) ?_ hd
      (K ⟨some w.heap.size, grownCap w (k + str.length) cap e, (Builtin.zeroCells zv.cells (grownCap w (k + str.length) cap e - (k + str.length))).toList⟩ _ (hp.new t _ e rfl rfl rfl rfl) ?_ ⟨fun h => absurd h hroom, .inr ⟨_, rfl, Nat.le_refl _⟩⟩)
    · intro n a ha o ho _
      simp only [execOp, ho, resolve, invoke, builtin, Sem.run_bind, Sem.run_pure, Result.andThen_ok, List.map_toArray, List.map_cons, List.map_nil, ha.eval hx, ha.eval hy]
      simp [Builtin.append_, run_underlying hu, run_underlying hus, sizeOf, typeInfo, zeroValue, hi1, hi2, hi3, hlen, hroom, h63', h48', Question.forced, hf, ho', newRow, grownCap, adr_some]
      congr 2
      apply Array.ext'
      simp
    · show _ = grownCap w (k + str.length) cap e
      rw [List.length_append, hspl, List.length_append, hxs, List.length_map]
      omega

/-! ### 3. Stores into rows of our own -/
theorem adr_eq {ob : Option Nat} {b o : Nat} (h : adr ob = some ⟨b, o, none⟩) : ob = some b ∧ o = 0 := by
  cases ob with
  | none => cases h
  | some c => simp [adr] at h; exact ⟨by rw [h.1], h.2.symm⟩
theorem st_storeG (t : Nat) (g : Gs) {α : Type} {bb oo off : Nat} {xs : List α} {f : α → Value} {u : α} {E : TypeId} (hadr : adr g.ob = some ⟨bb, oo, none⟩) (hp : Hp w0 S L X w) (hL : lc L t = some ⟨g.ob, xs.map f ++ g.sp, E⟩) (hx : evF F x = some (.pointer (some ⟨bb, off, none⟩))) (hy : evF F y = some (f u))
    (j : Nat) (hj : off = oo + j ∧ j < xs.length) (h1 : (f u).oneCell' = true) (hsz : (P.info? T).map (·.size) = some 1)
    (k : ∀ w', Hp w0 S ((t, ⟨g.ob, (xs.set j u).map f ++ g.sp, E⟩) :: L) X w' → St P Q n ops rest F w') : St P Q n ops (⟨none, .store T x y, ty, pos, af, none⟩ :: rest) F w := by
  obtain ⟨rfl, hj⟩ := hj
  obtain ⟨hob, rfl⟩ := adr_eq hadr
  rw [hob] at hL k
  refine st_store1 t hp hL hx hy h1 hsz (by simp; omega) fun w' hp' => k w' ?_
  rw [Nat.zero_add, List.set_append_left _ _ (by simpa using hj), ← List.map_set] at hp'
  exact hp'
theorem st_storeGN (t : Nat) (g : Gs) {α : Type} {bb oo off s : Nat} {xs : List α} {f : α → List Value} {u : α} {E : TypeId} (hf : ∀ x, (f x).length = s) (hadr : adr g.ob = some ⟨bb, oo, none⟩) (hp : Hp w0 S L X w) (hL : lc L t = some ⟨g.ob, xs.flatMap f ++ g.sp, E⟩) (hx : evF F x = some (.pointer (some ⟨bb, off, none⟩))) (hy : evF F y = some (.agg (f u).toArray))
    (j : Nat) (hj : off = oo + j * s ∧ j < xs.length) (h1 : ∀ v ∈ f u, v.oneCell' = true) (hsz : (P.info? T).map (·.size) = some s)
    (k : ∀ w', Hp w0 S ((t, ⟨g.ob, (xs.set j u).flatMap f ++ g.sp, E⟩) :: L) X w' → St P Q n ops rest F w') : St P Q n ops (⟨none, .store T x y, ty, pos, af, none⟩ :: rest) F w := by
  obtain ⟨rfl, hj⟩ := hj
  obtain ⟨hob, rfl⟩ := adr_eq hadr
  rw [hob] at hL k
  have hl := flat_len hf xs
  have hjs : j * s + s ≤ xs.length * s := by rw [← Nat.succ_mul]; exact Nat.mul_le_mul_right _ hj
  refine st_store t (new := f u) hp hL hx hy rfl (by rw [hf]; exact hsz) (by rw [List.length_append, hl, hf]; omega) h1 (cs' := (xs.set j u).flatMap f ++ g.sp) ?_ k
  rw [flat_set hf j xs u hj, hf, Nat.zero_add, List.take_append_of_le_length (by omega), List.drop_append_of_le_length (by omega)]
  simp
theorem range_many {zs : List Value} (h0 : 0 < zs.length) : ∀ c : Nat, ((List.range (c * zs.length)).map fun i => zs.toArray[i % zs.length]!) = (List.replicate c zs).flatten
  | 0 => by simp
  | c + 1 => by
    rw [List.replicate_succ', List.flatten_append, ← range_many h0 c, Nat.succ_mul]
    apply List.ext_getElem?
    intro i
    simp only [List.flatten_cons, List.flatten_nil, List.append_nil]
    rcases Nat.lt_or_ge i (c * zs.length) with h | h
    · rw [List.getElem?_append_left (by simpa using h)]
      rw [List.getElem?_map, List.getElem?_map, List.getElem?_range (by omega), List.getElem?_range h]
    · rw [List.getElem?_append_right (by simpa using h)]
      simp only [List.length_map, List.length_range]
      rcases Nat.lt_or_ge i (c * zs.length + zs.length) with h2 | h2
      · rw [List.getElem?_map, List.getElem?_range h2, List.getElem?_eq_getElem (by omega)]
        have e : i % zs.length = i - c * zs.length := by
          have : i = (i - c * zs.length) + c * zs.length := by omega
          rw [this, Nat.add_mul_mod_self_right, Nat.mod_eq_of_lt (by omega)]
          omega
        have hlt : i - c * zs.length < zs.length := by omega
        simp [e, hlt]
      · rw [List.getElem?_eq_none (by simpa using h2), List.getElem?_eq_none (by omega)]
/-- make of elements of many cells. -/
theorem st_makeN (t : Nat) {e s by_ l c : Nat} {zv : Value} {zs : List Value} {k k' : IntKind} {a b : Int} (hp : Hp w0 S L X w) (hd : Nat.blt d n = true) (hx : evF F x = some (.int k a)) (hy : evF F y = some (.int k' b)) (hu : P.underlying T = some (.slice e))
    (hi : (P.info? e).map (fun i => (i.zero, i.size, i.bytes)) = some (some zv, s, by_)) (hs : zs.length = s ∧ 0 < s) (ha : a = (l : Int) ∧ b = (c : Int) ∧ l ≤ c ∧ by_ * c ≤ 281474976710656 ∧ c ≤ 9223372036854775807) (hz : zv.cells = zs.toArray)
    (K : ∀ bl w', Hp w0 S ((t, ⟨some bl, (List.replicate c zs).flatten, e⟩) :: L) X w' → St P Q n ops rest ((d, .slice (adr (some bl)) l c) :: F) w') :
    St P Q n ops (⟨some d, .makeSlice T x y, ty, pos, af, none⟩ :: rest) F w := by
  refine st_make t (s := s) hp hd hx hy hu hi ha.1 ha.2.1 ha.2.2.1 ha.2.2.2.1 ha.2.2.2.2 hz fun bl w' hp' => K bl w' ?_
  rw [← hs.1] at hp'
  rwa [range_many (by omega)] at hp'
end

/-! ### 3b. A row of one element written out -/
theorem fill_one {s : Nat} {new : List Value} {zv v : Value} (hl : new.length = s) (hv : v.cells = new.toArray) : Instr.fill (fun i => some (i * s, s)) ((Array.range (1 * s)).map (zv.cells[· % zv.cells.size]!)) [(0, v)] = some new.toArray := by
  subst hl
  have hgen : ∀ (l : List Value) (k : Nat) (cs : Array Value), k + l.length ≤ cs.size → (l.zipIdx k).foldl (fun cs x => cs.setIfInBounds x.2 x.1) cs = (cs.toList.take k ++ l ++ cs.toList.drop (k + l.length)).toArray := by
    intro l
    induction l with
    | nil => intro k cs _; simp
    | cons v r ih =>
      intro k cs hf
      simp only [List.length_cons] at hf
      rw [List.zipIdx_cons, List.foldl_cons, ih (k + 1) _ (by simp; omega)]
      have hlt : k < cs.toList.length := by simpa using (by omega : k < cs.size)
      have hset : (cs.setIfInBounds k v).toList = cs.toList.take k ++ v :: cs.toList.drop (k + 1) := by
        rw [Array.toList_setIfInBounds, List.set_eq_take_append_cons_drop, if_pos hlt]
      rw [hset, splice_step _ _ _ _ hlt]
      simp only [List.length_cons]
  have hsz : v.cells.size = new.length := by rw [hv]; simp
  simp only [Instr.fill, Nat.zero_mul, hsz]
  simp only [Nat.zero_add, ne_eq, not_true_eq_false, decide_false, Bool.false_or]
  have h2 := hgen new 0 ((Array.range (1 * new.length)).map (zv.cells[· % zv.cells.size]!)) (by simp)
  rw [hv]
  simp only [← Array.foldl_toList, Array.toList_zipIdx]
  rw [if_neg (by simp), h2]
  simp
/-! ### 4. Readings -/
section
variable {w : World} {ao : Option Addr} {α : Type}
theorem Rd.takeM {f : α → Value} {xs : List α} (h : Rd w ao (xs.map f)) (k : Nat) : Rd w ao ((xs.take k).map f) := by rw [List.map_take]; exact h.take k
theorem Rd.takeF {f : α → List Value} {s : Nat} (hf : ∀ x, (f x).length = s) {xs : List α} (h : Rd w ao (xs.flatMap f)) (k : Nat) : Rd w ao ((xs.take k).flatMap f) := by rw [← flat_take hf]; exact h.take _
theorem Rd.dropM {f : α → Value} {xs : List α} (h : Rd w ao (xs.map f)) {cap l : Nat} (hc : xs.length ≤ cap) : Rd w (sla ao cap l 1) ((xs.drop l).map f) := by
  have := h.drop (cap := cap) (l := l) (s := 1) (len := xs.length) (by simp) hc
  rwa [Nat.mul_one, ← List.map_drop] at this
theorem Rd.dropF {f : α → List Value} {s : Nat} (hf : ∀ x, (f x).length = s) {xs : List α} (h : Rd w ao (xs.flatMap f)) {cap l : Nat} (hc : xs.length ≤ cap) : Rd w (sla ao cap l s) ((xs.drop l).flatMap f) := by
  have := h.drop (cap := cap) (l := l) (s := s) (len := xs.length) (flat_len hf xs) hc
  rwa [flat_drop hf] at this
theorem Rd.at0 {cs : List Value} (h : Rd w none cs) : cs = [] := by
  rcases h with h | ⟨_, _, h, _⟩
  · exact h
  · cases h
theorem Rd.at_adr {cs : List Value} {b o : Nat} (h : Rd w ao cs) (ha : ao = some ⟨b, o, none⟩) (hne : 0 < cs.length) : Cells w b o cs := by
  obtain ⟨b', o', e, hc⟩ := h.pos hne
  rw [ha] at e
  simp only [Option.some.injEq, Addr.mk.injEq] at e
  obtain ⟨rfl, rfl, _⟩ := e
  exact hc
theorem Rd.left {cs ds : List Value} (h : Rd w ao (cs ++ ds)) : Rd w ao cs := by
  have := h.take cs.length
  rwa [List.take_left'] at this
  rfl
end
/-! ### 4b. What is guarded by what was passed over -/
section
variable {P : Program} {Q : Exit → Act → World → Prop} {n : Nat} {F : Fr} {w : World} {ops : Array Oper} {rest : List Oper} {ty : TypeId} {pos : String} {af : Array Edge} {d : Tmp} {op : Op} {q : Act → Prop}
theorem yielded_undef {j tj : Nat} {a : Act} (ha : Knows n F a) (hj : (ops[j]?).bind (·.dst) = some tj) (hb : lk F tj = some undef) : yielded ops a.tmps j = none := by
  have := ha.get tj _ hb
  unfold yielded
  rw [hj]
  simp only [Option.bind_some]
  cases h : a.tmps[tj]? with
  | none => rfl
  | some u =>
    simp only [Array.getD_eq_getD_getElem?, h, Option.getD_some] at this
    subst this
    rfl
theorem st_offU {j tj : Nat} {c : Bool} (hj : (ops[j]?).bind (·.dst) = some tj) (hb : lk F tj = some undef) (hd : Nat.blt d n = true) (k : St P Q n ops rest ((d, undef) :: F) w) : St P Q n ops (⟨some d, op, ty, pos, af, some (j, c)⟩ :: rest) F w := by
  intro a ha
  have hy := yielded_undef ha hj hb
  unfold wpList
  rw [if_neg (by simp [Region.wanted, hy])]
  exact k _ (ha.put hd _)
theorem ss_offU {j tj : Nat} {c : Bool} (hj : (ops[j]?).bind (·.dst) = some tj) (hb : lk F tj = some undef) (hd : Nat.blt d n = true) (k : Ss P q n ops rest ((d, undef) :: F) w) : Ss P q n ops (⟨some d, op, ty, pos, af, some (j, c)⟩ :: rest) F w := by
  intro a ha
  have hy := yielded_undef ha hj hb
  unfold wpStill
  rw [if_neg (by simp [Region.wanted, hy])]
  exact k _ (ha.put hd _)
variable {Hs : World → Prop} {nd : List Nat}
theorem sp_take_offU {i j tj : Nat} {c : Bool} {p : Plan} (ho : ops[i]? = some ⟨some d, op, ty, pos, af, some (j, c)⟩) (hj : (ops[j]?).bind (·.dst) = some tj) (hb : lk F tj = some undef) (hd : Nat.blt d n = true)
    (k : Sp P Q Hs nd n ops p ((d, undef) :: F) w) : Sp P Q Hs nd n ops (.take i p) F w :=
  fun a ha => ⟨_, undef, ho, .inr ⟨by have hy := yielded_undef ha hj hb; simp [Region.wanted, hy], rfl⟩, k _ (ha.put hd undef)⟩
theorem sp_load_offU {i j tj : Nat} {c : Bool} {p : Plan} (ho : ops[i]? = some ⟨some d, op, ty, pos, af, some (j, c)⟩) (hj : (ops[j]?).bind (·.dst) = some tj) (hb : lk F tj = some undef) (hS : Hs w) (hd : Nat.blt d n = true)
    (k : Sp P Q Hs nd n ops p ((d, undef) :: F) w) : Sp P Q Hs nd n ops (.load i p) F w :=
  fun a ha => ⟨hS, _, undef, ho, .inr ⟨by have hy := yielded_undef ha hj hb; simp [Region.wanted, hy], rfl⟩, k _ (ha.put hd undef)⟩
end
/-! ### 5. What loads lean on; blocks that are forgotten; jumps -/
section
variable {w0 w w' : World} {S : List Nat} {L : Lk} {X : List Ck}
theorem Hp.hs (_h : Hp w0 S L X w) : ∃ Hs : World → Prop, ∀ w', Hs w' ↔ Hp w0 S L X w' := ⟨fun w' => Hp w0 S L X w', fun _ => Iff.rfl⟩
theorem Hp.forget (h : Hp w0 S L X w) : Hp w0 S L [] w := ⟨h.chg, h.own, h.mine, h.apart, fun _ h => (by cases h), fun _ h => (by cases h), List.nodup_nil, fun _ _ _ _ _ h => (by simp at h)⟩
theorem Hp.offs {i l : List Ck} {ts : List Nat} {ao : Option Addr} {cs : List Value} (h : Hp w0 (blks i) L X w) (hr : Rd w0 ao cs) (ho : ∀ b ∈ blks i, ∀ a : Addr, ao = some a → cs ≠ [] → a.block ≠ b) (hn : ts.Nodup) (hg : gt L ts = some l) : ∀ b ∈ blks l, ∀ a : Addr, ao = some a → cs ≠ [] → a.block ≠ b := fun b hb a e hcs => by
  obtain ⟨t, c, _, hc, hcb⟩ := (h.some_own hn hg).2.2.2 b hb
  rcases h.mine t c b hc hcb with h1 | h1
  · rcases hr with hr | ⟨c', off, e2, hcl⟩
    · exact absurd hr hcs
    · rw [e] at e2
      obtain rfl := Option.some.inj e2
      have := hcl.lt hcs
      show c' ≠ b
      omega
  · exact ho b h1 a e hcs
theorem Hp.offT {l : List Ck} {ts : List Nat} {t : Nat} {ob : Option Nat} {cs ds : List Value} {E : TypeId} (h : Hp w0 S L X w) (ht : lc L t = some ⟨ob, cs, E⟩) (hn : ts.Nodup) (hg : gt L ts = some l) (hne : t ∉ ts) : ∀ b ∈ blks l, ∀ a : Addr, adr ob = some a → ds ≠ [] → a.block ≠ b := fun b hb a e _ => by
  obtain ⟨t', c, ht', hc, hcb⟩ := (h.some_own hn hg).2.2.2 b hb
  cases ob with
  | none => cases e
  | some o =>
    obtain rfl := Option.some.inj e
    intro hob
    exact h.apart t t' _ c b ht hc (fun e => hne (e ▸ ht')) (by rw [show o = b from hob]) hcb
theorem Rd.chgL {ao : Option Addr} {cs : List Value} (h : Rd w ao cs) (hc : Chg S w w') (ho : ∀ b ∈ S, ∀ a : Addr, ao = some a → cs ≠ [] → a.block ≠ b) : Rd w' ao cs := by
  rcases h with h | ⟨b, off, e, hcl⟩
  · exact .inl h
  · by_cases hnil : cs = []
    · exact .inl hnil
    · exact .inr ⟨b, off, e, hc.cells hcl (fun hb => ho b hb _ e hnil rfl)⟩
end
section
variable {P : Program} {Q : Exit → Act → World → Prop} {n : Nat} {F : Fr} {w : World}
theorem wp_jumps {ι : Type} {c rest : Code} {a : Act} (l : Nat) (J : ι → Act → World → Prop) (μ : ι → Nat) (hf : findLabel c l = some rest)
    (first : c.wp P (Exit.jump l (fun a w => ∃ x, J x a w) Q) a w)
    (pass : ∀ x a w, J x a w → rest.wp P (Exit.jump l (fun a' w' => ∃ x', μ x' < μ x ∧ J x' a' w') Q) a w) : (Code.scope c).wp P Q a w := by
  intro b k cs
  have hg : gotoIn l (.inScope c :: k) = some (.code rest :: .inScope c :: k) := by simp [gotoIn, hf]
  have key : ∀ n x a w, μ x = n → J x a w → ∃ e a' w', Q e a' w' ∧ Arrives P (lone (b.at a (.code rest :: .inScope c :: k)) cs w) b k cs e a' w' := by
    intro n
    induction n using Nat.strongRecOn with
    | _ n ih =>
      intro x a w hn hJ
      obtain ⟨e, a₁, w₁, hq, harr⟩ := pass x a w hJ b (.inScope c :: k) cs
      cases e with
      | normal => exact ⟨.normal, a₁, w₁, hq, Steps.trans harr (.one step_inScope)⟩
      | exit id => exact ⟨.exit id, a₁, w₁, hq, fun k' hk => harr k' (by simp [exitTo, hk])⟩
      | goto l' =>
        obtain ⟨rfl, x', hlt, hJ'⟩ := hq
        obtain ⟨e₂, a₂, w₂, hq₂, harr₂⟩ := ih _ (by omega) x' a₁ w₁ rfl hJ'
        exact ⟨e₂, a₂, w₂, hq₂, .of_steps (harr _ hg) harr₂⟩
      | ret => exact ⟨_, a₁, w₁, hq, harr⟩
      | panic ch => exact ⟨_, a₁, w₁, hq, harr⟩
      | outgrown => exact ⟨_, a₁, w₁, hq, harr⟩
  obtain ⟨e, a₁, w₁, hq, harr⟩ := first b (.inScope c :: k) cs
  cases e with
  | normal => exact ⟨.normal, a₁, w₁, hq, .head step_scope (Steps.trans harr (.one step_inScope))⟩
  | exit id => exact ⟨.exit id, a₁, w₁, hq, fun k' hk => .head step_scope (harr k' (by simp [exitTo, hk]))⟩
  | goto l' =>
    obtain ⟨rfl, x', hJ'⟩ := hq
    obtain ⟨e₂, a₂, w₂, hq₂, harr₂⟩ := key _ x' a₁ w₁ rfl hJ'
    exact ⟨e₂, a₂, w₂, hq₂, .of_steps (.head step_scope (harr _ hg)) harr₂⟩
  | ret => exact ⟨_, a₁, w₁, hq, .of_steps (.one step_scope) harr⟩
  | panic ch => exact ⟨_, a₁, w₁, hq, .of_steps (.one step_scope) harr⟩
  | outgrown => exact ⟨_, a₁, w₁, hq, .of_steps (.one step_scope) harr⟩
/-- A jump's end: what holds there. -/
def Jmp {ι : Type} (n : Nat) (w0 : World) (S : List Nat) (kv : Fr) (kl : Lk) (Fv : ι → Fr → Fr) (Lv : ι → Lk → Lk) (Xv : ι → List Ck) (Ex : ι → Prop) (μ : ι → Nat) (m : Option Nat) : Act → World → Prop :=
  fun a w => ∃ x, (∀ k, m = some k → μ x < k) ∧ Knows n (Fv x kv) a ∧ Hp w0 S (Lv x kl) (Xv x) w ∧ Ex x
theorem sc_jumps {ι : Type} {w0 : World} {S : List Nat} {c tail : Code} {kv : Fr} {kl : Lk} {L0 : Lk} {X0 : List Ck} (_hp : Hp w0 S L0 X0 w) (l : Nat) (hf : findLabel c l = some (.seq .skip tail)) (Fv : ι → Fr → Fr) (Lv : ι → Lk → Lk) (Xv : ι → List Ck) (Ex : ι → Prop) (μ : ι → Nat)
    (first : (∀ x F' w, Sub (Fv x kv) F' → Hp w0 S (Lv x kl) (Xv x) w → Ex x → Sc P (Exit.jump l (Jmp n w0 S kv kl Fv Lv Xv Ex μ none) Q) n tail F' w) → Sc P (Exit.jump l (Jmp n w0 S kv kl Fv Lv Xv Ex μ none) Q) n c F w)
    (pass : ∀ x w, Hp w0 S (Lv x kl) (Xv x) w → Ex x → Sc P (Exit.jump l (Jmp n w0 S kv kl Fv Lv Xv Ex μ (some (μ x))) Q) n tail (Fv x kv) w) : Sc P Q n (.scope c) F w := fun a ha => by
  have weak : ∀ (c : Code) (J J' : Act → World → Prop) a w, (∀ a w, J a w → J' a w) → c.wp P (Exit.jump l J Q) a w → c.wp P (Exit.jump l J' Q) a w := fun c J J' a w hJ h => wp_mono h fun e a w h => by
    cases e with
    | goto l' => exact ⟨h.1, hJ a w h.2⟩
    | _ => exact h
  have first' := first fun x F' w hs hp hx a ha => weak _ _ _ _ _ (by rintro a w ⟨x, _, h⟩; exact ⟨x, fun k hk => (by cases hk), h⟩) (pass x w hp hx a (ha.sub hs))
  refine wp_jumps l (fun x a w => Knows n (Fv x kv) a ∧ Hp w0 S (Lv x kl) (Xv x) w ∧ Ex x) μ hf (weak _ _ _ _ _ ?_ (first' a ha)) fun x a w hJ => wp_seq (wp_skip (weak tail _ _ _ _ ?_ (pass x w hJ.2.1 hJ.2.2 a hJ.1)))
  · rintro a w ⟨x, _, h⟩; exact ⟨x, h⟩
  · rintro a w ⟨x', hlt, h⟩; exact ⟨x', hlt _ rfl, h⟩
theorem sc_scope {c : Code} (h : Sc P (Exit.noGoto Q) n c F w) : Sc P Q n (.scope c) F w := fun a ha => wp_scope_straight (h a ha)
theorem pr_ng (h : Pr Q n F w) : Pr (Exit.noGoto Q) n F w := h
theorem pn_ng (h : Pn Q n F w) : Pn (Exit.noGoto Q) n F w := h
theorem calm_ng (h : Calm Q) : Calm (Exit.noGoto Q) := fun c a d v w hq => h c a d v w hq
theorem sc_goto {l : Nat} (h : Pg Q n l F w) : Sc P Q n (.goto l) F w := fun a ha => wp_goto (h a ha)
theorem pg_then {l : Nat} {K : Act → World → Prop} (h : Pg Q n l F w) : Pg (Exit.then K Q) n l F w := h
theorem pg_block {l id : Nat} (h : Pg Q n l F w) : Pg (Exit.inBlock id Q) n l F w := h
theorem pg_here {ι : Type} {w0 : World} {S : List Nat} {L : Lk} {X : List Ck} {kv : Fr} {kl : Lk} {l : Nat} {Fv : ι → Fr → Fr} {Lv : ι → Lk → Lk} {Xv : ι → List Ck} {Ex : ι → Prop} {μ : ι → Nat} {m : Option Nat} (x : ι)
    (hp : Hp w0 S L X w) (hF : Sub (Fv x kv) F) (hlt : ∀ k, m = some k → μ x < k) (hL : LSub (Lv x kl) L) (hX : Xv x = X) (h0 : Ex x) : Pg (Exit.jump l (Jmp n w0 S kv kl Fv Lv Xv Ex μ m) Q) n l F w := fun _ ha => ⟨rfl, x, hlt, ha.sub hF, hX ▸ hp.sub hL, h0⟩
theorem pr_jump {l : Nat} {J : Act → World → Prop} (h : Pr Q n F w) : Pr (Exit.jump l J Q) n F w := h
theorem pn_jump {l : Nat} {J : Act → World → Prop} (h : Pn Q n F w) : Pn (Exit.jump l J Q) n F w := h
theorem calm_jump {l : Nat} {J : Act → World → Prop} (h : Calm Q) : Calm (Exit.jump l J Q) := fun c a d v w hq => h c a d v w hq
end
end Go.Proofs.YtjdolgfhcjnniaaDoor
