/-
  Copies, strings, and what is cleared.
-/
import Derived.Test.YtjdolgfhcjnniaaDoorMem
import Derived.Laws.BytesArg
namespace Go.Proofs.YtjdolgfhcjnniaaDoor
open Go Go.RowKit

section
variable {P : Program} {Q : Exit → Act → World → Prop} {n : Nat} {F : Fr} {w w0 : World} {ops : Array Oper} {rest : List Oper} {ty : TypeId} {pos : String} {af : Array Edge} {d : Tmp}
variable {S : List Nat} {L : Lk} {X : List Ck} {T t t' : TypeId} {x y z : Operand}

/-! ### 1. copy, clear -/
theorem run_first {s m c2 : Nat} {bo : Option Addr} {news : List Value} (hnews : Rd w bo news) (hm : news.length = m * s) (hs0 : 0 < s) (len : Nat) : (Builtin.firstCells s m (.slice bo len c2)).run P w = .ok news.toArray w := by
  rcases hnews with rfl | ⟨b, off, rfl, hc⟩
  · have : m = 0 := by
      rcases Nat.eq_zero_or_pos m with h | h
      · exact h
      · have := Nat.mul_pos h hs0; simp at hm; omega
    subst this
    cases bo with
    | none => simp [Builtin.firstCells]
    | some ad => exact run_firstCells_some w s 0 ad len c2 [] (by simp) (by simp)
  · exact run_firstCells_some w s m _ len c2 news hm (cells_add hc)
theorem st_copy (tg : Nat) {e : TypeId} {b off dl dc sl sc m : Nat} {ao bo : Option Addr} {cs cs' news : List Value} {E : TypeId} {ats : Array TypeId} {n' : Int} (hp : Hp w0 S L X w) (hd : Nat.blt d n = true) (hL : lc L tg = some ⟨some b, cs, E⟩)
    (hx : evF F x = some (.slice ao dl dc)) (hy : evF F y = some (.slice bo sl sc)) (hat : ats = #[t, t']) (hu : P.underlying t = some (.slice e)) (hs : (P.info? e).map (·.size) = some 1)
    (hm : m = min sl dl) (hao : 0 < m → ao = some ⟨b, off, none⟩) (hnews : Rd w bo news) (hnl : news.length = m) (h1 : ∀ u ∈ news, u.oneCell' = true) (hfit : off + m ≤ cs.length) (hcs : cs' = cs.take off ++ news ++ cs.drop (off + m)) (hn' : n' = (m : Int))
    (K : ∀ w', Hp w0 S ((tg, ⟨some b, cs', E⟩) :: L) X w' → St P Q n ops rest ((d, .int .i64 n') :: F) w') :
    St P Q n ops (⟨some d, .call { callee := .builtin .copy, args := #[x, y], argTypes := ats }, ty, pos, af, none⟩ :: rest) F w := by
  subst hat hcs hn'
  have hb := (hp.own tg _ hL).heap rfl
  cases hq : P.info? e with
  | none => simp [hq] at hs
  | some i =>
    have hi : i.size = 1 := by simpa [hq] using hs
    have hf := run_first (P := P) (w := w) (s := 1) (m := m) (c2 := sc) hnews (by omega) (by omega) sl
    refine st_run (v := .int .i64 (m : Int)) (w' := w.setRow b (cs.take off ++ news ++ cs.drop (off + m)).toArray) ?_ hd (K _ (hp.write hL _))
    intro n a ha o ho _
    simp only [execOp, ho, resolve, invoke, builtin, Sem.run_bind, Sem.run_pure, Result.andThen_ok, List.map_toArray, List.map_cons, List.map_nil, ha.eval hx, ha.eval hy]
    have hmin : Nat.min sl dl = m := hm.symm
    rcases Nat.eq_zero_or_pos m with h0 | h0
    · subst h0
      have : news = [] := by simpa using hnl
      subst this
      have hsame : (w.setRow b (cs.take off ++ [] ++ cs.drop (off + 0)).toArray) = w := by
        simp only [List.append_nil, Nat.add_zero, List.take_append_drop]
        exact setRow_self w b cs.toArray E (0, 0) hb
      rw [hsame]
      cases ao with
      | none => simp [Builtin.copy_, run_underlying hu, Builtin.lenOf, sizeOf, typeInfo, hq, hi, hmin, hf, goInt]
      | some ad => simp [Builtin.copy_, run_underlying hu, Builtin.lenOf, sizeOf, typeInfo, hq, hi, hmin, hf, goInt, storeCells]
    · obtain rfl := hao h0
      have hst := run_storeCells_at (P := P) b off E news 0 cs.toArray w hb (by simpa [hnl] using hfit) h1
      simp only [Nat.add_zero] at hst
      rw [hnl] at hst
      simp [Builtin.copy_, run_underlying hu, Builtin.lenOf, sizeOf, typeInfo, hq, hi, hmin, hf, goInt, hst]
/-- 'clear' of a piece of an array of bytes of our own. -/
theorem st_clear (tg : Nat) {e : TypeId} {b off m dc : Nat} {ao : Option Addr} {cs cs' : List Value} {E : TypeId} {ats : Array TypeId} {zv : Value} (hp : Hp w0 S L X w) (hL : lc L tg = some ⟨some b, cs, E⟩)
    (hx : evF F x = some (.slice ao m dc)) (hat : ats = #[t]) (hu : P.underlying t = some (.slice e)) (hz : (P.info? e).bind (·.zero) = some zv) (hz1 : zv.cells = #[zv]) (hz2 : zv.oneCell' = true)
    (hao : 0 < m → ao = some ⟨b, off, none⟩) (hfit : off + m ≤ cs.length) (hcs : cs' = cs.take off ++ List.replicate m zv ++ cs.drop (off + m))
    (K : ∀ w', Hp w0 S ((tg, ⟨some b, cs', E⟩) :: L) X w' → St P Q n ops rest ((d, .tuple #[]) :: F) w') (hd : Nat.blt d n = true) :
    St P Q n ops (⟨some d, .call { callee := .builtin .clear, args := #[x], argTypes := ats }, ty, pos, af, none⟩ :: rest) F w := by
  subst hat hcs
  have hb := (hp.own tg _ hL).heap rfl
  cases hq : P.info? e with
  | none => simp [hq] at hz
  | some i =>
    have hi : i.zero = some zv := by simpa [hq] using hz
    refine st_run (v := .tuple #[]) (w' := w.setRow b (cs.take off ++ List.replicate m zv ++ cs.drop (off + m)).toArray) ?_ hd (K _ (hp.write hL _))
    intro n a ha o ho _
    simp only [execOp, ho, resolve, invoke, builtin, Sem.run_bind, Sem.run_pure, Result.andThen_ok, List.map_toArray, List.map_cons, List.map_nil, ha.eval hx]
    rcases Nat.eq_zero_or_pos m with h0 | h0
    · subst h0
      have hsame : (w.setRow b (cs.take off ++ List.replicate 0 zv ++ cs.drop (off + 0)).toArray) = w := by
        simp only [List.replicate_zero, List.append_nil, Nat.add_zero, List.take_append_drop]
        exact setRow_self w b cs.toArray E (0, 0) hb
      rw [hsame]
      cases ao <;> simp [Builtin.clear_, run_underlying hu]
    · obtain rfl := hao h0
      have hzc : (Builtin.zeroCells zv.cells m).toList = List.replicate m zv := by
        rw [hz1]
        apply List.ext_getElem
        · simp [Builtin.zeroCells]
        · intro j h1 h2
          simp [Builtin.zeroCells, Nat.mod_one]
      have hst := run_storeCells_at (P := P) b off E (List.replicate m zv) 0 cs.toArray w hb (by simpa using hfit) (fun u hu => by rw [(List.mem_replicate.1 hu).2]; exact hz2)
      simp only [Nat.add_zero, List.length_replicate] at hst
      obtain ⟨m', rfl⟩ : ∃ m', m = m' + 1 := ⟨m - 1, by omega⟩
      simp [Builtin.clear_, run_underlying hu, zeroValue, typeInfo, hq, hi, hzc, hst]

theorem st_clear_ (tg : Nat) {e : TypeId} {b off m dc : Nat} {ao : Option Addr} {cs cs' : List Value} {E : TypeId} {ats : Array TypeId} {zv : Value} (hp : Hp w0 S L X w) (hL : lc L tg = some ⟨some b, cs, E⟩)
    (hx : evF F x = some (.slice ao m dc)) (hat : ats = #[t]) (hu : P.underlying t = some (.slice e)) (hz : (P.info? e).bind (·.zero) = some zv) (hz1 : zv.cells = #[zv]) (hz2 : zv.oneCell' = true)
    (hao : 0 < m → ao = some ⟨b, off, none⟩) (hfit : off + m ≤ cs.length) (hcs : cs' = cs.take off ++ List.replicate m zv ++ cs.drop (off + m))
    (K : ∀ w', Hp w0 S ((tg, ⟨some b, cs', E⟩) :: L) X w' → St P Q n ops rest F w') :
    St P Q n ops (⟨none, .call { callee := .builtin .clear, args := #[x], argTypes := ats }, ty, pos, af, none⟩ :: rest) F w := by
  subst hat hcs
  have hb := (hp.own tg _ hL).heap rfl
  cases hq : P.info? e with
  | none => simp [hq] at hz
  | some i =>
    have hi : i.zero = some zv := by simpa [hq] using hz
    refine st_run_ (v := .tuple #[]) (w' := w.setRow b (cs.take off ++ List.replicate m zv ++ cs.drop (off + m)).toArray) ?_ (K _ (hp.write hL _))
    intro n a ha o ho _
    simp only [execOp, ho, resolve, invoke, builtin, Sem.run_bind, Sem.run_pure, Result.andThen_ok, List.map_toArray, List.map_cons, List.map_nil, ha.eval hx]
    rcases Nat.eq_zero_or_pos m with h0 | h0
    · subst h0
      have hsame : (w.setRow b (cs.take off ++ List.replicate 0 zv ++ cs.drop (off + 0)).toArray) = w := by
        simp only [List.replicate_zero, List.append_nil, Nat.add_zero, List.take_append_drop]
        exact setRow_self w b cs.toArray E (0, 0) hb
      rw [hsame]
      cases ao <;> simp [Builtin.clear_, run_underlying hu]
    · obtain rfl := hao h0
      have hzc : (Builtin.zeroCells zv.cells m).toList = List.replicate m zv := by
        rw [hz1]
        apply List.ext_getElem
        · simp [Builtin.zeroCells]
        · intro j h1 h2
          simp [Builtin.zeroCells, Nat.mod_one]
      have hst := run_storeCells_at (P := P) b off E (List.replicate m zv) 0 cs.toArray w hb (by simpa using hfit) (fun u hu => by rw [(List.mem_replicate.1 hu).2]; exact hz2)
      simp only [Nat.add_zero, List.length_replicate] at hst
      obtain ⟨m', rfl⟩ : ∃ m', m = m' + 1 := ⟨m - 1, by omega⟩
      simp [Builtin.clear_, run_underlying hu, zeroValue, typeInfo, hq, hi, hzc, hst]

/-! ### 2. strings -/
abbrev vS (l : List UInt8) : Value := .string ⟨l.toArray⟩
theorem ov_lenS {s : List UInt8} (hx : evF F x = some (vS s)) (hu : P.underlying t = some .string) {ats : Array TypeId} (hat : ats = #[t]) : OpV P F w (.call { callee := .builtin .len, args := #[x], argTypes := ats }) ty (.int .i64 (s.length : Int)) := by
  subst hat
  intro n ac ha oo ho _
  have : (⟨s.toArray⟩ : ByteArray).size = s.length := by simp [ByteArray.size]
  simp [execOp, ho, resolve, invoke, ha.eval hx, builtin, Builtin.len_, underlying, hu, goInt, this]
theorem ov_indexStr {s : List UInt8} {k : IntKind} {a : Int} (hx : evF F x = some (vS s)) (hy : evF F y = some (.int k a)) (hu : P.underlying t = some .string) (hb : 0 ≤ a ∧ a < s.length) : OpV P F w (.index t x y) ty (B8 (s.getD a.toNat 0)) := by
  intro n ac ha oo ho _
  have hsz : (⟨s.toArray⟩ : ByteArray).size = s.length := by simp [ByteArray.size]
  have hlt : a.toNat < s.length := by omega
  have hidx : ((⟨s.toArray⟩ : ByteArray)[a.toNat]'(by rw [hsz]; exact hlt)) = s.getD a.toNat 0 := by
    show s.toArray[a.toNat] = _
    simp [hlt]
  simp only [execOp, ho, ha.eval hx, ha.eval hy, Sem.run_bind, run_index_string w t _ k a hu]
  rw [dif_pos ⟨hb.1, by rw [hsz]; exact hb.2⟩]
  simp only [Result.andThen_ok, Sem.run_pure, hidx]
theorem ov_convBS {ao : Option Addr} {c e : TypeId} {bs : List UInt8} {l : Nat} (hu : P.underlying t = some (.slice e)) (he : P.underlying e = some (.int .u8)) (hu2 : P.underlying t' = some .string) (hx : evF F x = some (.slice ao l c)) (hr : Rd w ao (bs.map B8)) (hl : bs.length = l) : OpV P F w (.convert t t' x) ty (vS bs) := by
  intro n ac ha oo ho _
  have hrun : (convert t t' (.slice ao l c)).run P w = .ok (vS bs) w := by
    have key : ∀ b off, Cells w b off (bs.map B8) → (convert t t' (.slice (some ⟨b, off, none⟩) l c)).run P w = .ok (vS bs) w := fun b off hc => by
      have := run_convert_bytes_arg (P := P) w t e hu he b off l c (bs.map fun b => (b.toNat : Int)) (by simpa using hl) (fun i hi => by
        rw [hc.elem i rfl (by omega) 0]
        simp [List.getD_eq_getElem?_getD, List.getElem?_map, List.getElem?_eq_getElem (show i < bs.length by omega)]) t' hu2
      rw [this]
      have e1 : strOfNums (bs.map fun b => (b.toNat : Int)) = ⟨bs.toArray⟩ := by
        unfold strOfNums
        congr 2
        rw [List.map_map]
        conv => rhs; rw [← List.map_id bs]
        apply List.map_congr_left
        intro b _
        simp
      rw [e1]
    rcases hr with hnil | ⟨b, off, rfl, hc⟩
    · have hb0 : bs = [] := by simpa using hnil
      subst hb0
      have hl0 : l = 0 := by simpa using hl.symm
      subst hl0
      cases ao with
      | none => exact run_convert_bytes_nil w t e hu he 0 c t' hu2
      | some ad =>
        have := run_convert_bytes_string (P := P) w t t' e (some ad) 0 c hu he hu2
        rw [this, run_bytesToString w ad 0 c [] (by simp [loadCells, loadCellsFrom])]
        rfl
    · exact key b off hc
  simp [execOp, ho, ha.eval hx, hrun]
theorem ov_eqlStr {a b : List UInt8} (hx : evF F x = some (vS a)) (hy : evF F y = some (vS b)) : OpV P F w (.binOp .eql t x y t') ty (.bool (decide (a = b))) := by
  intro n ac ha oo ho _
  have e1 : (a == b) = decide (a = b) := by by_cases h : a = b <;> simp [h]
  have h := binOp_string_eql t ⟨a.toArray⟩ ⟨b.toArray⟩
  rw [ByteArray.toList_mk, ByteArray.toList_mk, e1] at h
  simp [execOp, ho, ha.eval hx, ha.eval hy, eqGuard, vS, h]
theorem ov_neqStr {a b : List UInt8} (hx : evF F x = some (vS a)) (hy : evF F y = some (vS b)) : OpV P F w (.binOp .neq t x y t') ty (.bool (decide (a ≠ b))) := by
  intro n ac ha oo ho _
  have e1 : (a == b) = decide (a = b) := by by_cases h : a = b <;> simp [h]
  have h := binOp_string_neq t ⟨a.toArray⟩ ⟨b.toArray⟩
  rw [ByteArray.toList_mk, ByteArray.toList_mk, e1] at h
  simp [execOp, ho, ha.eval hx, ha.eval hy, eqGuard, vS, h]
end
end Go.Proofs.YtjdolgfhcjnniaaDoor
