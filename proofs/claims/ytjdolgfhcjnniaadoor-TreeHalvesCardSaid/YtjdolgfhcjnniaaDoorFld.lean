/-
  Fields: a field's address, a field of a value.
-/
import Derived.Test.YtjdolgfhcjnniaaDoorStr
namespace Go.Proofs.YtjdolgfhcjnniaaDoor
open Go Go.RowKit
def agd : TypeDesc → Bool
  | .struct _ | .array _ _ => true
  | _ => false
section
variable {P : Program} {F : Fr} {w : World} {ty t : TypeId} {x : Operand}
theorem run_agd {d : TypeDesc} (hu : P.underlying t = some d) : (isAgg t).run P w = .ok (agd d) w := by
  simp only [isAgg, underlying, Sem.run_bind, program, Sem.run, hu, Sem.run_pure, Result.andThen_ok]
  cases d <;> simp_all [agd]
/-- A field's address. -/
theorem ov_field {bl o i s q : Nat} {fs : Array Field} {f : Field} (hx : evF F x = some (.pointer (some ⟨bl, o, none⟩))) (hu : P.underlying t = some (.struct fs)) (hf : fs[i]? = some f)
    (hs : (P.info? f.type).map (·.size) = some (s + 1)) (hq : o + f.offset = q) : OpV P F w (.fieldAddr t x i) ty (.pointer (some ⟨bl, q, none⟩)) := by
  intro n ac ha oo ho _
  cases hi : P.info? f.type with
  | none => simp [hi] at hs
  | some g =>
    have hs' : g.size = s + 1 := by simpa [hi] using hs
    simp [execOp, ho, ha.eval hx, Instr.fieldAt, underlying, hu, hf, Instr.sureAddr, fieldPlace, sizeOf, typeInfo, hi, hs', add_at, hq]
/-- A field of one cell, of a value. -/
theorem ov_fieldV {cs : List Value} {i : Nat} {fs : Array Field} {f : Field} {d : TypeDesc} {v : Value} (hx : evF F x = some (.agg cs.toArray)) (hu : P.underlying t = some (.struct fs)) (hf : fs[i]? = some f)
    (hd : P.underlying f.type = some d) (hn : agd d = false) (hv : cs[f.offset]? = some v) : OpV P F w (.field t x i) ty v := by
  intro n ac ha oo ho _
  simp [execOp, ho, ha.eval hx, Instr.field, underlying, hu, hf, part, asAgg, run_agd hd, hn, hv]
/-- A field of many cells, of a value. -/
theorem ov_fieldN {cs ds : List Value} {i s : Nat} {fs : Array Field} {f : Field} {d : TypeDesc} (hx : evF F x = some (.agg cs.toArray)) (hu : P.underlying t = some (.struct fs)) (hf : fs[i]? = some f)
    (hd : P.underlying f.type = some d) (hn : agd d = true) (hs : (P.info? f.type).map (·.size) = some s) (hv : (cs.drop f.offset).take s = ds) : OpV P F w (.field t x i) ty (.agg ds.toArray) := by
  intro n ac ha oo ho _
  cases hi : P.info? f.type with
  | none => simp [hi] at hs
  | some g =>
    have hs' : g.size = s := by simpa [hi] using hs
    simp [execOp, ho, ha.eval hx, Instr.field, underlying, hu, hf, part, asAgg, run_agd hd, hn, sizeOf, typeInfo, hi, hs', hv]

variable {t' : TypeId} {y : Operand} {k k' : IntKind}
/-- The address of a slice's element, the slice's address being known. -/
theorem ov_indexR {ao : Option Addr} {bl o len cap e s : Nat} {a : Int} (hao : ao = some ⟨bl, o, none⟩) (hx : evF F x = some (.slice ao len cap)) (hy : evF F y = some (.int k a)) (hu : P.underlying t = some (.slice e)) (hs : (P.info? e).map (·.size) = some s)
    (hb : 0 ≤ a ∧ a < len) : OpV P F w (.indexAddr t x y) ty (.pointer (some ⟨bl, o + a.toNat * s, none⟩)) := ov_indexS (hao ▸ hx) hy hu hs hb

/-! Arithmetic of numbers that are not negative. -/
theorem wrap_u64n {n : Nat} (h : n < 18446744073709551616) : IntKind.u64.wrap (n : Int) = (n : Int) := by rw [wrap_u64]; omega
theorem ov_conv_i64_u64 {n : Nat} (hu : P.underlying t = some (.int .i64)) (hu2 : P.underlying t' = some (.int .u64)) (hx : evF F x = some (.int .i64 (n : Int))) (h : n < 18446744073709551616) : OpV P F w (.convert t t' x) ty (.int .u64 (n : Int)) := by
  have := @ov_conv P F w ty t t' x .u64 .i64 _ hu hu2 hx
  rwa [wrap_u64n h] at this
theorem ov_mul_u64n {a b c : Nat} (hx : evF F x = some (.int .u64 (a : Int))) (hy : evF F y = some (.int .u64 (b : Int))) (h : a * b = c ∧ c < 18446744073709551616) : OpV P F w (.binOp .mul t x y t') ty (.int .u64 (c : Int)) := by
  have := @ov_mul P F w ty t t' x y .u64 _ _ hx hy
  rw [show (a : Int) * (b : Int) = (c : Int) by rw [← h.1]; simp, wrap_u64n h.2] at this
  exact this
theorem ov_shr_n {a s : Nat} {b : Int} (hx : evF F x = some (.int k (a : Int))) (hy : evF F y = some (.int k' b)) (h : b = (s : Int) ∧ s ≤ k.bits) : OpV P F w (.binOp .shr t x y t') ty (.int k ((a >>> s : Nat) : Int)) := by
  obtain ⟨rfl, h⟩ := h
  have := @ov_shr P F w ty t t' x y k k' _ _ hx hy (by omega)
  rw [Int.toNat_natCast, Nat.min_eq_left h] at this
  have e : ((a : Int).fdiv (2 ^ s)) = ((a >>> s : Nat) : Int) := by
    rw [Nat.shiftRight_eq_div_pow, Int.fdiv_eq_ediv_of_nonneg _ (by exact Int.le_of_lt (Int.pow_pos (by omega)))]
    simp
  rwa [e] at this
theorem ov_conv_u64_u8 {a : Nat} (hu : P.underlying t = some (.int .u64)) (hu2 : P.underlying t' = some (.int .u8)) (hx : evF F x = some (.int .u64 (a : Int))) : OpV P F w (.convert t t' x) ty (B8 (UInt8.ofNat a)) := by
  have := @ov_conv P F w ty t t' x .u8 .u64 _ hu hu2 hx
  rw [wrap_u8] at this
  have e : (a : Int) % 256 = ((UInt8.ofNat a).toNat : Int) := by rw [UInt8.toNat_ofNat']; omega
  rwa [e] at this
theorem ov_conv_u32_u8 {a : Nat} (hu : P.underlying t = some (.int .u32)) (hu2 : P.underlying t' = some (.int .u8)) (hx : evF F x = some (.int .u32 (a : Int))) : OpV P F w (.convert t t' x) ty (B8 (UInt8.ofNat a)) := by
  have := @ov_conv P F w ty t t' x .u8 .u32 _ hu hu2 hx
  rw [wrap_u8] at this
  have e : (a : Int) % 256 = ((UInt8.ofNat a).toNat : Int) := by rw [UInt8.toNat_ofNat']; omega
  rwa [e] at this
theorem ov_rem_n {a b : Nat} (hx : evF F x = some (.int k (a : Int))) (hy : evF F y = some (.int k (b : Int))) (h : 0 < b) : OpV P F w (.binOp .rem t x y t') ty (.int k ((a % b : Nat) : Int)) := by
  have := @ov_rem P F w ty t t' x y k _ _ hx hy (by omega)
  rw [Int.tmod_eq_emod_of_nonneg (by omega)] at this
  exact this
theorem ov_quo_u8n {a b : Nat} (hx : evF F x = some (.int .u8 (a : Int))) (hy : evF F y = some (.int .u8 (b : Int))) (h : 0 < b ∧ a < 256) : OpV P F w (.binOp .quo t x y t') ty (.int .u8 ((a / b : Nat) : Int)) := by
  have := @ov_quo P F w ty t t' x y .u8 _ _ hx hy (by omega)
  rw [Int.tdiv_eq_ediv_of_nonneg (by omega), wrap_u8] at this
  have hle := Nat.div_le_self a b
  have e : (a : Int) / (b : Int) = ((a / b : Nat) : Int) := by simp
  have key : ∀ q : Nat, q < 256 → ((q : Nat) : Int) % 256 = (q : Int) := fun q hq => by omega
  rwa [e, key _ (Nat.lt_of_le_of_lt hle h.2)] at this
theorem bv8 (p : UInt8) : BitVec.ofInt IntKind.u8.bits (p.toNat : Int) = p.toBitVec := by
  apply BitVec.eq_of_toNat_eq
  show (BitVec.ofInt 8 (p.toNat : Int)).toNat = p.toNat
  rw [BitVec.toNat_ofInt]
  have := p.toNat_lt
  omega
theorem nat8 (v : BitVec 8) : IntKind.u8.wrap (v.toNat : Int) = (v.toNat : Int) := by
  rw [wrap_u8]; have := v.isLt; omega
theorem ov_and_u8 {p q : UInt8} (hx : evF F x = some (B8 p)) (hy : evF F y = some (B8 q)) : OpV P F w (.binOp .and t x y t') ty (B8 (p &&& q)) := by
  have := @ov_and P F w ty t t' x y .u8 _ _ hx hy
  rw [bv8, bv8] at this
  unfold B8
  rw [← show _ = ((p &&& q).toNat : Int) from nat8 (p.toBitVec &&& q.toBitVec)]
  exact this
theorem ov_add_u8 {p q : UInt8} (hx : evF F x = some (B8 p)) (hy : evF F y = some (B8 q)) : OpV P F w (.binOp .add t x y t') ty (B8 (p + q)) := by
  have := @ov_add P F w ty t t' x y .u8 _ _ hx hy
  rw [wrap_u8] at this
  have e : ((p.toNat : Int) + (q.toNat : Int)) % 256 = ((p + q).toNat : Int) := by rw [UInt8.toNat_add]; omega
  rwa [e] at this
theorem ov_mul_u8 {p q : UInt8} (hx : evF F x = some (B8 p)) (hy : evF F y = some (B8 q)) : OpV P F w (.binOp .mul t x y t') ty (B8 (p * q)) := by
  have := @ov_mul P F w ty t t' x y .u8 _ _ hx hy
  rw [wrap_u8] at this
  have e : ((p.toNat : Int) * (q.toNat : Int)) % 256 = ((p * q).toNat : Int) := by rw [UInt8.toNat_mul, ← Int.natCast_mul]; omega
  rwa [e] at this
theorem ov_sub_u8 {p q : UInt8} (hx : evF F x = some (B8 p)) (hy : evF F y = some (B8 q)) : OpV P F w (.binOp .sub t x y t') ty (B8 (p - q)) := by
  have := @ov_sub P F w ty t t' x y .u8 _ _ hx hy
  rw [wrap_u8] at this
  have hp := p.toNat_lt
  have hq := q.toNat_lt
  have e : ((p.toNat : Int) - (q.toNat : Int)) % 256 = ((p - q).toNat : Int) := by rw [UInt8.toNat_sub]; omega
  rwa [e] at this
end
end Go.Proofs.YtjdolgfhcjnniaaDoor
