/-
  Fields: a field's address, a field of a value.
-/
import Derived.Test.YtcpbfnbfbladoaaStr
namespace Go.Proofs.Ytcpbfnbfbladoaa
open Go Go.RowKit
def agd : TypeDesc → Bool
  | .struct _ | .array _ _ => true
  | _ => false
section
variable {P : Program} {F : Fr} {w : World} {ty t : TypeId} {x : Operand}
theorem run_agd {d : TypeDesc} (hu : P.underlying t = some d) : (isAgg t).run P w = .ok (agd d) w := by
  simp only [isAgg, underlying, Sem.run_bind, program, Sem.run, hu, Sem.run_pure, Result.andThen_ok]
  cases d <;> simp_all [agd]
/-- A field's address. -/
theorem ov_field {bl o i s q : Nat} {fs : Array Field} {f : Field} (hx : evF F x = some (.pointer (some ⟨bl, o, none⟩))) (hu : P.underlying t = some (.struct fs)) (hf : fs[i]? = some f)
    (hs : (P.info? f.type).map (·.size) = some (s + 1)) (hq : o + f.offset = q) : OpV P F w (.fieldAddr t x i) ty (.pointer (some ⟨bl, q, none⟩)) := by
  intro n ac ha oo ho _
  cases hi : P.info? f.type with
  | none => simp [hi] at hs
  | some g =>
    have hs' : g.size = s + 1 := by simpa [hi] using hs
    simp [execOp, ho, ha.eval hx, Instr.fieldAt, underlying, hu, hf, Instr.sureAddr, fieldPlace, sizeOf, typeInfo, hi, hs', add_at, hq]
/-- A field of one cell, of a value. -/
theorem ov_fieldV {cs : List Value} {i : Nat} {fs : Array Field} {f : Field} {d : TypeDesc} {v : Value} (hx : evF F x = some (.agg cs.toArray)) (hu : P.underlying t = some (.struct fs)) (hf : fs[i]? = some f)
    (hd : P.underlying f.type = some d) (hn : agd d = false) (hv : cs[f.offset]? = some v) : OpV P F w (.field t x i) ty v := by
  intro n ac ha oo ho _
  simp [execOp, ho, ha.eval hx, Instr.field, underlying, hu, hf, part, asAgg, run_agd hd, hn, hv]
/-- A field of many cells, of a value. -/
theorem ov_fieldN {cs ds : List Value} {i s : Nat} {fs : Array Field} {f : Field} {d : TypeDesc} (hx : evF F x = some (.agg cs.toArray)) (hu : P.underlying t = some (.struct fs)) (hf : fs[i]? = some f)
    (hd : P.underlying f.type = some d) (hn : agd d = true) (hs : (P.info? f.type).map (·.size) = some s) (hv : (cs.drop f.offset).take s = ds) : OpV P F w (.field t x i) ty (.agg ds.toArray) := by
  intro n ac ha oo ho _
  cases hi : P.info? f.type with
  | none => simp [hi] at hs
  | some g =>
    have hs' : g.size = s := by simpa [hi] using hs
    simp [execOp, ho, ha.eval hx, Instr.field, underlying, hu, hf, part, asAgg, run_agd hd, hn, sizeOf, typeInfo, hi, hs', hv]
end
end Go.Proofs.Ytcpbfnbfbladoaa
