/-
  One law for each operation of this seat's walks: what it yields, over a frame that is known in part.
-/
import Derived.Test.YtjdolgfhcjnniaaDoorHeap
namespace Go.Proofs.YtjdolgfhcjnniaaDoor
open Go Go.RowKit

/-- In the world w the operation yields v and turns nothing. -/
def OpV (P : Program) (F : Fr) (w : World) (op : Op) (ty : TypeId) (v : Value) : Prop :=
  ∀ n a, Knows n F a → ∀ o : Oper, o.op = op → o.type = ty → (execOp a.eval o).run P w = .ok (.value v) w

abbrev B8 (x : UInt8) : Value := .int .u8 (x.toNat : Int)
abbrev B32 (x : UInt32) : Value := .int .u32 (x.toNat : Int)
abbrev B64 (x : UInt64) : Value := .int .u64 (x.toNat : Int)

section
variable {P : Program} {Q Q' : Exit → Act → World → Prop} {n : Nat} {F : Fr} {w : World} {ops : Array Oper} {rest : List Oper} {ty : TypeId} {pos : String} {af : Array Edge} {d : Tmp} {op : Op} {v : Value}

/-! ### 1. From an operation to a region -/
theorem st_nil (h : Pn Q n F w) : St P Q n ops [] F w := h
theorem st_v (h : OpV P F w op ty v) (hd : Nat.blt d n = true) (k : St P Q n ops rest ((d, v) :: F) w) : St P Q n ops (⟨some d, op, ty, pos, af, none⟩ :: rest) F w := by
  intro a ha
  refine wpList_plain rfl fun K hK => ?_
  unfold Oper.wp
  rw [h n a ha _ rfl rfl, Oper.upon_value]
  exact hK _ _ (k _ (ha.put hd v))
theorem st_v_ {g : Option (Nat × Bool)} (h : OpV P F w op ty v) (hg : g = none) (k : St P Q n ops rest F w) : St P Q n ops (⟨none, op, ty, pos, af, g⟩ :: rest) F w := by
  intro a ha
  refine wpList_plain hg fun K hK => ?_
  unfold Oper.wp
  rw [h n a ha _ rfl rfl, Oper.upon_value]
  exact hK _ _ (k _ ha)

theorem yielded_of {j tj : Nat} {b : Bool} {a : Act} (ha : Knows n F a) (hj : (ops[j]?).bind (·.dst) = some tj) (hb : lk F tj = some (.bool b)) : yielded ops a.tmps j = some b := by
  have := ha.get tj _ hb
  unfold yielded
  rw [hj]
  simp only [Option.bind_some]
  cases h : a.tmps[tj]? with
  | none => simp [h, undef] at this
  | some u =>
    simp only [Array.getD_eq_getD_getElem?, h, Option.getD_some] at this
    subst this
    rfl
/-- A guarded operation that is passed over. -/
theorem st_off {j tj : Nat} {b c : Bool} (hj : (ops[j]?).bind (·.dst) = some tj) (hb : lk F tj = some (.bool b)) (hne : b = !c) (hd : Nat.blt d n = true) (k : St P Q n ops rest ((d, undef) :: F) w) : St P Q n ops (⟨some d, op, ty, pos, af, some (j, c)⟩ :: rest) F w := by
  intro a ha
  have hy := yielded_of ha hj hb
  unfold wpList
  rw [if_neg (by simp only [Region.wanted, hy, hne]; cases c <;> simp)]
  exact k _ (ha.put hd _)
/-- A guarded operation that is carried out. -/
theorem st_on {j tj : Nat} {b : Bool} {dd : Option Tmp} (hj : (ops[j]?).bind (·.dst) = some tj) (hb : lk F tj = some (.bool b)) (k : St P Q n ops (⟨dd, op, ty, pos, af, none⟩ :: rest) F w) : St P Q n ops (⟨dd, op, ty, pos, af, some (j, b)⟩ :: rest) F w := by
  intro a ha
  have hy := yielded_of ha hj hb
  have h := k a ha
  unfold wpList at h ⊢
  rw [if_pos (by simp [Region.wanted])] at h
  rw [if_pos (by simp [Region.wanted, hy])]
  exact h

/-- A Bool that decides what follows. -/
theorem st_split {os : List Oper} {j : Tmp} {b : Bool} (hb : lk F j = some (.bool b)) (ht : b = true → St P Q n ops os ((j, .bool true) :: F) w) (hf : b = false → St P Q n ops os ((j, .bool false) :: F) w) : St P Q n ops os F w := by
  intro a ha
  have hk : ∀ c, b = c → Knows n ((j, .bool c) :: F) a := by
    rintro c rfl
    refine ⟨ha.size, ha.defers, fun i v hi => ?_⟩
    simp only [lk] at hi
    by_cases e : j = i
    · subst e; rw [Nat.beq_refl] at hi; obtain rfl := Option.some.inj hi; exact ha.get j _ hb
    · rw [beq_ne e] at hi; exact ha.get i v hi
  cases b
  · exact hf rfl a (hk _ rfl)
  · exact ht rfl a (hk _ rfl)

/-- What only reads, in a region that draws its order: one walk, in the order of the text. -/
def Ss (P : Program) (q : Act → Prop) (n : Nat) (ops : Array Oper) (os : List Oper) (F : Fr) (w : World) : Prop := ∀ a, Knows n F a → wpStill P ops w q os a
section
variable {q : Act → Prop}
theorem ss_v (h : OpV P F w op ty v) (hd : Nat.blt d n = true) (k : Ss P q n ops rest ((d, v) :: F) w) : Ss P q n ops (⟨some d, op, ty, pos, af, none⟩ :: rest) F w := by
  intro a ha
  refine wpStill_step fun K hK => ?_
  rw [if_pos (by simp [Region.wanted])]
  unfold Oper.still
  rw [h n a ha _ rfl rfl, Oper.stillUpon_value]
  exact hK _ (k _ (ha.put hd v))
theorem ss_off {j tj : Nat} {b c : Bool} (hj : (ops[j]?).bind (·.dst) = some tj) (hb : lk F tj = some (.bool b)) (hne : b = !c) (hd : Nat.blt d n = true) (k : Ss P q n ops rest ((d, undef) :: F) w) : Ss P q n ops (⟨some d, op, ty, pos, af, some (j, c)⟩ :: rest) F w := by
  intro a ha
  have hy := yielded_of ha hj hb
  unfold wpStill
  rw [if_neg (by simp only [Region.wanted, hy, hne]; cases c <;> simp)]
  exact k _ (ha.put hd _)
theorem ss_on {j tj : Nat} {b : Bool} {dd : Option Tmp} (hj : (ops[j]?).bind (·.dst) = some tj) (hb : lk F tj = some (.bool b)) (k : Ss P q n ops (⟨dd, op, ty, pos, af, none⟩ :: rest) F w) : Ss P q n ops (⟨dd, op, ty, pos, af, some (j, b)⟩ :: rest) F w := by
  intro a ha
  have hy := yielded_of ha hj hb
  have h := k a ha
  unfold wpStill at h ⊢
  rw [if_pos (by simp [Region.wanted])] at h
  rw [if_pos (by simp [Region.wanted, hy])]
  exact h
theorem ss_split {os : List Oper} {j : Tmp} {b : Bool} (hb : lk F j = some (.bool b)) (ht : b = true → Ss P q n ops os ((j, .bool true) :: F) w) (hf : b = false → Ss P q n ops os ((j, .bool false) :: F) w) : Ss P q n ops os F w := by
  intro a ha
  have hk : ∀ c, b = c → Knows n ((j, .bool c) :: F) a := by
    rintro c rfl
    refine ⟨ha.size, ha.defers, fun i v hi => ?_⟩
    simp only [lk] at hi
    by_cases e : j = i
    · subst e; rw [Nat.beq_refl] at hi; obtain rfl := Option.some.inj hi; exact ha.get j _ hb
    · rw [beq_ne e] at hi; exact ha.get i v hi
  cases b
  · exact hf rfl a (hk _ rfl)
  · exact ht rfl a (hk _ rfl)
end
/-- A region that draws its order and only reads. -/
theorem sc_draws {id : Nat} {l : List Oper} (hm : P.follows .mixedOrders = true) (hB : Region.lexB .any l.toArray = true)
    (h : Ss P (fun a => Q .normal a { w with drawn := w.drawn + 1 }) n l.toArray l F { w with drawn := w.drawn + 1 }) : Sc P Q n (.region id l.toArray true) F w :=
  fun a ha => wp_region_still_lit hm hB (h a ha)
theorem ss_end (h : Pn Q n F w) : Ss P (fun a => Q .normal a w) n ops [] F w := h
/-- .. and only its last operations, from number m on, do more. -/
theorem sc_draws_tail {id : Nat} {l : List Oper} (m : Nat) (hm : P.follows .mixedOrders = true) (hB : Region.lexTailB .any l.toArray m = true)
    (h : Ss P (fun a => wpList P l.toArray Q (l.drop m) a { w with drawn := w.drawn + 1 }) n l.toArray (l.take m) F { w with drawn := w.drawn + 1 }) : Sc P Q n (.region id l.toArray true) F w :=
  fun a ha => wp_region_still_tail m hm hB (h a ha)
theorem ss_tail {l : List Oper} (h : St P Q n ops l F w) : Ss P (fun a => wpList P ops Q l a w) n ops [] F w := h
end

/-! ### 2. Operations that turn nothing -/
section
variable {P : Program} {F : Fr} {w : World} {ty t t' : TypeId} {x y z : Operand} {k k' : IntKind} {a b : Int}
theorem ov_move {v : Value} (hx : evF F x = some v) : OpV P F w (.move x) ty v := by
  intro n a ha o ho _; simp [execOp, ho, ha.eval hx]
theorem ov_assign {v : Value} (hx : evF F x = some v) : OpV P F w (.assign x) ty v := by
  intro n a ha o ho _; simp [execOp, ho, ha.eval hx]
theorem ov_pick {c : Bool} {u v : Value} (hx : evF F x = some (.bool c)) (hy : evF F y = some u) (hz : evF F z = some v) : OpV P F w (.pick x y z) ty (if c then u else v) := by
  intro n ac ha o ho _; simp [execOp, ho, ha.eval hx, ha.eval hy, ha.eval hz, asBool]
theorem ov_pick_t {u : Value} (hx : evF F x = some (.bool true)) (hy : evF F y = some u) : OpV P F w (.pick x y z) ty u := by
  intro n ac ha o ho _; simp [execOp, ho, ha.eval hx, ha.eval hy, asBool]
theorem ov_pick_f {u : Value} (hx : evF F x = some (.bool false)) (hz : evF F z = some u) : OpV P F w (.pick x y z) ty u := by
  intro n ac ha o ho _; simp [execOp, ho, ha.eval hx, ha.eval hz, asBool]
theorem ov_nilCheck {ad : Addr} (hx : evF F x = some (.pointer (some ad))) : OpV P F w (.nilCheck x) ty (.pointer (some ad)) := by
  intro n ac ha o ho _; simp [execOp, ho, ha.eval hx]
theorem ov_not {c : Bool} (hx : evF F x = some (.bool c)) : OpV P F w (.unOp .not t x) ty (.bool (!c)) := by
  intro n ac ha o ho _; simp [execOp, ho, ha.eval hx, Op.unary]
theorem ov_extract {vs : Array Value} {i : Nat} {v : Value} (hx : evF F x = some (.tuple vs)) (hv : vs[i]? = some v) : OpV P F w (.extract x i) ty v := by
  intro n ac ha o ho _; simp [execOp, ho, ha.eval hx, Instr.extract, hv]

theorem ov_add (hx : evF F x = some (.int k a)) (hy : evF F y = some (.int k b)) : OpV P F w (.binOp .add t x y t') ty (.int k (k.wrap (a + b))) := by
  intro n ac ha o ho _; simp [execOp, ho, ha.eval hx, ha.eval hy, eqGuard, binOp, Op.intArith]
theorem ov_sub (hx : evF F x = some (.int k a)) (hy : evF F y = some (.int k b)) : OpV P F w (.binOp .sub t x y t') ty (.int k (k.wrap (a - b))) := by
  intro n ac ha o ho _; simp [execOp, ho, ha.eval hx, ha.eval hy, eqGuard, binOp, Op.intArith]
theorem ov_mul (hx : evF F x = some (.int k a)) (hy : evF F y = some (.int k b)) : OpV P F w (.binOp .mul t x y t') ty (.int k (k.wrap (a * b))) := by
  intro n ac ha o ho _; simp [execOp, ho, ha.eval hx, ha.eval hy, eqGuard, binOp, Op.intArith]
theorem ov_quo (hx : evF F x = some (.int k a)) (hy : evF F y = some (.int k b)) (hb : b ≠ 0) : OpV P F w (.binOp .quo t x y t') ty (.int k (k.wrap (a.tdiv b))) := by
  intro n ac ha o ho _; simp [execOp, ho, ha.eval hx, ha.eval hy, eqGuard, binOp, Op.intDiv, hb]
theorem ov_rem (hx : evF F x = some (.int k a)) (hy : evF F y = some (.int k b)) (hb : b ≠ 0) : OpV P F w (.binOp .rem t x y t') ty (.int k (a.tmod b)) := by
  intro n ac ha o ho _; simp [execOp, ho, ha.eval hx, ha.eval hy, eqGuard, binOp, Op.intDiv, hb]
theorem ov_and (hx : evF F x = some (.int k a)) (hy : evF F y = some (.int k b)) : OpV P F w (.binOp .and t x y t') ty (.int k (k.wrap (BitVec.ofInt k.bits a &&& BitVec.ofInt k.bits b).toNat)) := by
  intro n ac ha o ho _; simp [execOp, ho, ha.eval hx, ha.eval hy, eqGuard, binOp, Op.intBits]
theorem ov_or (hx : evF F x = some (.int k a)) (hy : evF F y = some (.int k b)) : OpV P F w (.binOp .or t x y t') ty (.int k (k.wrap (BitVec.ofInt k.bits a ||| BitVec.ofInt k.bits b).toNat)) := by
  intro n ac ha o ho _; simp [execOp, ho, ha.eval hx, ha.eval hy, eqGuard, binOp, Op.intBits]
theorem ov_xor (hx : evF F x = some (.int k a)) (hy : evF F y = some (.int k b)) : OpV P F w (.binOp .xor t x y t') ty (.int k (k.wrap (BitVec.ofInt k.bits a ^^^ BitVec.ofInt k.bits b).toNat)) := by
  intro n ac ha o ho _; simp [execOp, ho, ha.eval hx, ha.eval hy, eqGuard, binOp, Op.intBits]
theorem ov_com (hx : evF F x = some (.int k a)) : OpV P F w (.unOp .xor t x) ty (.int k (k.wrap (BitVec.ofInt k.bits (if k.signed then -1 else k.max) ^^^ BitVec.ofInt k.bits a).toNat)) := by
  intro n ac ha o ho _; simp [execOp, ho, ha.eval hx, Op.unary, Op.intBits]
theorem ov_shl (hx : evF F x = some (.int k a)) (hy : evF F y = some (.int k' b)) (hb : 0 ≤ b) : OpV P F w (.binOp .shl t x y t') ty (.int k (k.wrap (a * 2 ^ (min b.toNat k.bits)))) := by
  intro n ac ha o ho _
  have : ¬ b < 0 := by omega
  simp [execOp, ho, ha.eval hx, ha.eval hy, eqGuard, binOp, Op.shift, this]
theorem ov_shr (hx : evF F x = some (.int k a)) (hy : evF F y = some (.int k' b)) (hb : 0 ≤ b) : OpV P F w (.binOp .shr t x y t') ty (.int k (a.fdiv (2 ^ (min b.toNat k.bits)))) := by
  intro n ac ha o ho _
  have : ¬ b < 0 := by omega
  simp [execOp, ho, ha.eval hx, ha.eval hy, eqGuard, binOp, Op.shift, this]
theorem ov_lss (hx : evF F x = some (.int k a)) (hy : evF F y = some (.int k b)) : OpV P F w (.binOp .lss t x y t') ty (.bool (decide (a < b))) := by
  intro n ac ha o ho _; simp [execOp, ho, ha.eval hx, ha.eval hy, eqGuard, binOp, Op.intCmp]
theorem ov_leq (hx : evF F x = some (.int k a)) (hy : evF F y = some (.int k b)) : OpV P F w (.binOp .leq t x y t') ty (.bool (decide (a ≤ b))) := by
  intro n ac ha o ho _; simp [execOp, ho, ha.eval hx, ha.eval hy, eqGuard, binOp, Op.intCmp]
theorem ov_gtr (hx : evF F x = some (.int k a)) (hy : evF F y = some (.int k b)) : OpV P F w (.binOp .gtr t x y t') ty (.bool (decide (b < a))) := by
  intro n ac ha o ho _; simp [execOp, ho, ha.eval hx, ha.eval hy, eqGuard, binOp, Op.intCmp]
theorem ov_geq (hx : evF F x = some (.int k a)) (hy : evF F y = some (.int k b)) : OpV P F w (.binOp .geq t x y t') ty (.bool (decide (b ≤ a))) := by
  intro n ac ha o ho _; simp [execOp, ho, ha.eval hx, ha.eval hy, eqGuard, binOp, Op.intCmp]
theorem ov_eql (hx : evF F x = some (.int k a)) (hy : evF F y = some (.int k b)) : OpV P F w (.binOp .eql t x y t') ty (.bool (decide (a = b))) := by
  intro n ac ha o ho _
  have : (a == b) = decide (a = b) := by by_cases h : a = b <;> simp [h]
  simp [execOp, ho, ha.eval hx, ha.eval hy, eqGuard, binOp, Op.intCmp, this]
theorem ov_neq (hx : evF F x = some (.int k a)) (hy : evF F y = some (.int k b)) : OpV P F w (.binOp .neq t x y t') ty (.bool (decide (a ≠ b))) := by
  intro n ac ha o ho _
  have : (a != b) = decide (a ≠ b) := by by_cases h : a = b <;> simp [h]
  simp [execOp, ho, ha.eval hx, ha.eval hy, eqGuard, binOp, Op.intCmp, this]
theorem ov_conv (hu : P.underlying t = some (.int k')) (hu2 : P.underlying t' = some (.int k)) (hx : evF F x = some (.int k' a)) : OpV P F w (.convert t t' x) ty (.int k (k.wrap a)) := by
  intro n ac ha o ho _; simp [execOp, ho, ha.eval hx, convert, underlying, hu, hu2, Conv.intToInt]
theorem run_equalInB {p q : Bool} (hu : P.underlying t = some .bool) (d : Nat) : (Op.equalIn (d + 1) t (.bool p) (.bool q)).run P w = .ok (p == q) w := by
  simp only [Op.equalIn, underlying, Sem.run_bind, program, Sem.run, hu, Sem.run_pure, Result.andThen_ok]
theorem run_equalB {p q : Bool} (hu : P.underlying t = some .bool) : (Op.equal t (.bool p) (.bool q)).run P w = .ok (p == q) w := run_equalInB hu 9999
theorem ov_eqlB {p q : Bool} (hu : P.underlying t = some .bool) (hx : evF F x = some (.bool p)) (hy : evF F y = some (.bool q)) : OpV P F w (.binOp .eql t x y t') ty (.bool (p == q)) := by
  intro n ac ha o ho _; simp [execOp, ho, ha.eval hx, ha.eval hy, eqGuard, binOp, run_equalB hu]
theorem ov_neqB {p q : Bool} (hu : P.underlying t = some .bool) (hx : evF F x = some (.bool p)) (hy : evF F y = some (.bool q)) : OpV P F w (.binOp .neq t x y t') ty (.bool (!(p == q))) := by
  intro n ac ha o ho _; simp [execOp, ho, ha.eval hx, ha.eval hy, eqGuard, binOp, run_equalB hu]

/-! int's own, where nothing wraps -/
theorem wrap_i64 {m : Int} (h1 : -9223372036854775808 ≤ m) (h2 : m ≤ 9223372036854775807) : IntKind.i64.wrap m = m := by
  rw [IntKind.wrap_i64]; omega
theorem ov_add_i64 (hx : evF F x = some (.int .i64 a)) (hy : evF F y = some (.int .i64 b)) (h : -9223372036854775808 ≤ a + b ∧ a + b ≤ 9223372036854775807) : OpV P F w (.binOp .add t x y t') ty (.int .i64 (a + b)) := by
  have := @ov_add P F w ty t t' x y .i64 a b hx hy; rwa [wrap_i64 h.1 h.2] at this
theorem ov_sub_i64 (hx : evF F x = some (.int .i64 a)) (hy : evF F y = some (.int .i64 b)) (h : -9223372036854775808 ≤ a - b ∧ a - b ≤ 9223372036854775807) : OpV P F w (.binOp .sub t x y t') ty (.int .i64 (a - b)) := by
  have := @ov_sub P F w ty t t' x y .i64 a b hx hy; rwa [wrap_i64 h.1 h.2] at this
theorem ov_mul_i64 (hx : evF F x = some (.int .i64 a)) (hy : evF F y = some (.int .i64 b)) (h : -9223372036854775808 ≤ a * b ∧ a * b ≤ 9223372036854775807) : OpV P F w (.binOp .mul t x y t') ty (.int .i64 (a * b)) := by
  have := @ov_mul P F w ty t t' x y .i64 a b hx hy; rwa [wrap_i64 h.1 h.2] at this
theorem ov_quo_i64 (hx : evF F x = some (.int .i64 a)) (hy : evF F y = some (.int .i64 b)) (h : 0 ≤ a ∧ a ≤ 9223372036854775807 ∧ 0 < b) : OpV P F w (.binOp .quo t x y t') ty (.int .i64 (a / b)) := by
  have := @ov_quo P F w ty t t' x y .i64 a b hx hy (by omega)
  rw [Int.tdiv_eq_ediv_of_nonneg h.1] at this
  have h0 : 0 ≤ a / b := Int.ediv_nonneg h.1 (by omega)
  have h1 : a / b ≤ a := Int.ediv_le_self _ h.1
  rwa [wrap_i64 (by omega) (by omega)] at this
theorem ov_rem_i64 (hx : evF F x = some (.int .i64 a)) (hy : evF F y = some (.int .i64 b)) (h : 0 ≤ a ∧ 0 < b) : OpV P F w (.binOp .rem t x y t') ty (.int .i64 (a % b)) := by
  have := @ov_rem P F w ty t t' x y .i64 a b hx hy (by omega)
  rwa [Int.tmod_eq_emod_of_nonneg h.1] at this

/-! unsigned ones -/
theorem wrap_u32 (m : Int) : IntKind.u32.wrap m = m % 4294967296 := by simp [IntKind.wrap, IntKind.bits, IntKind.signed]
theorem wrap_u8 (m : Int) : IntKind.u8.wrap m = m % 256 := by simp [IntKind.wrap, IntKind.bits, IntKind.signed]
theorem wrap_u64 (m : Int) : IntKind.u64.wrap m = m % 18446744073709551616 := by simp [IntKind.wrap, IntKind.bits, IntKind.signed]
theorem bv32 (p : UInt32) : BitVec.ofInt IntKind.u32.bits (p.toNat : Int) = p.toBitVec := by
  apply BitVec.eq_of_toNat_eq
  show (BitVec.ofInt 32 (p.toNat : Int)).toNat = p.toNat
  rw [BitVec.toNat_ofInt]
  have := p.toNat_lt
  omega
theorem nat32 (p : BitVec 32) : IntKind.u32.wrap (p.toNat : Int) = ((UInt32.ofBitVec p).toNat : Int) := by
  rw [wrap_u32]
  have := p.isLt
  show (p.toNat : Int) % 4294967296 = (p.toNat : Int)
  omega
variable {p q : UInt32}
theorem ov_xor_u32 (hx : evF F x = some (B32 p)) (hy : evF F y = some (B32 q)) : OpV P F w (.binOp .xor t x y t') ty (B32 (p ^^^ q)) := by
  have := @ov_xor P F w ty t t' x y .u32 _ _ hx hy
  rw [bv32, bv32] at this
  unfold B32
  rw [← show _ = ((p ^^^ q).toNat : Int) from nat32 (p.toBitVec ^^^ q.toBitVec)]
  exact this
theorem ov_and_u32 (hx : evF F x = some (B32 p)) (hy : evF F y = some (B32 q)) : OpV P F w (.binOp .and t x y t') ty (B32 (p &&& q)) := by
  have := @ov_and P F w ty t t' x y .u32 _ _ hx hy
  rw [bv32, bv32] at this
  unfold B32
  rw [← show _ = ((p &&& q).toNat : Int) from nat32 (p.toBitVec &&& q.toBitVec)]
  exact this
theorem ov_or_u32 (hx : evF F x = some (B32 p)) (hy : evF F y = some (B32 q)) : OpV P F w (.binOp .or t x y t') ty (B32 (p ||| q)) := by
  have := @ov_or P F w ty t t' x y .u32 _ _ hx hy
  rw [bv32, bv32] at this
  unfold B32
  rw [← show _ = ((p ||| q).toNat : Int) from nat32 (p.toBitVec ||| q.toBitVec)]
  exact this
theorem ov_com_u32 (hx : evF F x = some (B32 p)) : OpV P F w (.unOp .xor t x) ty (B32 (~~~p)) := by
  have := @ov_com P F w ty t x .u32 _ hx
  rw [bv32] at this
  have e : (BitVec.ofInt 32 4294967295 ^^^ p.toBitVec) = ~~~ p.toBitVec := by
    rw [show BitVec.ofInt 32 4294967295 = BitVec.allOnes 32 by decide]; exact BitVec.allOnes_xor
  unfold B32
  rw [← show _ = ((~~~p).toNat : Int) from nat32 (~~~ p.toBitVec), ← e]
  exact this
theorem ov_add_u32 (hx : evF F x = some (B32 p)) (hy : evF F y = some (B32 q)) : OpV P F w (.binOp .add t x y t') ty (B32 (p + q)) := by
  have := @ov_add P F w ty t t' x y .u32 _ _ hx hy
  rw [wrap_u32] at this
  have e : ((p.toNat : Int) + q.toNat) % 4294967296 = ((p + q).toNat : Int) := by rw [UInt32.toNat_add]; omega
  rwa [e] at this
theorem ov_mul_u32 (hx : evF F x = some (B32 p)) (hy : evF F y = some (B32 q)) : OpV P F w (.binOp .mul t x y t') ty (B32 (p * q)) := by
  have := @ov_mul P F w ty t t' x y .u32 _ _ hx hy
  rw [wrap_u32] at this
  have e : ((p.toNat : Int) * q.toNat) % 4294967296 = ((p * q).toNat : Int) := by
    rw [UInt32.toNat_mul, ← Int.natCast_mul]; omega
  rwa [e] at this
theorem ov_shl_u32 {s : Nat} (hx : evF F x = some (B32 p)) (hy : evF F y = some (.int k' (s : Int))) (hs : Nat.blt s 32 = true) : OpV P F w (.binOp .shl t x y t') ty (B32 (p <<< UInt32.ofNat s)) := by
  have hs' : s < 32 := by simpa [Nat.blt_eq] using hs
  have := @ov_shl P F w ty t t' x y .u32 k' _ _ hx hy (by omega)
  rw [wrap_u32] at this
  have e : ((p.toNat : Int) * 2 ^ (min (s : Int).toNat IntKind.u32.bits)) % 4294967296 = ((p <<< UInt32.ofNat s).toNat : Int) := by
    rw [UInt32.toNat_shiftLeft, UInt32.toNat_ofNat', Nat.shiftLeft_eq]
    have h1 : min (s : Int).toNat IntKind.u32.bits = s := by show min _ 32 = s; omega
    rw [h1, Nat.mod_eq_of_lt (show s < 2 ^ 32 by omega), Nat.mod_eq_of_lt hs']
    rw [show (2 : Int) ^ s = ((2 ^ s : Nat) : Int) by norm_cast, ← Int.natCast_mul]
    omega
  rwa [e] at this
theorem ov_shr_u32 {s : Nat} (hx : evF F x = some (B32 p)) (hy : evF F y = some (.int k' (s : Int))) (hs : Nat.blt s 32 = true) : OpV P F w (.binOp .shr t x y t') ty (B32 (p >>> UInt32.ofNat s)) := by
  have hs' : s < 32 := by simpa [Nat.blt_eq] using hs
  have := @ov_shr P F w ty t t' x y .u32 k' _ _ hx hy (by omega)
  have e : ((p.toNat : Int).fdiv (2 ^ (min (s : Int).toNat IntKind.u32.bits))) = ((p >>> UInt32.ofNat s).toNat : Int) := by
    rw [UInt32.toNat_shiftRight, UInt32.toNat_ofNat', Nat.shiftRight_eq_div_pow]
    have h1 : min (s : Int).toNat IntKind.u32.bits = s := by show min _ 32 = s; omega
    rw [h1, Nat.mod_eq_of_lt (show s < 2 ^ 32 by omega), Nat.mod_eq_of_lt hs']
    rw [show (2 : Int) ^ s = ((2 ^ s : Nat) : Int) by norm_cast, Int.fdiv_eq_ediv_of_nonneg _ (Int.natCast_nonneg _)]
    norm_cast
  rwa [e] at this
theorem ov_conv_8_32 {c : UInt8} (hu : P.underlying t = some (.int .u8)) (hu2 : P.underlying t' = some (.int .u32)) (hx : evF F x = some (B8 c)) : OpV P F w (.convert t t' x) ty (B32 c.toUInt32) := by
  have := @ov_conv P F w ty t t' x .u32 .u8 _ hu hu2 hx
  rw [wrap_u32] at this
  have e : (c.toNat : Int) % 4294967296 = (c.toUInt32.toNat : Int) := by
    have := c.toNat_lt; rw [UInt8.toNat_toUInt32]; omega
  rwa [e] at this
theorem ov_conv_32_8 (hu : P.underlying t = some (.int .u32)) (hu2 : P.underlying t' = some (.int .u8)) (hx : evF F x = some (B32 p)) : OpV P F w (.convert t t' x) ty (B8 p.toUInt8) := by
  have := @ov_conv P F w ty t t' x .u8 .u32 _ hu hu2 hx
  rw [wrap_u8] at this
  have e : (p.toNat : Int) % 256 = (p.toUInt8.toNat : Int) := by rw [UInt32.toNat_toUInt8]; omega
  rwa [e] at this
theorem ov_conv_8_64 {c : UInt8} (hu : P.underlying t = some (.int .u8)) (hu2 : P.underlying t' = some (.int .i64)) (hx : evF F x = some (B8 c)) : OpV P F w (.convert t t' x) ty (.int .i64 (c.toNat : Int)) := by
  have := @ov_conv P F w ty t t' x .i64 .u8 _ hu hu2 hx
  have h := c.toNat_lt
  rwa [wrap_i64 (by omega) (by omega)] at this
theorem ov_conv_64_8 (hu : P.underlying t = some (.int .i64)) (hu2 : P.underlying t' = some (.int .u8)) (hx : evF F x = some (.int .i64 a)) : OpV P F w (.convert t t' x) ty (B8 (UInt8.ofNat (a % 256).toNat)) := by
  have := @ov_conv P F w ty t t' x .u8 .i64 _ hu hu2 hx
  rw [wrap_u8] at this
  have e : a % 256 = ((UInt8.ofNat (a % 256).toNat).toNat : Int) := by rw [UInt8.toNat_ofNat']; omega
  rwa [e] at this

/-! memory that is read -/
theorem run_isAgg_no {d : TypeDesc} (hu : P.underlying t = some d) (hd : (match d with | .struct _ | .array _ _ => true | _ => false) = false) : (isAgg t).run P w = .ok false w := by
  simp only [isAgg, underlying, Sem.run_bind, program, Sem.run, hu, Sem.run_pure, Result.andThen_ok]
  cases d <;> simp_all
theorem run_isAgg_yes {d : TypeDesc} (hu : P.underlying t = some d) (hd : (match d with | .struct _ | .array _ _ => true | _ => false) = true) : (isAgg t).run P w = .ok true w := by
  simp only [isAgg, underlying, Sem.run_bind, program, Sem.run, hu, Sem.run_pure, Result.andThen_ok]
  cases d <;> simp_all
theorem ov_load1 {bl o : Nat} {d : TypeDesc} {v : Value} (hx : evF F x = some (.pointer (some ⟨bl, o, none⟩))) (hu : P.underlying t = some d) (hd : (match d with | .struct _ | .array _ _ => true | _ => false) = false)
    (hc : w.cell? ⟨bl, o, none⟩ = some v) : OpV P F w (.load t x) ty v := by
  intro n ac ha oo ho _
  simp [execOp, ho, ha.eval hx, Instr.loadAt, Instr.sureAddr, loadVar, run_isAgg_no hu hd, load, Sem.run, hc]
theorem cells_add {bl o : Nat} {cs : List Value} (h : Cells w bl o cs) : ∀ j v, cs[j]? = some v → w.cell? ((⟨bl, o, none⟩ : Addr).add j) = some v := fun j v hj => by
  rw [show (⟨bl, o, none⟩ : Addr).add j = ⟨bl, o + j, none⟩ by unfold Addr.add; split <;> simp_all]
  exact h j v hj
theorem ov_loadN {bl o : Nat} {d : TypeDesc} {cs : List Value} (hx : evF F x = some (.pointer (some ⟨bl, o, none⟩))) (hu : P.underlying t = some d) (hd : (match d with | .struct _ | .array _ _ => true | _ => false) = true)
    (hi : (P.info? t).map (·.size) = some cs.length) (hc : Cells w bl o cs) : OpV P F w (.load t x) ty (.agg cs.toArray) := by
  intro n ac ha oo ho _
  have hl := run_loadCells_list (P := P) w ⟨bl, o, none⟩ cs (cells_add hc)
  cases hq : P.info? t with
  | none => simp [hq] at hi
  | some i =>
    have hi' : i.size = cs.length := by simpa [hq] using hi
    simp [execOp, ho, ha.eval hx, Instr.loadAt, Instr.sureAddr, loadVar, run_isAgg_yes hu hd, sizeOf, typeInfo, hq, hi', hl]
theorem Cells.elem' {α : Type} {f : α → Value} {bl off : Nat} {xs : List α} (h : Cells w bl off (xs.map f)) {o : Nat} (j : Nat) (ho : o = off + j ∧ j < xs.length) (z : α) : w.cell? ⟨bl, o, none⟩ = some (f (xs.getD j z)) := h.elem j ho.1 ho.2 z
theorem add_at (bl o m : Nat) : (⟨bl, o, none⟩ : Addr).add m = ⟨bl, o + m, none⟩ := by unfold Addr.add; split <;> simp_all
/-- The address of an array's element. -/
theorem ov_indexA {bl o len e s : Nat} (hx : evF F x = some (.pointer (some ⟨bl, o, none⟩))) (hy : evF F y = some (.int k a)) (hu : P.underlying t = some (.array len e)) (hs : (P.info? e).map (·.size) = some s)
    (hb : 0 ≤ a ∧ a < len) : OpV P F w (.indexAddr t x y) ty (.pointer (some ⟨bl, o + a.toNat * s, none⟩)) := by
  intro n ac ha oo ho _
  cases hq : P.info? e with
  | none => simp [hq] at hs
  | some i =>
    have hs' : i.size = s := by simpa [hq] using hs
    simp [execOp, ho, ha.eval hx, ha.eval hy, Instr.indexAt, asIntOf, underlying, hu, Instr.sureAddr, hb.1, hb.2, sizeOf, typeInfo, hq, hs', add_at]
/-- The address of a slice's element. -/
theorem ov_indexS {bl o len cap e s : Nat} (hx : evF F x = some (.slice (some ⟨bl, o, none⟩) len cap)) (hy : evF F y = some (.int k a)) (hu : P.underlying t = some (.slice e)) (hs : (P.info? e).map (·.size) = some s)
    (hb : 0 ≤ a ∧ a < len) : OpV P F w (.indexAddr t x y) ty (.pointer (some ⟨bl, o + a.toNat * s, none⟩)) := by
  intro n ac ha oo ho _
  cases hq : P.info? e with
  | none => simp [hq] at hs
  | some i =>
    have hs' : i.size = s := by simpa [hq] using hs
    simp [execOp, ho, ha.eval hx, ha.eval hy, Instr.indexAt, asIntOf, underlying, hu, hb.1, hb.2, sizeOf, typeInfo, hq, hs', add_at]
theorem ov_len {ao : Option Addr} {l c : Nat} {e : TypeId} (hx : evF F x = some (.slice ao l c)) (hu : P.underlying t = some (.slice e)) {ats : Array TypeId} (hat : ats = #[t]) : OpV P F w (.call { callee := .builtin .len, args := #[x], argTypes := ats }) ty (.int .i64 (l : Int)) := by
  subst hat
  intro n ac ha oo ho _
  simp [execOp, ho, resolve, invoke, ha.eval hx, builtin, Builtin.len_, underlying, hu, goInt]
end
end Go.Proofs.YtjdolgfhcjnniaaDoor
