/-
  The law 'ProofPlans': the reading opened, the walk, the row.
-/
import Derived.Test.YtcjnpaikmcjjlaaOpens
import Derived.Test.YtcjnpaikmcjjlaaPlnA
import Derived.Lib.LaidTab
namespace Go.Proofs.Ytcjnpaikmcjjlaa.proofPlans
open Go Go.RowKit Go.ChangeShapes Go.WideShapes Go.ChangeAt
set_option linter.unusedVariables false
set_option maxRecDepth 100000

theorem own : ownKnob Try.prog.godebug = none := by kernel_rfl
theorem laidOut : laidOutB Try.prog = true := by kernel_rfl

/-- What the walk gives, for every argument. -/
theorem contract (H : Type) (enc : TypeId × Value → H) (W : World) (base : Nat) (args : Array Value) (ds gs : List (DataW H)) (before : List MemPlace)
    (hval : ∀ (j : Nat) t v, Try.f3.params[j]? = some t → args[j]? = some v → Value.okWide Try.prog W .any base t v)
    (hW : DataW.Whole enc Try.prog Try.f3.params.toList Rows.proofPlansSpec.vars false W args.toList ds gs before)
    (hz : (DataW.weightsEach Try.prog (Try.f3.params.toList ++ (OpenSpec.ofChange Rows.proofPlansSpec).bare.plain.varTypes Try.prog) (ds ++ gs)).all (· ≤ reachBytes) = true)
    (hL : laidMetH Try.prog Rows.proofPlansRow.laid W)
    : Calls Try.prog 3 args W fun e W' => ∃ v, e = .returned v ∧ Rows.proofPlansSpec.post enc Try.prog Try.f3 false true false false W args v W' := by
  have hW' := hW
  obtain ⟨p, q, hA, hV, rfl, hfz, hnd⟩ := hW
  rw [@Try.params3] at hA hval hz
  obtain ⟨v0, vs0, d0, ds0, p0, q0, hargs, rfl, rfl, h0, r0⟩ := trodAll_cons hA
  obtain ⟨v1, vs1, d1, ds1, p1, q1, rfl, rfl, rfl, h1, r1⟩ := trodAll_cons r0
  obtain ⟨v2, vs2, d2, ds2, p2, q2, rfl, rfl, rfl, h2, r2⟩ := trodAll_cons r1
  obtain ⟨rfl, rfl, rfl⟩ := trodAll_nil r2
  obtain rfl : args = #[v0, v1, v2] := by cases args; simp_all
  obtain ⟨rfl, rfl⟩ := trodVars_none hV
  have z0 := each_of hz (j := 0) (t := 3) (d := d0) rfl rfl
  obtain ⟨_, _, rfl, a0⟩ := arg_one (one_int Try.underlying3 (hval 0 3 v0 rfl rfl)) (op3 W) h0 z0
  have z1 := each_of hz (j := 1) (t := 3) (d := d1) rfl rfl
  obtain ⟨_, _, rfl, a1⟩ := arg_one (one_int Try.underlying3 (hval 1 3 v1 rfl rfl)) (op3 W) h1 z1
  have z2 := each_of hz (j := 2) (t := 23) (d := d2) rfl rfl
  obtain ⟨cs2, rfl, a2⟩ := arg_many (many_array Try.underlying23 (hval 2 23 v2 rfl rfl)) (op23 W) h2 z2
  obtain ⟨n, hv0, hlo0, hhi0⟩ := a0
  obtain rfl : v0 = .int .i64 n := by simpa using hv0
  obtain ⟨low, hv1, hlo1, hhi1⟩ := a1
  obtain rfl : v1 = .int .i64 low := by simpa using hv1
  obtain ⟨root, hr, rfl⟩ := a2
  refine Calls.mono (law_plans n low ⟨hlo0, hhi0⟩ ⟨hlo1, hhi1⟩ root hr W) fun e W' h => ?_
  obtain ⟨he, hg⟩ := h
  exact ⟨_, he, keeps laidOut (by kernel_rfl) rfl (by kernel_rfl) Try.underlying4 hW' rfl hg⟩
theorem laid_met (w : World) : laidMetH Try.prog Rows.proofPlansRow.laid w := ⟨[], rfl, by simp, by simp⟩
theorem reads (os : Os) {H : Type} (enc : TypeId × Value → H) : ∃ places, DataW.whole enc Try.prog (((World.holding Try.prog os ⟨#[], #[], []⟩)).forCall (fun _ _ => 0) ⟨#[], #[.int .i64 0, .int .i64 0, .agg (List.replicate 32 (Value.int .u8 0)).toArray], []⟩).memory Try.f3.params.toList Rows.proofPlansSpec.vars false (#[.int .i64 0, .int .i64 0, .agg (List.replicate 32 (Value.int .u8 0)).toArray] : Array Value).toList 8 = some ([.lit (.int .i64 0), .lit (.int .i64 0), .agg (List.replicate 32 (.lit (.int .u8 0)))], [], places) :=
  ⟨[], by kernel_rfl⟩

/-- The form's step. -/
theorem lifted (os : Os) (started : os.Started) (H : Type) (enc : TypeId × Value → H) (F : Stop.Interp) :
    ReturnsInHanded {} Try.checked os 3 .any ((OpenSpec.ofChange Rows.proofPlansSpec).preRow enc Try.prog Try.f3 Rows.proofPlansRow.domain false Rows.proofPlansRow.laid) (((OpenSpec.ofChange Rows.proofPlansSpec).at F).post enc Try.prog Try.f3 false true false false) := by
  obtain ⟨places, hx⟩ := reads os enc
  refine returnsInHanded_of_row (C := Try.checked) (s := (OpenSpec.ofChange Rows.proofPlansSpec)) own started (by kernel_rfl) Try.func3
    (witness_row_at (enc := enc) (C := Try.checked) false (World.holding Try.prog os ⟨#[], #[], []⟩) #[.int .i64 0, .int .i64 0, .agg (List.replicate 32 (Value.int .u8 0)).toArray] rfl (by kernel_rfl) (by kernel_rfl) (by kernel_rfl)
      (OpenSpec.preRow_of_cond 8 hx (by kernel_rfl) (fun k hk => by cases hk) (by kernel_rfl) (laid_met _))) ?_
  intro W base args ds gs before hval hW _ hc hz hL _ _
  exact contract H enc W base args ds gs before hval hW hz hL

/-- The row. -/
theorem said : Rows.ProofPlansSaid :=
  OpenClaim.holds_of_cond 3 Try.f3 rfl rfl rfl rfl rfl rfl rfl ⟨rfl, rfl, rfl, rfl, rfl⟩ rfl rfl rfl rfl rfl (by kernel_rfl) Try.func3 (by kernel_rfl)
    (of_decide_eq_true (by kernel_rfl)) (by unfold Func.isWrapper; first | (rw [if_pos (by decide +kernel)]; kernel_rfl) | (rw [if_neg (by decide +kernel)]; exact ⟨rfl, rfl⟩))
    (fun os started H enc _ F => by rw [OpenClaim.pre_eq_preRow]; exact lifted os started H enc F)
end Go.Proofs.Ytcjnpaikmcjjlaa.proofPlans
