/-
  The law 'FrameCarries': the reading opened, the walk, the row.
-/
import Derived.Test.YthebbenfmoknbaaOpens
import Derived.Test.YthebbenfmoknbaaCarA
import Derived.Lib.LaidTab
namespace Go.Proofs.Ythebbenfmoknbaa.frameCarriesUpto
open Go Go.RowKit Go.ChangeShapes Go.WideShapes Go.ChangeAt
set_option linter.unusedVariables false
set_option maxRecDepth 100000

theorem own : ownKnob Try.prog.godebug = none := by kernel_rfl
theorem laidOut : laidOutB Try.prog = true := by kernel_rfl

/-- What the walk gives, for every argument. -/
theorem contract (H : Type) (enc : TypeId × Value → H) (W : World) (base : Nat) (args : Array Value) (ds gs : List (DataW H)) (before : List MemPlace)
    (hval : ∀ (j : Nat) t v, Try.f8.params[j]? = some t → args[j]? = some v → Value.okWide Try.prog W .any base t v)
    (hW : DataW.Whole enc Try.prog Try.f8.params.toList Rows.frameCarriesSpec.vars false W args.toList ds gs before)
    (hz : (DataW.weightsEach Try.prog (Try.f8.params.toList ++ (Rows.OpenSpec.upto Rows.frameCarriesSpec).bare.plain.varTypes Try.prog) (ds ++ gs)).all (· ≤ reachBytes) = true)
    (hL : laidMetH Try.prog Rows.frameCarriesUptoRow.laid W)
    (hk : Rows.uptoSmall H (ds ++ gs) = true)
    : Calls Try.prog 8 args W fun e W' => ∃ v, e = .returned v ∧ Rows.frameCarriesSpec.post enc Try.prog Try.f8 false true false false W args v W' := by
  have hW' := hW
  obtain ⟨p, q, hA, hV, rfl, hfz, hnd⟩ := hW
  rw [@Try.params8] at hA hval hz
  obtain ⟨v0, vs0, d0, ds0, p0, q0, hargs, rfl, rfl, h0, r0⟩ := trodAll_cons hA
  obtain ⟨v1, vs1, d1, ds1, p1, q1, rfl, rfl, rfl, h1, r1⟩ := trodAll_cons r0
  obtain ⟨v2, vs2, d2, ds2, p2, q2, rfl, rfl, rfl, h2, r2⟩ := trodAll_cons r1
  obtain ⟨rfl, rfl, rfl⟩ := trodAll_nil r2
  obtain rfl : args = #[v0, v1, v2] := by cases args; simp_all
  obtain ⟨rfl, rfl⟩ := trodVars_none hV
  have hbig : Rows.uptoBulkAll [d0, d1, d2] ≤ 1048576 := of_decide_eq_true hk
  have u0 : Rows.uptoBulk d0 ≤ 1048576 := Nat.le_trans (bulk_each (j := 0) (ds := [d0, d1, d2]) rfl) hbig
  have u1 : Rows.uptoBulk d1 ≤ 1048576 := Nat.le_trans (bulk_each (j := 1) (ds := [d0, d1, d2]) rfl) hbig
  have u2 : Rows.uptoBulk d2 ≤ 1048576 := Nat.le_trans (bulk_each (j := 2) (ds := [d0, d1, d2]) rfl) hbig
  have z0 := each_of hz (j := 0) (t := 25) (d := d0) rfl rfl
  obtain ⟨cs0, rfl, a0⟩ := arg_many (many_struct Try.underlying25 (hval 0 25 v0 rfl rfl)) (op25 W) h0 z0
  have z1 := each_of hz (j := 1) (t := 37) (d := d1) rfl rfl
  obtain ⟨_, _, rfl, a1⟩ := arg_one (one_slice Try.underlying37 (hval 1 37 v1 rfl rfl)) (op37 W) h1 z1
  have z2 := each_of hz (j := 2) (t := 55) (d := d2) rfl rfl
  obtain ⟨_, _, rfl, a2⟩ := arg_one (one_slice Try.underlying55 (hval 2 55 v2 rfl rfl)) (op55 W) h2 z2
  obtain ⟨h, rfl⟩ := a0
  obtain ⟨ao1, ca1, l, hv1, hl1, hcr1, hc1, hr1, hq1, hs1, hw1, hn1⟩ := a1
  obtain rfl : v1 = .slice ao1 l.length ca1 := by simpa using hv1
  obtain ⟨ao2, ca2, cuts, hv2, hl2, hcr2, hc2, hr2, hn2⟩ := a2
  obtain rfl : v2 = .slice ao2 cuts.length ca2 := by simpa using hv2
  have hez : ∀ s ∈ l, s.bs.length ≤ 1048576 := fun s hs => Nat.le_trans (le_sum_of hs) (Nat.le_trans hs1 u1)
  refine Calls.mono (law_carries h l cuts ao1 ao2 ca1 ca2 W hr1 hq1 (by omega) (by omega) hez hr2 (by omega)) fun e W' h => ?_
  obtain ⟨he, hg⟩ := h
  exact ⟨_, he, keeps laidOut (by kernel_rfl) rfl (by kernel_rfl) Try.underlying4 hW' rfl hg⟩
theorem laid_met (w : World) : laidMetH Try.prog Rows.frameCarriesUptoRow.laid w := ⟨[], rfl, by simp, by simp⟩
theorem reads (os : Os) {H : Type} (enc : TypeId × Value → H) : ∃ places, DataW.whole enc Try.prog (((World.holding Try.prog os ⟨#[], #[], []⟩)).forCall (fun _ _ => 0) ⟨#[], #[.agg (List.replicate 48 (Value.int .u8 0)).toArray, .slice none 0 0, .slice none 0 0], []⟩).memory Try.f8.params.toList Rows.frameCarriesSpec.vars false (#[.agg (List.replicate 48 (Value.int .u8 0)).toArray, .slice none 0 0, .slice none 0 0] : Array Value).toList 8 = some ([.agg [.agg (List.replicate 8 (.lit (.int .u8 0))), .agg (List.replicate 20 (.lit (.int .u8 0))), .agg (List.replicate 20 (.lit (.int .u8 0)))], .nil, .nil], [], places) :=
  ⟨[], by kernel_rfl⟩

/-- The form's step. -/
theorem lifted (os : Os) (started : os.Started) (H : Type) (enc : TypeId × Value → H) (F : Stop.Interp) :
    ReturnsInHanded {} Try.checked os 8 .any ((Rows.OpenSpec.upto Rows.frameCarriesSpec).preRow enc Try.prog Try.f8 Rows.frameCarriesUptoRow.domain false Rows.frameCarriesUptoRow.laid) (((Rows.OpenSpec.upto Rows.frameCarriesSpec).at F).post enc Try.prog Try.f8 false true false false) := by
  obtain ⟨places, hx⟩ := reads os enc
  refine returnsInHanded_of_row (C := Try.checked) (s := (Rows.OpenSpec.upto Rows.frameCarriesSpec)) own started (by kernel_rfl) Try.func8
    (witness_row_at (enc := enc) (C := Try.checked) false (World.holding Try.prog os ⟨#[], #[], []⟩) #[.agg (List.replicate 48 (Value.int .u8 0)).toArray, .slice none 0 0, .slice none 0 0] rfl (by kernel_rfl) (by kernel_rfl) (by kernel_rfl)
      (OpenSpec.preRow_of_cond 8 hx (by kernel_rfl) (fun k hk => by cases hk; kernel_rfl) (by kernel_rfl) (laid_met _))) ?_
  intro W base args ds gs before hval hW _ hc hz hL _ _
  exact contract H enc W base args ds gs before hval hW hz hL (hc _ rfl)

/-- The row. -/
theorem said : Rows.FrameCarriesUptoSaid :=
  OpenClaim.holds_of_cond 8 Try.f8 rfl rfl rfl rfl rfl rfl rfl ⟨rfl, rfl, rfl, rfl, rfl⟩ rfl rfl rfl rfl rfl (by kernel_rfl) Try.func8 (by kernel_rfl)
    (of_decide_eq_true (by kernel_rfl)) (by unfold Func.isWrapper; first | (rw [if_pos (by decide +kernel)]; kernel_rfl) | (rw [if_neg (by decide +kernel)]; exact ⟨rfl, rfl⟩))
    (fun os started H enc _ F => by rw [OpenClaim.pre_eq_preRow]; exact lifted os started H enc F)
end Go.Proofs.Ythebbenfmoknbaa.frameCarriesUpto
