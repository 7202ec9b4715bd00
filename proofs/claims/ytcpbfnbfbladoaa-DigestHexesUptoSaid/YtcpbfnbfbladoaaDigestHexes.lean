/-
  The law 'DigestHexes': the reading opened, the walk, the row.
-/
import Derived.Test.YtcpbfnbfbladoaaOpens
import Derived.Test.YtcpbfnbfbladoaaHexA
import Derived.Lib.LaidTab
namespace Go.Proofs.Ytcpbfnbfbladoaa.digestHexesUpto
open Go Go.RowKit Go.ChangeShapes Go.WideShapes Go.ChangeAt
set_option linter.unusedVariables false
set_option maxRecDepth 100000

theorem own : ownKnob Try.prog.godebug = none := by kernel_rfl
theorem laidOut : laidOutB Try.prog = true := by kernel_rfl

/-- What the walk gives, for every argument. -/
theorem contract (H : Type) (enc : TypeId × Value → H) (W : World) (base : Nat) (args : Array Value) (ds gs : List (DataW H)) (before : List MemPlace)
    (hval : ∀ (j : Nat) t v, Try.f7.params[j]? = some t → args[j]? = some v → Value.okWide Try.prog W .any base t v)
    (hW : DataW.Whole enc Try.prog Try.f7.params.toList Rows.digestHexesSpec.vars false W args.toList ds gs before)
    (hz : (DataW.weightsEach Try.prog (Try.f7.params.toList ++ (Rows.OpenSpec.upto Rows.digestHexesSpec).bare.plain.varTypes Try.prog) (ds ++ gs)).all (· ≤ reachBytes) = true)
    (hL : laidMetH Try.prog Rows.digestHexesUptoRow.laid W)
    (hk : Rows.uptoSmall H (ds ++ gs) = true)
    : Calls Try.prog 7 args W fun e W' => ∃ v, e = .returned v ∧ Rows.digestHexesSpec.post enc Try.prog Try.f7 false true false false W args v W' := by
  have hW' := hW
  obtain ⟨p, q, hA, hV, rfl, hfz, hnd⟩ := hW
  rw [@Try.params7] at hA hval hz
  obtain ⟨v0, vs0, d0, ds0, p0, q0, hargs, rfl, rfl, h0, r0⟩ := trodAll_cons hA
  obtain ⟨v1, vs1, d1, ds1, p1, q1, rfl, rfl, rfl, h1, r1⟩ := trodAll_cons r0
  obtain ⟨rfl, rfl, rfl⟩ := trodAll_nil r1
  obtain rfl : args = #[v0, v1] := by cases args; simp_all
  obtain ⟨rfl, rfl⟩ := trodVars_none hV
  have hbig : Rows.uptoBulkAll [d0, d1] ≤ 1048576 := of_decide_eq_true hk
  have u0 : Rows.uptoBulk d0 ≤ 1048576 := Nat.le_trans (bulk_each (j := 0) (ds := [d0, d1]) rfl) hbig
  have u1 : Rows.uptoBulk d1 ≤ 1048576 := Nat.le_trans (bulk_each (j := 1) (ds := [d0, d1]) rfl) hbig
  have z0 := each_of hz (j := 0) (t := 27) (d := d0) rfl rfl
  obtain ⟨_, _, rfl, a0⟩ := arg_one (one_slice Try.underlying27 (hval 0 27 v0 rfl rfl)) (op27 W) h0 z0
  have z1 := each_of hz (j := 1) (t := 9) (d := d1) rfl rfl
  obtain ⟨_, _, rfl, a1⟩ := arg_one (one_string Try.underlying9 (hval 1 9 v1 rfl rfl)) (op9 W) h1 z1
  obtain ⟨ao0, ca0, b, hv0, hl0, _, hc0, hr0, _⟩ := a0
  obtain rfl : v0 = .slice ao0 b.length ca0 := by simpa using hv0
  obtain ⟨⟨⟨s⟩⟩, hv1, _, hc1⟩ := a1
  obtain rfl : v1 = vS s := by simpa using hv1
  refine Calls.mono (law_hexes b s ao0 ca0 W hr0 (by omega) (by have h9 : s.length ≤ _ := hc1; omega)) fun e W' h => ?_
  obtain ⟨he, hg⟩ := h
  exact ⟨_, he, keeps laidOut (by kernel_rfl) rfl (by kernel_rfl) Try.underlying4 hW' rfl hg⟩
theorem laid_met (w : World) : laidMetH Try.prog Rows.digestHexesUptoRow.laid w := ⟨[], rfl, by simp, by simp⟩
theorem reads (os : Os) {H : Type} (enc : TypeId × Value → H) : ∃ places, DataW.whole enc Try.prog (((World.holding Try.prog os ⟨#[], #[], []⟩)).forCall (fun _ _ => 0) ⟨#[], #[.slice none 0 0, .string ⟨#[]⟩], []⟩).memory Try.f7.params.toList Rows.digestHexesSpec.vars false (#[.slice none 0 0, .string ⟨#[]⟩] : Array Value).toList 8 = some ([.nil, .lit (.string [])], [], places) :=
  ⟨[], by kernel_rfl⟩

/-- The form's step. -/
theorem lifted (os : Os) (started : os.Started) (H : Type) (enc : TypeId × Value → H) (F : Stop.Interp) :
    ReturnsInHanded {} Try.checked os 7 .any ((Rows.OpenSpec.upto Rows.digestHexesSpec).preRow enc Try.prog Try.f7 Rows.digestHexesUptoRow.domain false Rows.digestHexesUptoRow.laid) (((Rows.OpenSpec.upto Rows.digestHexesSpec).at F).post enc Try.prog Try.f7 false true false false) := by
  obtain ⟨places, hx⟩ := reads os enc
  refine returnsInHanded_of_row (C := Try.checked) (s := (Rows.OpenSpec.upto Rows.digestHexesSpec)) own started (by kernel_rfl) Try.func7
    (witness_row_at (enc := enc) (C := Try.checked) false (World.holding Try.prog os ⟨#[], #[], []⟩) #[.slice none 0 0, .string ⟨#[]⟩] rfl (by kernel_rfl) (by kernel_rfl) (by kernel_rfl)
      (OpenSpec.preRow_of_cond 8 hx (by kernel_rfl) (fun k hk => by cases hk; kernel_rfl) (by kernel_rfl) (laid_met _))) ?_
  intro W base args ds gs before hval hW _ hc hz hL _ _
  exact contract H enc W base args ds gs before hval hW hz hL (hc _ rfl)

/-- The row. -/
theorem said : Rows.DigestHexesUptoSaid :=
  OpenClaim.holds_of_cond 7 Try.f7 rfl rfl rfl rfl rfl rfl rfl ⟨rfl, rfl, rfl, rfl, rfl⟩ rfl rfl rfl rfl rfl (by kernel_rfl) Try.func7 (by kernel_rfl)
    (of_decide_eq_true (by kernel_rfl)) (by unfold Func.isWrapper; first | (rw [if_pos (by decide +kernel)]; kernel_rfl) | (rw [if_neg (by decide +kernel)]; exact ⟨rfl, rfl⟩))
    (fun os started H enc _ F => by rw [OpenClaim.pre_eq_preRow]; exact lifted os started H enc F)
end Go.Proofs.Ytcpbfnbfbladoaa.digestHexesUpto
