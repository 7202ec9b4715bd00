/-
  The law 'FrameBreaks': the reading opened, the walk, the row.
-/
import Derived.Test.YthebbenfmoknbaaOpens
import Derived.Test.YthebbenfmoknbaaBrkA
import Derived.Lib.LaidTab
namespace Go.Proofs.Ythebbenfmoknbaa.frameBreaksUpto
open Go Go.RowKit Go.ChangeShapes Go.WideShapes Go.ChangeAt
set_option linter.unusedVariables false
set_option maxRecDepth 100000

theorem own : ownKnob Try.prog.godebug = none := by kernel_rfl
theorem laidOut : laidOutB Try.prog = true := by kernel_rfl

/-- What the walk gives, for every argument. -/
theorem contract (H : Type) (enc : TypeId × Value → H) (W : World) (base : Nat) (args : Array Value) (ds gs : List (DataW H)) (before : List MemPlace)
    (hval : ∀ (j : Nat) t v, Try.f10.params[j]? = some t → args[j]? = some v → Value.okWide Try.prog W .any base t v)
    (hW : DataW.Whole enc Try.prog Try.f10.params.toList Rows.frameBreaksSpec.vars false W args.toList ds gs before)
    (hz : (DataW.weightsEach Try.prog (Try.f10.params.toList ++ (Rows.OpenSpec.upto Rows.frameBreaksSpec).bare.plain.varTypes Try.prog) (ds ++ gs)).all (· ≤ reachBytes) = true)
    (hL : laidMetH Try.prog Rows.frameBreaksUptoRow.laid W)
    (hk : Rows.uptoSmall H (ds ++ gs) = true)
    : Calls Try.prog 10 args W fun e W' => ∃ v, e = .returned v ∧ Rows.frameBreaksSpec.post enc Try.prog Try.f10 false true false false W args v W' := by
  have hW' := hW
  obtain ⟨p, q, hA, hV, rfl, hfz, hnd⟩ := hW
  rw [@Try.params10] at hA hval hz
  obtain ⟨v0, vs0, d0, ds0, p0, q0, hargs, rfl, rfl, h0, r0⟩ := trodAll_cons hA
  obtain ⟨v1, vs1, d1, ds1, p1, q1, rfl, rfl, rfl, h1, r1⟩ := trodAll_cons r0
  obtain ⟨v2, vs2, d2, ds2, p2, q2, rfl, rfl, rfl, h2, r2⟩ := trodAll_cons r1
  obtain ⟨v3, vs3, d3, ds3, p3, q3, rfl, rfl, rfl, h3, r3⟩ := trodAll_cons r2
  obtain ⟨rfl, rfl, rfl⟩ := trodAll_nil r3
  obtain rfl : args = #[v0, v1, v2, v3] := by cases args; simp_all
  obtain ⟨rfl, rfl⟩ := trodVars_none hV
  have hbig : Rows.uptoBulkAll [d0, d1, d2, d3] ≤ 1048576 := of_decide_eq_true hk
  have u0 : Rows.uptoBulk d0 ≤ 1048576 := Nat.le_trans (bulk_each (j := 0) (ds := [d0, d1, d2, d3]) rfl) hbig
  have u1 : Rows.uptoBulk d1 ≤ 1048576 := Nat.le_trans (bulk_each (j := 1) (ds := [d0, d1, d2, d3]) rfl) hbig
  have u2 : Rows.uptoBulk d2 ≤ 1048576 := Nat.le_trans (bulk_each (j := 2) (ds := [d0, d1, d2, d3]) rfl) hbig
  have u3 : Rows.uptoBulk d3 ≤ 1048576 := Nat.le_trans (bulk_each (j := 3) (ds := [d0, d1, d2, d3]) rfl) hbig
  have z0 := each_of hz (j := 0) (t := 37) (d := d0) rfl rfl
  obtain ⟨_, _, rfl, a0⟩ := arg_one (one_slice Try.underlying37 (hval 0 37 v0 rfl rfl)) (op37 W) h0 z0
  have z1 := each_of hz (j := 1) (t := 3) (d := d1) rfl rfl
  obtain ⟨_, _, rfl, a1⟩ := arg_one (one_int Try.underlying3 (hval 1 3 v1 rfl rfl)) (op3 W) h1 z1
  have z2 := each_of hz (j := 2) (t := 55) (d := d2) rfl rfl
  obtain ⟨_, _, rfl, a2⟩ := arg_one (one_slice Try.underlying55 (hval 2 55 v2 rfl rfl)) (op55 W) h2 z2
  have z3 := each_of hz (j := 3) (t := 26) (d := d3) rfl rfl
  obtain ⟨_, _, rfl, a3⟩ := arg_one (one_slice Try.underlying26 (hval 3 26 v3 rfl rfl)) (op26 W) h3 z3
  obtain ⟨ao0, ca0, l, hv0, hl0, hcr0, hc0, hr0, hq0, hs0, hw0, hn0⟩ := a0
  obtain rfl : v0 = .slice ao0 l.length ca0 := by simpa using hv0
  obtain ⟨n, hv1, hlo1, hhi1⟩ := a1
  obtain rfl : v1 = .int .i64 n := by simpa using hv1
  obtain ⟨ao2, ca2, cuts, hv2, hl2, hcr2, hc2, hr2, hn2⟩ := a2
  obtain rfl : v2 = .slice ao2 cuts.length ca2 := by simpa using hv2
  obtain ⟨ao3, ca3, more, hv3, hl3, hcr3, hc3, hr3, hn3⟩ := a3
  obtain rfl : v3 = .slice ao3 more.length ca3 := by simpa using hv3
  rw [show Try.prog.bytesOf 5 = 1 by kernel_rfl, Nat.mul_one] at hcr3
  have hz3 : more.length ≤ 140737488351232 := Nat.le_trans hl3 (Nat.le_trans hcr3 (by decide))
  have hez : ∀ s ∈ l, s.bs.length ≤ 1048576 := fun s hs => Nat.le_trans (le_sum_of hs) (Nat.le_trans hs0 u0)
  refine Calls.mono (law_breaks l n cuts more ao0 ao2 ao3 ca0 ca2 ca3 W hr0 hq0 (by omega) (by omega) hez hr2 hr3 (by omega) (by omega)) fun e W' h => ?_
  obtain ⟨he, hg⟩ := h
  exact ⟨_, he, keeps laidOut (by kernel_rfl) rfl (by kernel_rfl) Try.underlying4 hW' rfl hg⟩
theorem laid_met (w : World) : laidMetH Try.prog Rows.frameBreaksUptoRow.laid w := ⟨[], rfl, by simp, by simp⟩
theorem reads (os : Os) {H : Type} (enc : TypeId × Value → H) : ∃ places, DataW.whole enc Try.prog (((World.holding Try.prog os ⟨#[], #[], []⟩)).forCall (fun _ _ => 0) ⟨#[], #[.slice none 0 0, .int .i64 0, .slice none 0 0, .slice none 0 0], []⟩).memory Try.f10.params.toList Rows.frameBreaksSpec.vars false (#[.slice none 0 0, .int .i64 0, .slice none 0 0, .slice none 0 0] : Array Value).toList 8 = some ([.nil, .lit (.int .i64 0), .nil, .nil], [], places) :=
  ⟨[], by kernel_rfl⟩

/-- The form's step. -/
theorem lifted (os : Os) (started : os.Started) (H : Type) (enc : TypeId × Value → H) (F : Stop.Interp) :
    ReturnsInHanded {} Try.checked os 10 .any ((Rows.OpenSpec.upto Rows.frameBreaksSpec).preRow enc Try.prog Try.f10 Rows.frameBreaksUptoRow.domain false Rows.frameBreaksUptoRow.laid) (((Rows.OpenSpec.upto Rows.frameBreaksSpec).at F).post enc Try.prog Try.f10 false true false false) := by
  obtain ⟨places, hx⟩ := reads os enc
  refine returnsInHanded_of_row (C := Try.checked) (s := (Rows.OpenSpec.upto Rows.frameBreaksSpec)) own started (by kernel_rfl) Try.func10
    (witness_row_at (enc := enc) (C := Try.checked) false (World.holding Try.prog os ⟨#[], #[], []⟩) #[.slice none 0 0, .int .i64 0, .slice none 0 0, .slice none 0 0] rfl (by kernel_rfl) (by kernel_rfl) (by kernel_rfl)
      (OpenSpec.preRow_of_cond 8 hx (by kernel_rfl) (fun k hk => by cases hk; kernel_rfl) (by kernel_rfl) (laid_met _))) ?_
  intro W base args ds gs before hval hW _ hc hz hL _ _
  exact contract H enc W base args ds gs before hval hW hz hL (hc _ rfl)

/-- The row. -/
theorem said : Rows.FrameBreaksUptoSaid :=
  OpenClaim.holds_of_cond 10 Try.f10 rfl rfl rfl rfl rfl rfl rfl ⟨rfl, rfl, rfl, rfl, rfl⟩ rfl rfl rfl rfl rfl (by kernel_rfl) Try.func10 (by kernel_rfl)
    (of_decide_eq_true (by kernel_rfl)) (by unfold Func.isWrapper; first | (rw [if_pos (by decide +kernel)]; kernel_rfl) | (rw [if_neg (by decide +kernel)]; exact ⟨rfl, rfl⟩))
    (fun os started H enc _ F => by rw [OpenClaim.pre_eq_preRow]; exact lifted os started H enc F)
end Go.Proofs.Ythebbenfmoknbaa.frameBreaksUpto
