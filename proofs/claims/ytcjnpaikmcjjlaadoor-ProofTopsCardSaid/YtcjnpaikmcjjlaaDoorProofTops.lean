/-
  The law 'ProofTops': the reading opened, the walk, the row and its card.
-/
import Derived.Test.YtcjnpaikmcjjlaaDoorOpens
import Derived.Test.YtcjnpaikmcjjlaaDoorTopA
import Derived.Test.YtcjnpaikmcjjlaaDoorLaid
import Derived.Test.YtcjnpaikmcjjlaaDoorCards
import Derived.Test.YtcjnpaikmcjjlaaDoorTie
import Derived.Lib.LaidTab
namespace Go.Proofs.YtcjnpaikmcjjlaaDoor.proofTops
open Go Go.RowKit Go.ChangeShapes Go.WideShapes Go.ChangeAt
set_option linter.unusedVariables false
set_option maxRecDepth 100000

theorem own : ownKnob Tryd.prog.godebug = none := by kernel_rfl
theorem laidOut : laidOutB Tryd.prog = true := by kernel_rfl

/-- What the walk gives, for every argument. -/
theorem contract (H : Type) (enc : TypeId × Value → H) (W : World) (base : Nat) (args : Array Value) (ds gs : List (DataW H)) (before : List MemPlace)
    (hval : ∀ (j : Nat) t v, Tryd.f5.params[j]? = some t → args[j]? = some v → Value.okWide Tryd.prog W .any base t v)
    (hW : DataW.Whole enc Tryd.prog Tryd.f5.params.toList Rows.proofTopsSpec.vars false W args.toList ds gs before)
    (hz : (DataW.weightsEach Tryd.prog (Tryd.f5.params.toList ++ (OpenSpec.ofChange Rows.proofTopsSpec).bare.plain.varTypes Tryd.prog) (ds ++ gs)).all (· ≤ reachBytes) = true)
    (hL : laidMetH Tryd.prog Rows.proofTopsRow.laid W)
    : Calls Tryd.prog 5 args W fun e W' => ∃ v, e = .returned v ∧ Rows.proofTopsSpec.post enc Tryd.prog Tryd.f5 false true false false W args v W' := by
  have hW' := hW
  obtain ⟨p, q, hA, hV, rfl, hfz, hnd⟩ := hW
  rw [@Tryd.params5] at hA hval hz
  obtain ⟨v0, vs0, d0, ds0, p0, q0, hargs, rfl, rfl, h0, r0⟩ := trodAll_cons hA
  obtain ⟨v1, vs1, d1, ds1, p1, q1, rfl, rfl, rfl, h1, r1⟩ := trodAll_cons r0
  obtain ⟨v2, vs2, d2, ds2, p2, q2, rfl, rfl, rfl, h2, r2⟩ := trodAll_cons r1
  obtain ⟨rfl, rfl, rfl⟩ := trodAll_nil r2
  obtain rfl : args = #[v0, v1, v2] := by cases args; simp_all
  obtain ⟨rfl, rfl⟩ := trodVars_none hV
  have z0 := each_of hz (j := 0) (t := 3) (d := d0) rfl rfl
  obtain ⟨_, _, rfl, a0⟩ := arg_one (one_int Tryd.underlying3 (hval 0 3 v0 rfl rfl)) (op3 W) h0 z0
  have z1 := each_of hz (j := 1) (t := 3) (d := d1) rfl rfl
  obtain ⟨_, _, rfl, a1⟩ := arg_one (one_int Tryd.underlying3 (hval 1 3 v1 rfl rfl)) (op3 W) h1 z1
  have z2 := each_of hz (j := 2) (t := 25) (d := d2) rfl rfl
  obtain ⟨cs2, rfl, a2⟩ := arg_many (many_struct Tryd.underlying25 (hval 2 25 v2 rfl rfl)) (op25 W) h2 z2
  obtain ⟨n, hv0, hlo0, hhi0⟩ := a0
  obtain rfl : v0 = .int .i64 n := by simpa using hv0
  obtain ⟨low, hv1, hlo1, hhi1⟩ := a1
  obtain rfl : v1 = .int .i64 low := by simpa using hv1
  obtain ⟨q, rfl, hq⟩ := a2
  have hdb : Cells W 2 0 (dbL.map B8) := laidDb (List.mem_cons_of_mem _ List.mem_cons_self) hL
  refine Calls.mono (law_tops n low ⟨hlo0, hhi0⟩ ⟨hlo1, hhi1⟩ q hq W hdb) fun e W' h => ?_
  obtain ⟨he, hg⟩ := h
  exact ⟨_, he, keeps laidOut (by kernel_rfl) rfl (by kernel_rfl) Tryd.underlying4 hW' rfl hg⟩

/-- A world for the witness: the settled one, the tables holding what their initialisers lay. -/
noncomputable def laidWorld (os : Os) : World :=
  { World.holding Tryd.prog os ⟨#[], #[], []⟩ with heap := (((World.holding Tryd.prog os ⟨#[], #[], []⟩).heap.modify 1 fun | .cells _ t frozen => .cells (([0, 1, 28, 2, 29, 14, 24, 3, 30, 22, 20, 15, 25, 17, 4, 8, 31, 27, 13, 23, 21, 19, 16, 7, 26, 12, 18, 6, 11, 5, 10, 9] : List UInt8).map B8).toArray t frozen | o => o).modify 2 fun | .cells _ t frozen => .cells (dbL.map B8).toArray t frozen | o => o) }
theorem laid_met (os : Os) : laidMetH Tryd.prog Rows.proofTopsRow.laid (((laidWorld os)).forCall (fun _ _ => 0) ⟨#[], #[.int .i64 0, .int .i64 0, .agg (List.replicate 32 (Value.int .u8 0) ++ List.replicate 4 (Value.int .i64 0)).toArray], []⟩).memory :=
  laidMet_of_run' 8 (by kernel_rfl) (by kernel_rfl)
theorem reads (os : Os) {H : Type} (enc : TypeId × Value → H) : ∃ places, DataW.whole enc Tryd.prog (((laidWorld os)).forCall (fun _ _ => 0) ⟨#[], #[.int .i64 0, .int .i64 0, .agg (List.replicate 32 (Value.int .u8 0) ++ List.replicate 4 (Value.int .i64 0)).toArray], []⟩).memory Tryd.f5.params.toList Rows.proofTopsSpec.vars false (#[.int .i64 0, .int .i64 0, .agg (List.replicate 32 (Value.int .u8 0) ++ List.replicate 4 (Value.int .i64 0)).toArray] : Array Value).toList 8 = some ([.lit (.int .i64 0), .lit (.int .i64 0), .agg [.agg (List.replicate 32 (.lit (.int .u8 0))), .lit (.int .i64 0), .lit (.int .i64 0), .lit (.int .i64 0), .lit (.int .i64 0)]], [], places) :=
  ⟨[], by kernel_rfl⟩

/-- The form's step. -/
theorem lifted (os : Os) (started : os.Started) (H : Type) (enc : TypeId × Value → H) (F : Stop.Interp) :
    ReturnsInHanded {} Tryd.checked os 5 .any ((OpenSpec.ofChange Rows.proofTopsSpec).preRow enc Tryd.prog Tryd.f5 Rows.proofTopsRow.domain false Rows.proofTopsRow.laid) (((OpenSpec.ofChange Rows.proofTopsSpec).at F).post enc Tryd.prog Tryd.f5 false true false false) := by
  obtain ⟨places, hx⟩ := reads os enc
  refine returnsInHanded_of_row (C := Tryd.checked) (s := (OpenSpec.ofChange Rows.proofTopsSpec)) own started (by kernel_rfl) Tryd.func5
    (witness_row_at (enc := enc) (C := Tryd.checked) false (laidWorld os) #[.int .i64 0, .int .i64 0, .agg (List.replicate 32 (Value.int .u8 0) ++ List.replicate 4 (Value.int .i64 0)).toArray] rfl (by kernel_rfl) (by kernel_rfl) (by kernel_rfl)
      (OpenSpec.preRow_of_cond 8 hx (by kernel_rfl) (fun k hk => by cases hk) (by kernel_rfl) (laid_met os))) ?_
  intro W base args ds gs before hval hW _ hc hz hL _ _
  exact contract H enc W base args ds gs before hval hW hz hL

/-- The row. -/
theorem said : Rows.ProofTopsSaid :=
  OpenClaim.holds_of_cond 5 Tryd.f5 rfl rfl rfl rfl rfl rfl rfl ⟨rfl, rfl, rfl, rfl, rfl⟩ rfl rfl rfl rfl rfl (by kernel_rfl) Tryd.func5 (by kernel_rfl)
    (of_decide_eq_true (by kernel_rfl)) (by unfold Func.isWrapper; first | (rw [if_pos (by decide +kernel)]; kernel_rfl) | (rw [if_neg (by decide +kernel)]; exact ⟨rfl, rfl⟩))
    (fun os started H enc _ F => by rw [OpenClaim.pre_eq_preRow]; exact lifted os started H enc F)

/-- No parameter wants a stand-in; the program's own looks are off: what the card asks. -/
theorem plain (f : FuncId) (fn : Func) (hf : Tryd.pinned.checked.prog.funcNamed "torrent/torrentlaw7.ProofTops" = some f) (hfn : Tryd.pinned.checked.prog.funcs[f]? = some fn) :
    false = Tryd.pinned.checked.prog.looks [] ∧ ∀ (j : Nat) t, fn.params[j]? = some t → Tryd.pinned.checked.prog.wantsStandIn t = false := by
  obtain rfl : f = 5 := Option.some.inj ((show Tryd.prog.funcNamed "torrent/torrentlaw7.ProofTops" = some 5 by kernel_rfl).symm.trans hf) |>.symm
  obtain rfl : fn = Tryd.f5 := (Option.some.inj (Tryd.func5.symm.trans hfn)).symm
  refine ⟨by kernel_rfl, fun j t ht => ?_⟩
  rw [@Tryd.params5] at ht
  have hm : t ∈ ([3, 3, 25] : List TypeId) := by simpa using Array.mem_of_getElem? ht
  have hall : ([3, 3, 25] : List TypeId).all (fun t => !Tryd.prog.wantsStandIn t) = true := by kernel_rfl
  have h9 := List.all_eq_true.1 hall t hm
  have h8 : Tryd.prog.wantsStandIn t = false := by simpa using h9
  exact h8

/-- The card. -/
theorem card : Rows.ProofTopsCardSaid :=
  Claim7.holds_tied_plain_at .later [] _ _ _ _ said (fun _ h => by cases h) (by kernel_rfl) (fun _ h => by cases h) proofTops_row_tie rfl ⟨rfl, rfl⟩ (by kernel_rfl) rfl plain (by kernel_rfl)
end Go.Proofs.YtcjnpaikmcjjlaaDoor.proofTops
