/-
  The law 'TreeLeaves': the reading opened, the walk, the row and its card.
-/
import Derived.Test.YtjdolgfhcjnniaaDoorOpens
import Derived.Test.YtjdolgfhcjnniaaDoorLaid
import Derived.Test.YtjdolgfhcjnniaaDoorSamA
import Derived.Test.YtjdolgfhcjnniaaDoorCards
import Derived.Test.YtjdolgfhcjnniaaDoorTie
import Derived.Lib.LaidTab
namespace Go.Proofs.YtjdolgfhcjnniaaDoor.treeLeaves
open Go Go.RowKit Go.ChangeShapes Go.WideShapes Go.ChangeAt
set_option linter.unusedVariables false
set_option maxRecDepth 100000

theorem own : ownKnob Tryd.prog.godebug = none := by kernel_rfl
theorem laidOut : laidOutB Tryd.prog = true := by kernel_rfl

/-- What the walk gives, for every argument. -/
theorem contract (H : Type) (enc : TypeId × Value → H) (W : World) (base : Nat) (args : Array Value) (ds gs : List (DataW H)) (before : List MemPlace)
    (hval : ∀ (j : Nat) t v, Tryd.f3.params[j]? = some t → args[j]? = some v → Value.okWide Tryd.prog W .any base t v)
    (hW : DataW.Whole enc Tryd.prog Tryd.f3.params.toList Rows.treeLeavesSpec.vars false W args.toList ds gs before)
    (hz : (DataW.weightsEach Tryd.prog (Tryd.f3.params.toList ++ (OpenSpec.ofChange Rows.treeLeavesSpec).bare.plain.varTypes Tryd.prog) (ds ++ gs)).all (· ≤ reachBytes) = true)
    (hL : laidMetH Tryd.prog Rows.treeLeavesRow.laid W)
    : Calls Tryd.prog 3 args W fun e W' => ∃ v, e = .returned v ∧ Rows.treeLeavesSpec.post enc Tryd.prog Tryd.f3 false true false false W args v W' := by
  have hW' := hW
  obtain ⟨p, q, hA, hV, rfl, hfz, hnd⟩ := hW
  rw [@Tryd.params3] at hA hval hz
  obtain ⟨v0, vs0, d0, ds0, p0, q0, hargs, rfl, rfl, h0, r0⟩ := trodAll_cons hA
  obtain ⟨v1, vs1, d1, ds1, p1, q1, rfl, rfl, rfl, h1, r1⟩ := trodAll_cons r0
  obtain ⟨rfl, rfl, rfl⟩ := trodAll_nil r1
  obtain rfl : args = #[v0, v1] := by cases args; simp_all
  obtain ⟨rfl, rfl⟩ := trodVars_none hV
  have z0 := each_of hz (j := 0) (t := 23) (d := d0) rfl rfl
  obtain ⟨cs0, rfl, a0⟩ := arg_many (many_struct Tryd.underlying23 (hval 0 23 v0 rfl rfl)) (op23 W) h0 z0
  have z1 := each_of hz (j := 1) (t := 24) (d := d1) rfl rfl
  obtain ⟨_, _, rfl, a1⟩ := arg_one (one_slice Tryd.underlying24 (hval 1 24 v1 rfl rfl)) (op24 W) h1 z1
  obtain ⟨x, y, rfl, _⟩ := a0
  obtain ⟨ao1, ca1, b, hv1, hl1, hcr1, hc1, hr1, hn1⟩ := a1
  obtain rfl : v1 = .slice ao1 b.length ca1 := by simpa using hv1
  rw [show Tryd.prog.bytesOf 5 = 1 by kernel_rfl, Nat.mul_one] at hcr1
  have hz1 : b.length ≤ 140737488351232 := Nat.le_trans hl1 (Nat.le_trans hcr1 (by decide))
  have hk : Cells W 1 0 (kL.map B32) := laidK (by simp [Rows.treeLeavesRow]) hL
  have hf : Cells W 0 0 (fL.map B32) := laidF (by simp [Rows.treeLeavesRow]) hL
  refine Calls.mono (law_leaves x y b ao1 ca1 W hr1 hl1 hz1 hk hf) fun e W' h => ?_
  obtain ⟨he, hg⟩ := h
  exact ⟨_, he, keeps laidOut (by kernel_rfl) rfl (by kernel_rfl) Tryd.underlying4 hW' rfl hg⟩

/-- A world for the witness: the settled one, the tables holding what their initialisers lay. -/
noncomputable def laidWorld (os : Os) : World :=
  { World.holding Tryd.prog os ⟨#[], #[], []⟩ with heap := (((World.holding Tryd.prog os ⟨#[], #[], []⟩).heap.modify 0 fun | .cells _ t frozen => .cells (fL.map B32).toArray t frozen | o => o).modify 1 fun | .cells _ t frozen => .cells (kL.map B32).toArray t frozen | o => o) }
theorem laid_met (os : Os) : laidMetH Tryd.prog Rows.treeLeavesRow.laid (((laidWorld os)).forCall (fun _ _ => 0) ⟨#[], #[.agg #[.int .i64 0, .int .i64 0], .slice none 0 0], []⟩).memory :=
  laidMet_of_run' 8 (by kernel_rfl) (by kernel_rfl)
theorem reads (os : Os) {H : Type} (enc : TypeId × Value → H) : ∃ places, DataW.whole enc Tryd.prog (((laidWorld os)).forCall (fun _ _ => 0) ⟨#[], #[.agg #[.int .i64 0, .int .i64 0], .slice none 0 0], []⟩).memory Tryd.f3.params.toList Rows.treeLeavesSpec.vars false (#[.agg #[.int .i64 0, .int .i64 0], .slice none 0 0] : Array Value).toList 8 = some ([.agg [.lit (.int .i64 0), .lit (.int .i64 0)], .nil], [], places) :=
  ⟨[], by kernel_rfl⟩

/-- The form's step. -/
theorem lifted (os : Os) (started : os.Started) (H : Type) (enc : TypeId × Value → H) (F : Stop.Interp) :
    ReturnsInHanded {} Tryd.checked os 3 .any ((OpenSpec.ofChange Rows.treeLeavesSpec).preRow enc Tryd.prog Tryd.f3 Rows.treeLeavesRow.domain false Rows.treeLeavesRow.laid) (((OpenSpec.ofChange Rows.treeLeavesSpec).at F).post enc Tryd.prog Tryd.f3 false true false false) := by
  obtain ⟨places, hx⟩ := reads os enc
  refine returnsInHanded_of_row (C := Tryd.checked) (s := (OpenSpec.ofChange Rows.treeLeavesSpec)) own started (by kernel_rfl) Tryd.func3
    (witness_row_at (enc := enc) (C := Tryd.checked) false (laidWorld os) #[.agg #[.int .i64 0, .int .i64 0], .slice none 0 0] rfl (by kernel_rfl) (by kernel_rfl) (by kernel_rfl)
      (OpenSpec.preRow_of_cond 8 hx (by kernel_rfl) (fun k hk => by cases hk) (by kernel_rfl) (laid_met os))) ?_
  intro W base args ds gs before hval hW _ hc hz hL _ _
  exact contract H enc W base args ds gs before hval hW hz hL

/-- The row. -/
theorem said : Rows.TreeLeavesSaid :=
  OpenClaim.holds_of_cond 3 Tryd.f3 rfl rfl rfl rfl rfl rfl rfl ⟨rfl, rfl, rfl, rfl, rfl⟩ rfl rfl rfl rfl rfl (by kernel_rfl) Tryd.func3 (by kernel_rfl)
    (of_decide_eq_true (by kernel_rfl)) (by unfold Func.isWrapper; first | (rw [if_pos (by decide +kernel)]; kernel_rfl) | (rw [if_neg (by decide +kernel)]; exact ⟨rfl, rfl⟩))
    (fun os started H enc _ F => by rw [OpenClaim.pre_eq_preRow]; exact lifted os started H enc F)

/-- No parameter wants a stand-in; the program's own looks are off: what the card asks. -/
theorem plain (f : FuncId) (fn : Func) (hf : Tryd.pinned.checked.prog.funcNamed "torrent/torrentlaw6.TreeLeaves" = some f) (hfn : Tryd.pinned.checked.prog.funcs[f]? = some fn) :
    false = Tryd.pinned.checked.prog.looks [] ∧ ∀ (j : Nat) t, fn.params[j]? = some t → Tryd.pinned.checked.prog.wantsStandIn t = false := by
  obtain rfl : f = 3 := Option.some.inj ((show Tryd.prog.funcNamed "torrent/torrentlaw6.TreeLeaves" = some 3 by kernel_rfl).symm.trans hf) |>.symm
  obtain rfl : fn = Tryd.f3 := (Option.some.inj (Tryd.func3.symm.trans hfn)).symm
  refine ⟨by kernel_rfl, fun j t ht => ?_⟩
  rw [@Tryd.params3] at ht
  have hm : t ∈ ([23, 24] : List TypeId) := by simpa using Array.mem_of_getElem? ht
  have hall : ([23, 24] : List TypeId).all (fun t => !Tryd.prog.wantsStandIn t) = true := by kernel_rfl
  have h9 := List.all_eq_true.1 hall t hm
  have h8 : Tryd.prog.wantsStandIn t = false := by simpa using h9
  exact h8

/-- The card. -/
theorem card : Rows.TreeLeavesCardSaid :=
  Claim7.holds_tied_plain_at .later [] _ _ _ _ said (fun _ h => by cases h) (by kernel_rfl) (fun _ h => by cases h) treeLeaves_row_tie rfl ⟨rfl, rfl⟩ (by kernel_rfl) rfl plain (by kernel_rfl)
end Go.Proofs.YtjdolgfhcjnniaaDoor.treeLeaves
