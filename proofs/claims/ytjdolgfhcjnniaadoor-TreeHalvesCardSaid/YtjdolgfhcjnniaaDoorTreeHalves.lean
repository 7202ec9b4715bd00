/-
  The law 'TreeHalves': the reading opened, the walk, the row and its card.
-/
import Derived.Test.YtjdolgfhcjnniaaDoorOpens
import Derived.Test.YtjdolgfhcjnniaaDoorLaid
import Derived.Test.YtjdolgfhcjnniaaDoorOpensR
import Derived.Test.YtjdolgfhcjnniaaDoorHalL
import Derived.Test.YtjdolgfhcjnniaaDoorCards
import Derived.Test.YtjdolgfhcjnniaaDoorTie
import Derived.Lib.LaidTab
namespace Go.Proofs.YtjdolgfhcjnniaaDoor.treeHalves
open Go Go.RowKit Go.ChangeShapes Go.WideShapes Go.ChangeAt
set_option linter.unusedVariables false
set_option maxRecDepth 100000

theorem own : ownKnob Tryd.prog.godebug = none := by kernel_rfl
theorem laidOut : laidOutB Tryd.prog = true := by kernel_rfl

/-- What the walk gives, for every argument. -/
theorem contract (H : Type) (enc : TypeId × Value → H) (W : World) (base : Nat) (args : Array Value) (ds gs : List (DataW H)) (before : List MemPlace)
    (hval : ∀ (j : Nat) t v, Tryd.f10.params[j]? = some t → args[j]? = some v → Value.okWide Tryd.prog W .any base t v)
    (hW : DataW.Whole enc Tryd.prog Tryd.f10.params.toList Rows.treeHalvesSpec.vars false W args.toList ds gs before)
    (hz : (DataW.weightsEach Tryd.prog (Tryd.f10.params.toList ++ (OpenSpec.ofChange Rows.treeHalvesSpec).bare.plain.varTypes Tryd.prog) (ds ++ gs)).all (· ≤ reachBytes) = true)
    (hL : laidMetH Tryd.prog Rows.treeHalvesRow.laid W)
    : Calls Tryd.prog 10 args W fun e W' => ∃ v, e = .returned v ∧ Rows.treeHalvesSpec.post enc Tryd.prog Tryd.f10 false true false false W args v W' := by
  have hW' := hW
  obtain ⟨p, q, hA, hV, rfl, hfz, hnd⟩ := hW
  rw [@Tryd.params10] at hA hval hz
  obtain ⟨v0, vs0, d0, ds0, p0, q0, hargs, rfl, rfl, h0, r0⟩ := trodAll_cons hA
  obtain ⟨v1, vs1, d1, ds1, p1, q1, rfl, rfl, rfl, h1, r1⟩ := trodAll_cons r0
  obtain ⟨v2, vs2, d2, ds2, p2, q2, rfl, rfl, rfl, h2, r2⟩ := trodAll_cons r1
  obtain ⟨rfl, rfl, rfl⟩ := trodAll_nil r2
  obtain rfl : args = #[v0, v1, v2] := by cases args; simp_all
  obtain ⟨rfl, rfl⟩ := trodVars_none hV
  have z0 := each_of hz (j := 0) (t := 23) (d := d0) rfl rfl
  obtain ⟨cs0, rfl, a0⟩ := arg_many (many_struct Tryd.underlying23 (hval 0 23 v0 rfl rfl)) (op23 W) h0 z0
  have z1 := each_of hz (j := 1) (t := 26) (d := d1) rfl rfl
  obtain ⟨_, _, rfl, a1⟩ := arg_one (one_slice Tryd.underlying26 (hval 1 26 v1 rfl rfl)) (op26 W) h1 z1
  have z2 := each_of hz (j := 2) (t := 3) (d := d2) rfl rfl
  obtain ⟨_, _, rfl, a2⟩ := arg_one (one_int Tryd.underlying3 (hval 2 3 v2 rfl rfl)) (op3 W) h2 z2
  obtain ⟨x, y, rfl, _⟩ := a0
  obtain ⟨ao1, ca1, b, hv1, hl1, hcr1, hc1, hr1, hn1⟩ := a1
  obtain rfl : v1 = .slice ao1 b.length ca1 := by simpa using hv1
  rw [show Tryd.prog.bytesOf 34 = 32 by kernel_rfl] at hcr1
  have h91 : reachBytes = 140737488351232 := rfl
  have hz1 : b.length ≤ 4398046511104 := (by omega)
  obtain ⟨fr, hv2, hlo2, hhi2⟩ := a2
  obtain rfl : v2 = .int .i64 fr := by simpa using hv2
  have hk : Cells W 1 0 (kL.map B32) := laidK (by simp [Rows.treeHalvesRow]) hL
  have hf : Cells W 0 0 (fL.map B32) := laidF (by simp [Rows.treeHalvesRow]) hL
  refine Calls.mono (law_halves x y b ao1 ca1 fr W hr1 hl1 (by omega) ⟨hlo2, hhi2⟩ hk hf) fun e W' h => ?_
  obtain ⟨he, hg⟩ := h
  exact ⟨_, he, keeps laidOut (by kernel_rfl) rfl (by kernel_rfl) Tryd.underlying4 hW' rfl hg⟩

/-- A world for the witness: the settled one, the tables holding what their initialisers lay. -/
noncomputable def laidWorld (os : Os) : World :=
  { World.holding Tryd.prog os ⟨#[], #[], []⟩ with heap := (((World.holding Tryd.prog os ⟨#[], #[], []⟩).heap.modify 0 fun | .cells _ t frozen => .cells (fL.map B32).toArray t frozen | o => o).modify 1 fun | .cells _ t frozen => .cells (kL.map B32).toArray t frozen | o => o) }
theorem laid_met (os : Os) : laidMetH Tryd.prog Rows.treeHalvesRow.laid (((laidWorld os)).forCall (fun _ _ => 0) ⟨#[], #[.agg #[.int .i64 0, .int .i64 0], .slice none 0 0, .int .i64 0], []⟩).memory :=
  laidMet_of_run' 8 (by kernel_rfl) (by kernel_rfl)
theorem reads (os : Os) {H : Type} (enc : TypeId × Value → H) : ∃ places, DataW.whole enc Tryd.prog (((laidWorld os)).forCall (fun _ _ => 0) ⟨#[], #[.agg #[.int .i64 0, .int .i64 0], .slice none 0 0, .int .i64 0], []⟩).memory Tryd.f10.params.toList Rows.treeHalvesSpec.vars false (#[.agg #[.int .i64 0, .int .i64 0], .slice none 0 0, .int .i64 0] : Array Value).toList 8 = some ([.agg [.lit (.int .i64 0), .lit (.int .i64 0)], .nil, .lit (.int .i64 0)], [], places) :=
  ⟨[], by kernel_rfl⟩

/-- The form's step. -/
theorem lifted (os : Os) (started : os.Started) (H : Type) (enc : TypeId × Value → H) (F : Stop.Interp) :
    ReturnsInHanded {} Tryd.checked os 10 .any ((OpenSpec.ofChange Rows.treeHalvesSpec).preRow enc Tryd.prog Tryd.f10 Rows.treeHalvesRow.domain false Rows.treeHalvesRow.laid) (((OpenSpec.ofChange Rows.treeHalvesSpec).at F).post enc Tryd.prog Tryd.f10 false true false false) := by
  obtain ⟨places, hx⟩ := reads os enc
  refine returnsInHanded_of_row (C := Tryd.checked) (s := (OpenSpec.ofChange Rows.treeHalvesSpec)) own started (by kernel_rfl) Tryd.func10
    (witness_row_at (enc := enc) (C := Tryd.checked) false (laidWorld os) #[.agg #[.int .i64 0, .int .i64 0], .slice none 0 0, .int .i64 0] rfl (by kernel_rfl) (by kernel_rfl) (by kernel_rfl)
      (OpenSpec.preRow_of_cond 8 hx (by kernel_rfl) (fun k hk => by cases hk) (by kernel_rfl) (laid_met os))) ?_
  intro W base args ds gs before hval hW _ hc hz hL _ _
  exact contract H enc W base args ds gs before hval hW hz hL

/-- The row. -/
theorem said : Rows.TreeHalvesSaid :=
  OpenClaim.holds_of_cond 10 Tryd.f10 rfl rfl rfl rfl rfl rfl rfl ⟨rfl, rfl, rfl, rfl, rfl⟩ rfl rfl rfl rfl rfl (by kernel_rfl) Tryd.func10 (by kernel_rfl)
    (of_decide_eq_true (by kernel_rfl)) (by unfold Func.isWrapper; first | (rw [if_pos (by decide +kernel)]; kernel_rfl) | (rw [if_neg (by decide +kernel)]; exact ⟨rfl, rfl⟩))
    (fun os started H enc _ F => by rw [OpenClaim.pre_eq_preRow]; exact lifted os started H enc F)

/-- No parameter wants a stand-in; the program's own looks are off: what the card asks. -/
theorem plain (f : FuncId) (fn : Func) (hf : Tryd.pinned.checked.prog.funcNamed "torrent/torrentlaw6.TreeHalves" = some f) (hfn : Tryd.pinned.checked.prog.funcs[f]? = some fn) :
    false = Tryd.pinned.checked.prog.looks [] ∧ ∀ (j : Nat) t, fn.params[j]? = some t → Tryd.pinned.checked.prog.wantsStandIn t = false := by
  obtain rfl : f = 10 := Option.some.inj ((show Tryd.prog.funcNamed "torrent/torrentlaw6.TreeHalves" = some 10 by kernel_rfl).symm.trans hf) |>.symm
  obtain rfl : fn = Tryd.f10 := (Option.some.inj (Tryd.func10.symm.trans hfn)).symm
  refine ⟨by kernel_rfl, fun j t ht => ?_⟩
  rw [@Tryd.params10] at ht
  have hm : t ∈ ([23, 26, 3] : List TypeId) := by simpa using Array.mem_of_getElem? ht
  have hall : ([23, 26, 3] : List TypeId).all (fun t => !Tryd.prog.wantsStandIn t) = true := by kernel_rfl
  have h9 := List.all_eq_true.1 hall t hm
  have h8 : Tryd.prog.wantsStandIn t = false := by simpa using h9
  exact h8

/-- The card. -/
theorem card : Rows.TreeHalvesCardSaid :=
  Claim7.holds_tied_plain_at .later [] _ _ _ _ said (fun _ h => by cases h) (by kernel_rfl) (fun _ h => by cases h) treeHalves_row_tie rfl ⟨rfl, rfl⟩ (by kernel_rfl) rfl plain (by kernel_rfl)
end Go.Proofs.YtjdolgfhcjnniaaDoor.treeHalves
