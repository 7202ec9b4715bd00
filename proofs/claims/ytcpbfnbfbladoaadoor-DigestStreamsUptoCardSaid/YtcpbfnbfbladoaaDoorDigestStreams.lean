/-
  The law 'DigestStreams': the reading opened, the walk, the row and its card.
-/
import Derived.Test.YtcpbfnbfbladoaaDoorOpens
import Derived.Test.YtcpbfnbfbladoaaDoorLaid
import Derived.Test.YtcpbfnbfbladoaaDoorOpensS
import Derived.Test.YtcpbfnbfbladoaaDoorStmL
import Derived.Test.YtcpbfnbfbladoaaDoorCards
import Derived.Test.YtcpbfnbfbladoaaDoorTie
import Derived.Lib.LaidTab
namespace Go.Proofs.YtcpbfnbfbladoaaDoor.digestStreamsUpto
open Go Go.RowKit Go.ChangeShapes Go.WideShapes Go.ChangeAt
set_option linter.unusedVariables false
set_option maxRecDepth 100000

theorem own : ownKnob Tryd.prog.godebug = none := by kernel_rfl
theorem laidOut : laidOutB Tryd.prog = true := by kernel_rfl

/-- What the walk gives, for every argument. -/
theorem contract (H : Type) (enc : TypeId × Value → H) (W : World) (base : Nat) (args : Array Value) (ds gs : List (DataW H)) (before : List MemPlace)
    (hval : ∀ (j : Nat) t v, Tryd.f9.params[j]? = some t → args[j]? = some v → Value.okWide Tryd.prog W .any base t v)
    (hW : DataW.Whole enc Tryd.prog Tryd.f9.params.toList Rows.digestStreamsSpec.vars false W args.toList ds gs before)
    (hz : (DataW.weightsEach Tryd.prog (Tryd.f9.params.toList ++ (Rows.OpenSpec.upto Rows.digestStreamsSpec).bare.plain.varTypes Tryd.prog) (ds ++ gs)).all (· ≤ reachBytes) = true)
    (hL : laidMetH Tryd.prog Rows.digestStreamsUptoRow.laid W)
    (hk : Rows.uptoSmall H (ds ++ gs) = true)
    : Calls Tryd.prog 9 args W fun e W' => ∃ v, e = .returned v ∧ Rows.digestStreamsSpec.post enc Tryd.prog Tryd.f9 false true false false W args v W' := by
  have hW' := hW
  obtain ⟨p, q, hA, hV, rfl, hfz, hnd⟩ := hW
  rw [@Tryd.params9] at hA hval hz
  obtain ⟨v0, vs0, d0, ds0, p0, q0, hargs, rfl, rfl, h0, r0⟩ := trodAll_cons hA
  obtain ⟨rfl, rfl, rfl⟩ := trodAll_nil r0
  obtain rfl : args = #[v0] := by cases args; simp_all
  obtain ⟨rfl, rfl⟩ := trodVars_none hV
  have hbig : Rows.uptoBulkAll [d0] ≤ 1048576 := of_decide_eq_true hk
  have u0 : Rows.uptoBulk d0 ≤ 1048576 := Nat.le_trans (bulk_each (j := 0) (ds := [d0]) rfl) hbig
  have z0 := each_of hz (j := 0) (t := 66) (d := d0) rfl rfl
  obtain ⟨_, _, rfl, a0⟩ := arg_one (one_slice Tryd.underlying66 (hval 0 66 v0 rfl rfl)) (op66 W) h0 z0
  obtain ⟨ao0, ca0, l, hv0, hl0, hcr0, hc0, hr0, hq0, hs0, hn0⟩ := a0
  obtain rfl : v0 = .slice ao0 l.length ca0 := by simpa using hv0
  have hk : Cells W 0 0 (kL.map B32) := laidK (List.mem_cons_self) hL
  have hf : Cells W 1 0 (fL.map B32) := laidF (List.mem_cons_of_mem _ List.mem_cons_self) hL
  refine Calls.mono (law_streams l ao0 ca0 W hr0 hq0 (Nat.le_trans (slen_sum l) (Nat.le_trans hs0 u0)) (fun o ho => Nat.le_trans (slen_le ho) (Nat.le_trans hs0 u0)) (by omega) hk hf) fun e W' h => ?_
  obtain ⟨he, hg⟩ := h
  exact ⟨_, he, keeps laidOut (by kernel_rfl) rfl (by kernel_rfl) Tryd.underlying4 hW' rfl hg⟩

/-- A world for the witness: the settled one, the tables holding what their initialisers lay. -/
noncomputable def laidWorld (os : Os) : World :=
  { World.holding Tryd.prog os ⟨#[], #[], []⟩ with heap := (((World.holding Tryd.prog os ⟨#[], #[], []⟩).heap.modify 0 fun | .cells _ t frozen => .cells (kL.map B32).toArray t frozen | o => o).modify 1 fun | .cells _ t frozen => .cells (fL.map B32).toArray t frozen | o => o) }
theorem laid_met (os : Os) : laidMetH Tryd.prog Rows.digestStreamsUptoRow.laid (((laidWorld os)).forCall (fun _ _ => 0) ⟨#[], #[.slice none 0 0], []⟩).memory :=
  laidMet_of_run' 8 (by kernel_rfl) (by kernel_rfl)
theorem reads (os : Os) {H : Type} (enc : TypeId × Value → H) : ∃ places, DataW.whole enc Tryd.prog (((laidWorld os)).forCall (fun _ _ => 0) ⟨#[], #[.slice none 0 0], []⟩).memory Tryd.f9.params.toList Rows.digestStreamsSpec.vars false (#[.slice none 0 0] : Array Value).toList 8 = some ([.nil], [], places) :=
  ⟨[], by kernel_rfl⟩

/-- The form's step. -/
theorem lifted (os : Os) (started : os.Started) (H : Type) (enc : TypeId × Value → H) (F : Stop.Interp) :
    ReturnsInHanded {} Tryd.checked os 9 .any ((Rows.OpenSpec.upto Rows.digestStreamsSpec).preRow enc Tryd.prog Tryd.f9 Rows.digestStreamsUptoRow.domain false Rows.digestStreamsUptoRow.laid) (((Rows.OpenSpec.upto Rows.digestStreamsSpec).at F).post enc Tryd.prog Tryd.f9 false true false false) := by
  obtain ⟨places, hx⟩ := reads os enc
  refine returnsInHanded_of_row (C := Tryd.checked) (s := (Rows.OpenSpec.upto Rows.digestStreamsSpec)) own started (by kernel_rfl) Tryd.func9
    (witness_row_at (enc := enc) (C := Tryd.checked) false (laidWorld os) #[.slice none 0 0] rfl (by kernel_rfl) (by kernel_rfl) (by kernel_rfl)
      (OpenSpec.preRow_of_cond 8 hx (by kernel_rfl) (fun k hk => by cases hk; kernel_rfl) (by kernel_rfl) (laid_met os))) ?_
  intro W base args ds gs before hval hW _ hc hz hL _ _
  exact contract H enc W base args ds gs before hval hW hz hL (hc _ rfl)

/-- The row. -/
theorem said : Rows.DigestStreamsUptoSaid :=
  OpenClaim.holds_of_cond 9 Tryd.f9 rfl rfl rfl rfl rfl rfl rfl ⟨rfl, rfl, rfl, rfl, rfl⟩ rfl rfl rfl rfl rfl (by kernel_rfl) Tryd.func9 (by kernel_rfl)
    (of_decide_eq_true (by kernel_rfl)) (by unfold Func.isWrapper; first | (rw [if_pos (by decide +kernel)]; kernel_rfl) | (rw [if_neg (by decide +kernel)]; exact ⟨rfl, rfl⟩))
    (fun os started H enc _ F => by rw [OpenClaim.pre_eq_preRow]; exact lifted os started H enc F)

/-- No parameter wants a stand-in; the program's own looks are off: what the card asks. -/
theorem plain (f : FuncId) (fn : Func) (hf : Tryd.pinned.checked.prog.funcNamed "torrent/torrentlaw1.DigestStreams" = some f) (hfn : Tryd.pinned.checked.prog.funcs[f]? = some fn) :
    false = Tryd.pinned.checked.prog.looks [] ∧ ∀ (j : Nat) t, fn.params[j]? = some t → Tryd.pinned.checked.prog.wantsStandIn t = false := by
  obtain rfl : f = 9 := Option.some.inj ((show Tryd.prog.funcNamed "torrent/torrentlaw1.DigestStreams" = some 9 by kernel_rfl).symm.trans hf) |>.symm
  obtain rfl : fn = Tryd.f9 := (Option.some.inj (Tryd.func9.symm.trans hfn)).symm
  refine ⟨by kernel_rfl, fun j t ht => ?_⟩
  rw [@Tryd.params9] at ht
  have hm : t ∈ ([66] : List TypeId) := by simpa using Array.mem_of_getElem? ht
  have hall : ([66] : List TypeId).all (fun t => !Tryd.prog.wantsStandIn t) = true := by kernel_rfl
  have h9 := List.all_eq_true.1 hall t hm
  have h8 : Tryd.prog.wantsStandIn t = false := by simpa using h9
  exact h8

/-- The card. -/
theorem card : Rows.DigestStreamsUptoCardSaid :=
  Claim7.holds_tied_plain_at .later [] _ _ _ _ said (fun _ h => by cases h) (by kernel_rfl) (fun _ h => by cases h) digestStreamsUpto_row_tie rfl ⟨rfl, rfl⟩ (by kernel_rfl) rfl plain (by kernel_rfl)
end Go.Proofs.YtcpbfnbfbladoaaDoor.digestStreamsUpto
