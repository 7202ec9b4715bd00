/-
  The tables that the rows lay.
-/
import Derived.Test.YtjdolgfhcjnniaaDoorOpens
import Derived.Test.YtjdolgfhcjnniaaDoorCompP
import Derived.Lib.LaidTab
namespace Go.Proofs.YtjdolgfhcjnniaaDoor
open Go Go.RowKit

/-! What a row lays: each listed variable's cells. -/
open Go.ChangeShapes Go.WideShapes in
theorem laidVars_mem {P : Program} {w : World} {n : String} {d : DataW Unit} : ∀ {l : List (String × DataW Unit)} {ps : List MemPlace}, DataW.LaidVars P w l ps → (n, d) ∈ l →
    ∃ g t cs fuel p, P.globalNamed n = some g ∧ (P.globals[g]?).map (·.type) = some t ∧ w.var? P n = some cs ∧ DataW.trod (fun _ => ()) P w 0 (fun _ => true) false fuel t cs.toList = some (d, p)
  | (m, e) :: l, ps, h, hm => by
    obtain ⟨g, t, cs, fuel, p, q, h1, h2, h3, h4, h5, _⟩ := h
    rcases List.mem_cons.1 hm with he | hm
    · obtain ⟨rfl, rfl⟩ := Prod.mk.inj he
      exact ⟨g, t, cs, fuel, p, h1, h2, h3, h4⟩
    · exact laidVars_mem h5 hm
  | [], _, _, hm => by simp at hm
theorem tab_cells {P : Program} {W : World} {name : String} {zs : List UInt32} {laid : List (String × DataW Unit)} {g : Nat} {t e : TypeId} {n : Nat}
    (hg : P.globalNamed name = some g) (hty : (P.globals[g]?).map (·.type) = some t) (ht : P.underlying t = some (.array n e)) (he : P.underlying e = some (.int .u32)) (hce : P.cellsOf e = 1) (hct : P.cellsOf t = n)
    {d : DataW Unit} (hd : d = Lib.tabData .u32 (zs.map fun x => (x.toNat : Int))) (hm : (name, d) ∈ laid) (h : laidMet P laid W) : Cells W g 0 (zs.map B32) := by
  subst hd
  obtain ⟨ps, h, _⟩ := h
  obtain ⟨g', t', cs, fuel, p, hg', ht', hvar, hdd⟩ := laidVars_mem h hm
  obtain rfl := Option.some.inj (hg.symm.trans hg')
  obtain rfl := Option.some.inj (hty.symm.trans ht')
  have htab : Lib.TabIs P W name .u32 (zs.map fun x => (x.toNat : Int)) := by
    unfold Lib.TabIs
    rw [hvar, ← Lib.cells_of_tab ht he hce hct hdd]
  intro j v hj
  have hjl := (List.getElem?_eq_some_iff.1 hj).1
  simp only [List.length_map] at hjl
  have := htab.cell hg j (by simpa using hjl)
  rw [Nat.zero_add, this, ← hj, List.getElem?_map, List.getElem?_eq_getElem hjl]
  simp [List.getD, hjl]
theorem laidK {W : World} {laid : List (String × DataW Unit)} (hm : ("torrent/digest.roundConstants", (Rows.laid_torrent_digest_roundConstants : DataW Unit)) ∈ laid) (h : laidMet Tryd.prog laid W) : Cells W 1 0 (kL.map B32) :=
  tab_cells (by kernel_rfl) (by kernel_rfl) Tryd.underlying138 Tryd.underlying121 (by kernel_rfl) (by kernel_rfl) (by kernel_rfl) hm h

theorem laidF {W : World} {laid : List (String × DataW Unit)} (hm : ("torrent/digest.firstState", (Rows.laid_torrent_digest_firstState : DataW Unit)) ∈ laid) (h : laidMet Tryd.prog laid W) : Cells W 0 0 (fL.map B32) :=
  tab_cells (by kernel_rfl) (by kernel_rfl) Tryd.underlying122 Tryd.underlying121 (by kernel_rfl) (by kernel_rfl) (by kernel_rfl) hm h

end Go.Proofs.YtjdolgfhcjnniaaDoor
