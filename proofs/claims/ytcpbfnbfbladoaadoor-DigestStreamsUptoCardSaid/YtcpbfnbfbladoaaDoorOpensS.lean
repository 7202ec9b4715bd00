/-
  The types of this seat that come in, opened.
-/
import Derived.Test.YtcpbfnbfbladoaaDoorRow
import Derived.Test.YtcpbfnbfbladoaaDoorFacts
import Derived.Test.YtcpbfnbfbladoaaDoorStmP
import Derived.Test.YtcpbfnbfbladoaaDoorOpensM
namespace Go.Proofs.YtcpbfnbfbladoaaDoor
open Go Go.RowKit Go.ChangeShapes Go.WideShapes
set_option maxRecDepth 100000
theorem op70 (W : World) : Opens Tryd.prog W 70 (fun cs n => ∃ o : So, cs = socs o ∧ ((Rd W o.d.ao (o.d.bs.map B8) ∧ o.d.bs.length ≤ o.d.cap) ∧ (Rd W o.m.ao (o.m.bs.map B8) ∧ o.m.bs.length ≤ o.m.cap)) ∧ slen o ≤ n) :=
  (Opens.struct (rs := [(1, _), (1, _), (1, _), (1, _), (10, _)]) Tryd.underlying70 (by kernel_rfl) ⟨rfl, by kernel_rfl, op3 W, rfl, by kernel_rfl, op3 W, rfl, by kernel_rfl, op3 W, rfl, by kernel_rfl, op33 W, rfl, by kernel_rfl, op51 W, trivial⟩).mono fun cs n ⟨k, hk, a, b, i1, j1, e, hij, _, ⟨x, hx, _⟩, c, d, i2, j2, e', hij2, _, ⟨y, hy, _⟩, c2, d2, i3, j3, e2, hij3, _, ⟨z, hz, _⟩, c3, d3, i4, j4, e3, hij4, _, ⟨ao, cap, bb, h1, h2, h3, h4, h5, h6⟩, c4, d4, i5, j5, e4, hij5, _, ⟨st, md, mo, mc, mb, g1, g2, g3, g4, g5, g6, g7, g8⟩, e5⟩ =>
    ⟨⟨x, y, z, ⟨ao, bb, cap⟩, st, g1, md, ⟨mo, mb, mc⟩⟩, by rw [e, hx, e', hy, e2, hz, e3, h1, e4, g2, e5, List.append_nil]; rfl, ⟨⟨h5, h2⟩, ⟨g7, g4⟩⟩, by show bb.length + mb.length ≤ n; omega⟩
theorem op66 (W : World) : Opens Tryd.prog W 66 (fun cs n => ∃ ao cap, ∃ b : List So, cs = [.slice ao b.length cap] ∧ b.length ≤ cap ∧ cap * Tryd.prog.bytesOf 70 ≤ reachBytes ∧ cap ≤ n ∧ Rd W ao (b.flatMap socs) ∧ RdSo W b ∧ (b.map slen).sum ≤ n ∧ (ao = none → cap = 0)) :=
  Opens.slicesOf (f := socs) (Q := fun o => (Rd W o.d.ao (o.d.bs.map B8) ∧ o.d.bs.length ≤ o.d.cap) ∧ (Rd W o.m.ao (o.m.bs.map B8) ∧ o.m.bs.length ≤ o.m.cap)) (sz := slen) Tryd.underlying66 (op70 W)
end Go.Proofs.YtcpbfnbfbladoaaDoor
