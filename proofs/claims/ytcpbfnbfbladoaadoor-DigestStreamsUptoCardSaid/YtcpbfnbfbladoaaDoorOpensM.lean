/-
  The types of this seat that come in, opened.
-/
import Derived.Test.YtcpbfnbfbladoaaDoorRow
import Derived.Test.YtcpbfnbfbladoaaDoorFacts
import Derived.Test.YtcpbfnbfbladoaaDoorResP
import Derived.Test.YtcpbfnbfbladoaaDoorOpens
namespace Go.Proofs.YtcpbfnbfbladoaaDoor
open Go Go.RowKit Go.ChangeShapes Go.WideShapes
set_option maxRecDepth 100000
theorem op51 (W : World) : Opens Tryd.prog W 51 (fun cs n => ∃ st d ao cap, ∃ b : List UInt8, st.length = 8 ∧ cs = midc st d ao b.length cap ∧ (-9223372036854775808 ≤ d ∧ d ≤ 9223372036854775807) ∧ b.length ≤ cap ∧ cap * Tryd.prog.bytesOf 5 ≤ reachBytes ∧ cap ≤ n ∧ Rd W ao (b.map B8) ∧ (ao = none → cap = 0)) :=
  (Opens.struct (rs := [(8, _), (1, _), (1, _)]) Tryd.underlying51 (by kernel_rfl) ⟨rfl, by kernel_rfl, op24 W, rfl, by kernel_rfl, op3 W, rfl, by kernel_rfl, op33 W, trivial⟩).mono fun cs n ⟨k, hk, a, b, i1, j1, e, hij, _, ⟨x, hx, ex⟩, c, d, i2, j2, e', hij2, _, ⟨y, hy, hy2⟩, c2, d2, i3, j3, e2, hij3, _, ⟨ao, cap, bb, h1, h2, h3, h4, h5, h6⟩, e3⟩ =>
    ⟨x, y, ao, cap, bb, hx, by rw [e, ex, e', hy, e2, h1, e3]; rfl, hy2, h2, h3, by omega, h5, h6⟩
end Go.Proofs.YtcpbfnbfbladoaaDoor
