/-
  The types of this seat that come in, opened.
-/
import Derived.Test.YtcjnpaikmcjjlaaDoorRow
import Derived.Test.YtcjnpaikmcjjlaaDoorFacts
import Derived.Test.YtcjnpaikmcjjlaaDoorPrfP
namespace Go.Proofs.YtcjnpaikmcjjlaaDoor
open Go Go.RowKit Go.ChangeShapes Go.WideShapes
set_option maxRecDepth 100000
theorem op3 (W : World) : Opens Tryd.prog W 3 (fun cs _ => ∃ n, cs = [.int .i64 n] ∧ -9223372036854775808 ≤ n ∧ n ≤ 9223372036854775807) := Opens.i64 Tryd.underlying3
theorem op5 (W : World) : Opens Tryd.prog W 5 (fun cs _ => ∃ x : UInt8, cs = [B8 x]) := Opens.u8 Tryd.underlying5
theorem op23 (W : World) : Opens Tryd.prog W 23 (fun cs _ => ∃ b : List UInt8, b.length = 32 ∧ cs = b.map B8) := Opens.arrayOf Tryd.underlying23 (by kernel_rfl) (op5 W)
theorem op25 (W : World) : Opens Tryd.prog W 25 (fun cs _ => ∃ q : Qr, cs = qcs q ∧ QOk q) :=
  (Opens.struct (rs := [(32, _), (1, _), (1, _), (1, _), (1, _)]) Tryd.underlying25 (by kernel_rfl) ⟨rfl, by kernel_rfl, op23 W, rfl, by kernel_rfl, op3 W, rfl, by kernel_rfl, op3 W, rfl, by kernel_rfl, op3 W, rfl, by kernel_rfl, op3 W, trivial⟩).mono fun cs n ⟨k, _, a, b, _, _, e, _, _, ⟨x, hx, ex⟩, c, d, _, _, e', _, _, ⟨y, hy, hy2⟩, c2, d2, _, _, e2, _, _, ⟨z, hz, hz2⟩, c3, d3, _, _, e3, _, _, ⟨u, hu, hu2⟩, c4, d4, _, _, e4, _, _, ⟨v, hv, hv2⟩, e5⟩ =>
    ⟨⟨x, hx, y, z, u, v⟩, by rw [e, ex, e', hy, e2, hz, e3, hu, e4, hv, e5]; simp [qcs], hy2, hz2, hu2, hv2⟩
end Go.Proofs.YtcjnpaikmcjjlaaDoor
