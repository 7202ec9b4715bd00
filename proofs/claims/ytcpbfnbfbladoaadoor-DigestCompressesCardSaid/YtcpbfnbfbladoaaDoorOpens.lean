/-
  The types of this seat that come in, opened.
-/
import Derived.Test.YtcpbfnbfbladoaaDoorRow
import Derived.Test.YtcpbfnbfbladoaaDoorFacts
namespace Go.Proofs.YtcpbfnbfbladoaaDoor
open Go Go.RowKit Go.ChangeShapes Go.WideShapes
set_option maxRecDepth 100000
theorem op22 (W : World) : Opens Tryd.prog W 22 (fun cs _ => ∃ x : UInt32, cs = [B32 x]) := Opens.u32 Tryd.underlying22
theorem op24 (W : World) : Opens Tryd.prog W 24 (fun cs _ => ∃ b : List UInt32, b.length = 8 ∧ cs = b.map B32) := Opens.arrayOf Tryd.underlying24 (by kernel_rfl) (op22 W)
theorem op5 (W : World) : Opens Tryd.prog W 5 (fun cs _ => ∃ x : UInt8, cs = [B8 x]) := Opens.u8 Tryd.underlying5
theorem op30 (W : World) : Opens Tryd.prog W 30 (fun cs _ => ∃ b : List UInt8, b.length = 64 ∧ cs = b.map B8) := Opens.arrayOf Tryd.underlying30 (by kernel_rfl) (op5 W)
end Go.Proofs.YtcpbfnbfbladoaaDoor
