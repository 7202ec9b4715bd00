/-
  The types of this seat that come in, opened.
-/
import Derived.Test.YtcpbfnbfbladoaaRow
namespace Go.Proofs.Ytcpbfnbfbladoaa
open Go Go.RowKit Go.ChangeShapes Go.WideShapes
set_option maxRecDepth 100000
theorem op5 (W : World) : Opens Try.prog W 5 (fun cs => ∃ x : UInt8, cs = [B8 x]) := Opens.u8 Try.underlying5
theorem op32 (W : World) : Opens Try.prog W 32 (fun cs => ∃ b : List UInt8, b.length = 64 ∧ cs = b.map B8) := Opens.arrayOf Try.underlying32 (by kernel_rfl) (op5 W)
end Go.Proofs.Ytcpbfnbfbladoaa
