/-
  The types of this seat that come in, opened.
-/
import Derived.Test.YtcpbfnbfbladoaaRow
import Derived.Test.YtcpbfnbfbladoaaFacts
namespace Go.Proofs.Ytcpbfnbfbladoaa
open Go Go.RowKit Go.ChangeShapes Go.WideShapes
set_option maxRecDepth 100000
theorem op5 (W : World) : Opens Try.prog W 5 (fun cs _ => ∃ x : UInt8, cs = [B8 x]) := Opens.u8 Try.underlying5
theorem op32 (W : World) : Opens Try.prog W 32 (fun cs _ => ∃ b : List UInt8, b.length = 64 ∧ cs = b.map B8) := Opens.arrayOf Try.underlying32 (by kernel_rfl) (op5 W)
theorem op3 (W : World) : Opens Try.prog W 3 (fun cs _ => ∃ n, cs = [.int .i64 n] ∧ -9223372036854775808 ≤ n ∧ n ≤ 9223372036854775807) := Opens.i64 Try.underlying3
theorem op23 (W : World) : Opens Try.prog W 23 (fun cs _ => ∃ b w, cs = [.int .i64 b, .int .i64 w] ∧ (-9223372036854775808 ≤ b ∧ b ≤ 9223372036854775807) ∧ (-9223372036854775808 ≤ w ∧ w ≤ 9223372036854775807)) :=
  (Opens.struct (rs := [(1, _), (1, _)]) Try.underlying23 (by kernel_rfl) ⟨rfl, by kernel_rfl, op3 W, rfl, by kernel_rfl, op3 W, trivial⟩).mono fun cs n ⟨k, _, a, b, _, _, e, _, _, ⟨x, hx, h1, h2⟩, c, d, _, _, e', _, _, ⟨y, hy, h3, h4⟩, e''⟩ =>
    ⟨x, y, by rw [e, hx, e', hy, e'']; rfl, ⟨h1, h2⟩, ⟨h3, h4⟩⟩
theorem op27 (W : World) : Opens Try.prog W 27 (fun cs n => ∃ ao cap, ∃ b : List UInt8, cs = [.slice ao b.length cap] ∧ b.length ≤ cap ∧ cap * Try.prog.bytesOf 5 ≤ reachBytes ∧ cap ≤ n ∧ Rd W ao (b.map B8) ∧ (ao = none → cap = 0)) := Opens.sliceOf Try.underlying27 (op5 W)
theorem op9 (W : World) : Opens Try.prog W 9 (fun cs n => ∃ s : ByteArray, cs = [.string s] ∧ s.size ≤ reachBytes ∧ s.size ≤ n) := Opens.string Try.underlying9
end Go.Proofs.Ytcpbfnbfbladoaa
