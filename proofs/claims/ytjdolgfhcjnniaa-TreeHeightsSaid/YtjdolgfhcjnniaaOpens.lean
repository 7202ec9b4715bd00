/-
  The types of this seat that come in, opened.
-/
import Derived.Test.YtjdolgfhcjnniaaRow
import Derived.Test.YtjdolgfhcjnniaaFacts
import Derived.Test.YtjdolgfhcjnniaaBitP
namespace Go.Proofs.Ytjdolgfhcjnniaa
open Go Go.RowKit Go.ChangeShapes Go.WideShapes
set_option maxRecDepth 100000
theorem op3 (W : World) : Opens Try.prog W 3 (fun cs _ => ∃ n, cs = [.int .i64 n] ∧ -9223372036854775808 ≤ n ∧ n ≤ 9223372036854775807) := Opens.i64 Try.underlying3
end Go.Proofs.Ytjdolgfhcjnniaa
