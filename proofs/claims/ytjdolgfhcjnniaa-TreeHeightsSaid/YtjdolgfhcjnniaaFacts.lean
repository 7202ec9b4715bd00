/-
  Closed facts of the program that the walks use.
-/
import Derived.Test.YtjdolgfhcjnniaaEq
namespace Go.Proofs.Ytjdolgfhcjnniaa
open Go Go.RowKit
set_option maxRecDepth 100000
theorem pl4 : Plain Try.prog 4 := plain_of Try.func4 (by kernel_rfl)
theorem pl5 : Plain Try.prog 5 := plain_of Try.func5 (by kernel_rfl)
theorem pl6 : Plain Try.prog 6 := plain_of Try.func6 (by kernel_rfl)
theorem pl7 : Plain Try.prog 7 := plain_of Try.func7 (by kernel_rfl)
theorem pl8 : Plain Try.prog 8 := plain_of Try.func8 (by kernel_rfl)
theorem pl10 : Plain Try.prog 10 := plain_of Try.func10 (by kernel_rfl)
end Go.Proofs.Ytjdolgfhcjnniaa
