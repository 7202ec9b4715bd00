/-
  Closed facts of the program that the walks use.
-/
import Derived.Test.YtcjnpaikmcjjlaaEq
namespace Go.Proofs.Ytcjnpaikmcjjlaa
open Go Go.RowKit
set_option maxRecDepth 100000
theorem sz3 : (Try.prog.info? 3).map (·.size) = some 1 := by kernel_rfl
theorem sz31 : (Try.prog.info? 31).map (·.size) = some 36 := by kernel_rfl
theorem pl8 : Plain Try.prog 8 := plain_of Try.func8 (by kernel_rfl)
theorem pl9 : Plain Try.prog 9 := plain_of Try.func9 (by kernel_rfl)
theorem pl10 : Plain Try.prog 10 := plain_of Try.func10 (by kernel_rfl)
theorem pl11 : Plain Try.prog 11 := plain_of Try.func11 (by kernel_rfl)
theorem pl12 : Plain Try.prog 12 := plain_of Try.func12 (by kernel_rfl)
theorem pl13 : Plain Try.prog 13 := plain_of Try.func13 (by kernel_rfl)
theorem pl14 : Plain Try.prog 14 := plain_of Try.func14 (by kernel_rfl)
theorem pl15 : Plain Try.prog 15 := plain_of Try.func15 (by kernel_rfl)
theorem pl16 : Plain Try.prog 16 := plain_of Try.func16 (by kernel_rfl)
theorem pl17 : Plain Try.prog 17 := plain_of Try.func17 (by kernel_rfl)
theorem pl19 : Plain Try.prog 19 := plain_of Try.func19 (by kernel_rfl)
end Go.Proofs.Ytcjnpaikmcjjlaa
