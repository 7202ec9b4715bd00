/-
  Closed facts of the program that the walks use.
-/
import Derived.Test.YtcjnpaikmcjjlaaDoorEq
namespace Go.Proofs.YtcjnpaikmcjjlaaDoor
open Go Go.RowKit
set_option maxRecDepth 100000
theorem sz3 : (Tryd.prog.info? 3).map (·.size) = some 1 := by kernel_rfl
theorem sz5 : (Tryd.prog.info? 5).map (·.size) = some 1 := by kernel_rfl
theorem sz25 : (Tryd.prog.info? 25).map (·.size) = some 36 := by kernel_rfl
theorem pl16 : Plain Tryd.prog 16 := plain_of Tryd.func16 (by kernel_rfl)
theorem pl17 : Plain Tryd.prog 17 := plain_of Tryd.func17 (by kernel_rfl)
theorem pl28 : Plain Tryd.prog 28 := plain_of Tryd.func28 (by kernel_rfl)
theorem pl29 : Plain Tryd.prog 29 := plain_of Tryd.func29 (by kernel_rfl)
theorem pl44 : Plain Tryd.prog 44 := plain_of Tryd.func44 (by kernel_rfl)
theorem pl50 : Plain Tryd.prog 50 := plain_of Tryd.func50 (by kernel_rfl)
theorem pl51 : Plain Tryd.prog 51 := plain_of Tryd.func51 (by kernel_rfl)
theorem pl52 : Plain Tryd.prog 52 := plain_of Tryd.func52 (by kernel_rfl)
theorem pl53 : Plain Tryd.prog 53 := plain_of Tryd.func53 (by kernel_rfl)
theorem pl62 : Plain Tryd.prog 62 := plain_of Tryd.func62 (by kernel_rfl)
theorem pl63 : Plain Tryd.prog 63 := plain_of Tryd.func63 (by kernel_rfl)
theorem pl64 : Plain Tryd.prog 64 := plain_of Tryd.func64 (by kernel_rfl)
theorem pl65 : Plain Tryd.prog 65 := plain_of Tryd.func65 (by kernel_rfl)
theorem pl73 : Plain Tryd.prog 73 := plain_of Tryd.func73 (by kernel_rfl)
theorem pl77 : Plain Tryd.prog 77 := plain_of Tryd.func77 (by kernel_rfl)
theorem pl85 : Plain Tryd.prog 85 := plain_of Tryd.func85 (by kernel_rfl)
theorem pl88 : Plain Tryd.prog 88 := plain_of Tryd.func88 (by kernel_rfl)
theorem pl89 : Plain Tryd.prog 89 := plain_of Tryd.func89 (by kernel_rfl)
theorem pl101 : Plain Tryd.prog 101 := plain_of Tryd.func101 (by kernel_rfl)
theorem pl103 : Plain Tryd.prog 103 := plain_of Tryd.func103 (by kernel_rfl)
end Go.Proofs.YtcjnpaikmcjjlaaDoor
