/-
  Closed facts of the program that the walks use.
-/
import Derived.Test.YtcpbfnbfbladoaaFld
namespace Go.Proofs.Ytcpbfnbfbladoaa
open Go Go.RowKit
set_option maxRecDepth 100000
theorem sz3 : (Try.prog.info? 3).map (·.size) = some 1 := by kernel_rfl
theorem sz5 : (Try.prog.info? 5).map (·.size) = some 1 := by kernel_rfl
theorem sz23 : (Try.prog.info? 23).map (·.size) = some 2 := by kernel_rfl
theorem sz32 : (Try.prog.info? 32).map (·.size) = some 64 := by kernel_rfl
theorem sz33 : (Try.prog.info? 33).map (·.size) = some 1 := by kernel_rfl
theorem sz34 : (Try.prog.info? 34).map (·.size) = some 64 := by kernel_rfl
theorem pl8 : Plain Try.prog 8 := plain_of Try.func8 (by kernel_rfl)
theorem pl9 : Plain Try.prog 9 := plain_of Try.func9 (by kernel_rfl)
theorem pl13 : Plain Try.prog 13 := plain_of Try.func13 (by kernel_rfl)
theorem pl14 : Plain Try.prog 14 := plain_of Try.func14 (by kernel_rfl)
theorem pl22 : Plain Try.prog 22 := plain_of Try.func22 (by kernel_rfl)
theorem pl23 : Plain Try.prog 23 := plain_of Try.func23 (by kernel_rfl)
theorem zl34 : (Try.prog.info? 34).bind (·.zero) = some (.agg ((List.replicate 64 (0 : UInt32)).map B32).toArray) := by kernel_rfl
theorem gd34 : Try.prog.eqGuardType Try.prog.depth 34 = false := by kernel_rfl
end Go.Proofs.Ytcpbfnbfbladoaa
