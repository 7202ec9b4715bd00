/-
  Closed facts of the program that the walks use.
-/
import Derived.Test.YtcpbfnbfbladoaaDoorMore
namespace Go.Proofs.YtcpbfnbfbladoaaDoor
open Go Go.RowKit
set_option maxRecDepth 100000
theorem sz5 : (Tryd.prog.info? 5).map (·.size) = some 1 := by kernel_rfl
theorem sz22 : (Tryd.prog.info? 22).map (·.size) = some 1 := by kernel_rfl
theorem sz23 : (Tryd.prog.info? 23).map (·.size) = some 64 := by kernel_rfl
theorem sz24 : (Tryd.prog.info? 24).map (·.size) = some 8 := by kernel_rfl
theorem sz30 : (Tryd.prog.info? 30).map (·.size) = some 64 := by kernel_rfl
theorem pl15 : Plain Tryd.prog 15 := plain_of Tryd.func15 (by kernel_rfl)
theorem pl16 : Plain Tryd.prog 16 := plain_of Tryd.func16 (by kernel_rfl)
theorem pl52 : Plain Tryd.prog 52 := plain_of Tryd.func52 (by kernel_rfl)
theorem pl53 : Plain Tryd.prog 53 := plain_of Tryd.func53 (by kernel_rfl)
theorem pl54 : Plain Tryd.prog 54 := plain_of Tryd.func54 (by kernel_rfl)
theorem pl55 : Plain Tryd.prog 55 := plain_of Tryd.func55 (by kernel_rfl)
theorem pl56 : Plain Tryd.prog 56 := plain_of Tryd.func56 (by kernel_rfl)
theorem zl23 : (Tryd.prog.info? 23).bind (·.zero) = some (.agg ((List.replicate 64 (0 : UInt32)).map B32).toArray) := by kernel_rfl
theorem zl24 : (Tryd.prog.info? 24).bind (·.zero) = some (.agg ((List.replicate 8 (0 : UInt32)).map B32).toArray) := by kernel_rfl
theorem zl87 : (Tryd.prog.info? 87).bind (·.zero) = some (.agg ((List.replicate 68 (0 : UInt32)).map B32).toArray) := by kernel_rfl
theorem gd24 : Tryd.prog.eqGuardType Tryd.prog.depth 24 = false := by kernel_rfl
end Go.Proofs.YtcpbfnbfbladoaaDoor
