/-
  Closed facts of the program that the walks use.
-/
import Derived.Test.YtcpbfnbfbladoaaHeld
namespace Go.Proofs.Ytcpbfnbfbladoaa
open Go Go.RowKit
set_option maxRecDepth 100000
theorem sz3 : (Try.prog.info? 3).map (·.size) = some 1 := by kernel_rfl
theorem sz5 : (Try.prog.info? 5).map (·.size) = some 1 := by kernel_rfl
theorem sz23 : (Try.prog.info? 23).map (·.size) = some 2 := by kernel_rfl
theorem sz32 : (Try.prog.info? 32).map (·.size) = some 64 := by kernel_rfl
theorem sz33 : (Try.prog.info? 33).map (·.size) = some 1 := by kernel_rfl
theorem sz34 : (Try.prog.info? 34).map (·.size) = some 64 := by kernel_rfl
theorem pl8 : Plain Try.prog 8 := plain_of Try.func8 (by kernel_rfl)
theorem pl9 : Plain Try.prog 9 := plain_of Try.func9 (by kernel_rfl)
theorem pl10 : Plain Try.prog 10 := plain_of Try.func10 (by kernel_rfl)
theorem pl11 : Plain Try.prog 11 := plain_of Try.func11 (by kernel_rfl)
theorem pl12 : Plain Try.prog 12 := plain_of Try.func12 (by kernel_rfl)
theorem pl13 : Plain Try.prog 13 := plain_of Try.func13 (by kernel_rfl)
theorem pl14 : Plain Try.prog 14 := plain_of Try.func14 (by kernel_rfl)
theorem pl15 : Plain Try.prog 15 := plain_of Try.func15 (by kernel_rfl)
theorem pl16 : Plain Try.prog 16 := plain_of Try.func16 (by kernel_rfl)
theorem pl17 : Plain Try.prog 17 := plain_of Try.func17 (by kernel_rfl)
theorem pl18 : Plain Try.prog 18 := plain_of Try.func18 (by kernel_rfl)
theorem pl19 : Plain Try.prog 19 := plain_of Try.func19 (by kernel_rfl)
theorem pl20 : Plain Try.prog 20 := plain_of Try.func20 (by kernel_rfl)
theorem pl21 : Plain Try.prog 21 := plain_of Try.func21 (by kernel_rfl)
theorem pl22 : Plain Try.prog 22 := plain_of Try.func22 (by kernel_rfl)
theorem pl23 : Plain Try.prog 23 := plain_of Try.func23 (by kernel_rfl)
theorem pl24 : Plain Try.prog 24 := plain_of Try.func24 (by kernel_rfl)
theorem pl25 : Plain Try.prog 25 := plain_of Try.func25 (by kernel_rfl)
theorem pl26 : Plain Try.prog 26 := plain_of Try.func26 (by kernel_rfl)
theorem pl27 : Plain Try.prog 27 := plain_of Try.func27 (by kernel_rfl)
theorem zl34 : (Try.prog.info? 34).bind (·.zero) = some (.agg ((List.replicate 64 (0 : UInt32)).map B32).toArray) := by kernel_rfl
theorem in3 : (Try.prog.info? 3).map (fun i => (i.zero, i.size, i.bytes)) = some (some (.int .i64 0), 1, 8) := by kernel_rfl
theorem in5 : (Try.prog.info? 5).map (fun i => (i.zero, i.size, i.bytes)) = some (some (.int .u8 0), 1, 1) := by kernel_rfl
theorem gd34 : Try.prog.eqGuardType Try.prog.depth 34 = false := by kernel_rfl
end Go.Proofs.Ytcpbfnbfbladoaa
