/-
  Closed facts of the program that the walks use.
-/
import Derived.Test.YtcjnpaikmcjjlaaEq
namespace Go.Proofs.Ytcjnpaikmcjjlaa
open Go Go.RowKit
set_option maxRecDepth 100000
theorem sz3 : (Try.prog.info? 3).map (·.size) = some 1 := by kernel_rfl
theorem sz23 : (Try.prog.info? 23).map (·.size) = some 32 := by kernel_rfl
theorem sz31 : (Try.prog.info? 31).map (·.size) = some 36 := by kernel_rfl
theorem pl5 : Plain Try.prog 5 := plain_of Try.func5 (by kernel_rfl)
theorem pl6 : Plain Try.prog 6 := plain_of Try.func6 (by kernel_rfl)
theorem pl7 : Plain Try.prog 7 := plain_of Try.func7 (by kernel_rfl)
theorem pl8 : Plain Try.prog 8 := plain_of Try.func8 (by kernel_rfl)
theorem pl9 : Plain Try.prog 9 := plain_of Try.func9 (by kernel_rfl)
theorem pl10 : Plain Try.prog 10 := plain_of Try.func10 (by kernel_rfl)
theorem pl11 : Plain Try.prog 11 := plain_of Try.func11 (by kernel_rfl)
theorem pl12 : Plain Try.prog 12 := plain_of Try.func12 (by kernel_rfl)
theorem pl13 : Plain Try.prog 13 := plain_of Try.func13 (by kernel_rfl)
theorem pl14 : Plain Try.prog 14 := plain_of Try.func14 (by kernel_rfl)
theorem pl15 : Plain Try.prog 15 := plain_of Try.func15 (by kernel_rfl)
theorem pl16 : Plain Try.prog 16 := plain_of Try.func16 (by kernel_rfl)
theorem pl17 : Plain Try.prog 17 := plain_of Try.func17 (by kernel_rfl)
theorem pl19 : Plain Try.prog 19 := plain_of Try.func19 (by kernel_rfl)
theorem zl31 : (Try.prog.info? 31).bind (·.zero) = some (.agg (((List.replicate 32 (0 : UInt8)).map B8) ++ (([Value.int .i64 0]) ++ (([Value.int .i64 0]) ++ (([Value.int .i64 0]) ++ ([Value.int .i64 0]))))).toArray) := by kernel_rfl
theorem in31 : (Try.prog.info? 31).map (fun i => (i.zero, i.size, i.bytes)) = some (some (.agg (((List.replicate 32 (0 : UInt8)).map B8) ++ (([Value.int .i64 0]) ++ (([Value.int .i64 0]) ++ (([Value.int .i64 0]) ++ ([Value.int .i64 0]))))).toArray), 36, 64) := by kernel_rfl
theorem gd31 : Try.prog.eqGuardType Try.prog.depth 31 = false := by kernel_rfl
theorem fl31 : flatB Try.prog 20 31 = true := by kernel_rfl
end Go.Proofs.Ytcjnpaikmcjjlaa
