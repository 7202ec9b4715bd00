/-
  Closed facts of the program that the walks use.
-/
import Derived.Test.YthebbenfmoknbaaEq
namespace Go.Proofs.Ythebbenfmoknbaa
open Go Go.RowKit
set_option maxRecDepth 100000
theorem sz3 : (Try.prog.info? 3).map (·.size) = some 1 := by kernel_rfl
theorem sz4 : (Try.prog.info? 4).map (·.size) = some 1 := by kernel_rfl
theorem sz5 : (Try.prog.info? 5).map (·.size) = some 1 := by kernel_rfl
theorem sz22 : (Try.prog.info? 22).map (·.size) = some 8 := by kernel_rfl
theorem sz23 : (Try.prog.info? 23).map (·.size) = some 20 := by kernel_rfl
theorem sz25 : (Try.prog.info? 25).map (·.size) = some 48 := by kernel_rfl
theorem sz26 : (Try.prog.info? 26).map (·.size) = some 1 := by kernel_rfl
theorem sz31 : (Try.prog.info? 31).map (·.size) = some 1 := by kernel_rfl
theorem sz37 : (Try.prog.info? 37).map (·.size) = some 1 := by kernel_rfl
theorem sz48 : (Try.prog.info? 48).map (·.size) = some 1 := by kernel_rfl
theorem sz57 : (Try.prog.info? 57).map (·.size) = some 3 := by kernel_rfl
theorem pl12 : Plain Try.prog 12 := plain_of Try.func12 (by kernel_rfl)
theorem pl13 : Plain Try.prog 13 := plain_of Try.func13 (by kernel_rfl)
theorem pl14 : Plain Try.prog 14 := plain_of Try.func14 (by kernel_rfl)
theorem pl15 : Plain Try.prog 15 := plain_of Try.func15 (by kernel_rfl)
theorem pl16 : Plain Try.prog 16 := plain_of Try.func16 (by kernel_rfl)
theorem pl17 : Plain Try.prog 17 := plain_of Try.func17 (by kernel_rfl)
theorem pl18 : Plain Try.prog 18 := plain_of Try.func18 (by kernel_rfl)
theorem pl19 : Plain Try.prog 19 := plain_of Try.func19 (by kernel_rfl)
theorem pl20 : Plain Try.prog 20 := plain_of Try.func20 (by kernel_rfl)
theorem pl21 : Plain Try.prog 21 := plain_of Try.func21 (by kernel_rfl)
theorem pl22 : Plain Try.prog 22 := plain_of Try.func22 (by kernel_rfl)
theorem pl23 : Plain Try.prog 23 := plain_of Try.func23 (by kernel_rfl)
theorem pl25 : Plain Try.prog 25 := plain_of Try.func25 (by kernel_rfl)
theorem pl27 : Plain Try.prog 27 := plain_of Try.func27 (by kernel_rfl)
theorem pl28 : Plain Try.prog 28 := plain_of Try.func28 (by kernel_rfl)
theorem pl30 : Plain Try.prog 30 := plain_of Try.func30 (by kernel_rfl)
theorem pl32 : Plain Try.prog 32 := plain_of Try.func32 (by kernel_rfl)
theorem pl37 : Plain Try.prog 37 := plain_of Try.func37 (by kernel_rfl)
theorem pl38 : Plain Try.prog 38 := plain_of Try.func38 (by kernel_rfl)
theorem pl39 : Plain Try.prog 39 := plain_of Try.func39 (by kernel_rfl)
theorem pl40 : Plain Try.prog 40 := plain_of Try.func40 (by kernel_rfl)
theorem pl41 : Plain Try.prog 41 := plain_of Try.func41 (by kernel_rfl)
theorem pl42 : Plain Try.prog 42 := plain_of Try.func42 (by kernel_rfl)
theorem pl43 : Plain Try.prog 43 := plain_of Try.func43 (by kernel_rfl)
theorem pl44 : Plain Try.prog 44 := plain_of Try.func44 (by kernel_rfl)
theorem zl25 : (Try.prog.info? 25).bind (·.zero) = some (.agg ((List.replicate 48 (0 : UInt8)).map B8).toArray) := by kernel_rfl
theorem zl57 : (Try.prog.info? 57).bind (·.zero) = some (.agg (([Value.slice none 0 0]) ++ (([Value.slice none 0 0]) ++ ([Value.int .i64 0]))).toArray) := by kernel_rfl
theorem zl70 : (Try.prog.info? 70).bind (·.zero) = some (.agg (([Value.int .i64 0]) ++ (([Value.slice none 0 0]) ++ (([Value.int .i64 0]) ++ ([Value.int .i64 0])))).toArray) := by kernel_rfl
theorem zl72 : (Try.prog.info? 72).bind (·.zero) = some (.agg (([Value.bool false]) ++ (([Value.slice none 0 0]) ++ ([Value.int .i64 0]))).toArray) := by kernel_rfl
theorem in5 : (Try.prog.info? 5).map (fun i => (i.zero, i.size, i.bytes)) = some (some (Value.int .u8 0), 1, 1) := by kernel_rfl
theorem in25 : (Try.prog.info? 25).map (fun i => (i.zero, i.size, i.bytes)) = some (some (.agg ((List.replicate 48 (0 : UInt8)).map B8).toArray), 48, 48) := by kernel_rfl
theorem in26 : (Try.prog.info? 26).map (fun i => (i.zero, i.size, i.bytes)) = some (some (Value.slice none 0 0), 1, 24) := by kernel_rfl
theorem gd25 : Try.prog.eqGuardType Try.prog.depth 25 = false := by kernel_rfl
theorem fl25 : flatB Try.prog 20 25 = true := by kernel_rfl
end Go.Proofs.Ythebbenfmoknbaa
