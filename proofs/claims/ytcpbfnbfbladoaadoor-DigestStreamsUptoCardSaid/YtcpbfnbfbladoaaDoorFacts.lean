/-
  Closed facts of the program that the walks use.
-/
import Derived.Test.YtcpbfnbfbladoaaDoorEq
namespace Go.Proofs.YtcpbfnbfbladoaaDoor
open Go Go.RowKit
set_option maxRecDepth 100000
theorem sz3 : (Tryd.prog.info? 3).map (·.size) = some 1 := by kernel_rfl
theorem sz5 : (Tryd.prog.info? 5).map (·.size) = some 1 := by kernel_rfl
theorem sz22 : (Tryd.prog.info? 22).map (·.size) = some 1 := by kernel_rfl
theorem sz23 : (Tryd.prog.info? 23).map (·.size) = some 64 := by kernel_rfl
theorem sz24 : (Tryd.prog.info? 24).map (·.size) = some 8 := by kernel_rfl
theorem sz30 : (Tryd.prog.info? 30).map (·.size) = some 64 := by kernel_rfl
theorem sz33 : (Tryd.prog.info? 33).map (·.size) = some 1 := by kernel_rfl
theorem sz39 : (Tryd.prog.info? 39).map (·.size) = some 32 := by kernel_rfl
theorem sz44 : (Tryd.prog.info? 44).map (·.size) = some 2 := by kernel_rfl
theorem sz51 : (Tryd.prog.info? 51).map (·.size) = some 10 := by kernel_rfl
theorem sz52 : (Tryd.prog.info? 52).map (·.size) = some 1 := by kernel_rfl
theorem sz55 : (Tryd.prog.info? 55).map (·.size) = some 1 := by kernel_rfl
theorem sz70 : (Tryd.prog.info? 70).map (·.size) = some 14 := by kernel_rfl
theorem sz91 : (Tryd.prog.info? 91).map (·.size) = some 73 := by kernel_rfl
theorem pl12 : Plain Tryd.prog 12 := plain_of Tryd.func12 (by kernel_rfl)
theorem pl13 : Plain Tryd.prog 13 := plain_of Tryd.func13 (by kernel_rfl)
theorem pl14 : Plain Tryd.prog 14 := plain_of Tryd.func14 (by kernel_rfl)
theorem pl15 : Plain Tryd.prog 15 := plain_of Tryd.func15 (by kernel_rfl)
theorem pl16 : Plain Tryd.prog 16 := plain_of Tryd.func16 (by kernel_rfl)
theorem pl17 : Plain Tryd.prog 17 := plain_of Tryd.func17 (by kernel_rfl)
theorem pl18 : Plain Tryd.prog 18 := plain_of Tryd.func18 (by kernel_rfl)
theorem pl19 : Plain Tryd.prog 19 := plain_of Tryd.func19 (by kernel_rfl)
theorem pl20 : Plain Tryd.prog 20 := plain_of Tryd.func20 (by kernel_rfl)
theorem pl21 : Plain Tryd.prog 21 := plain_of Tryd.func21 (by kernel_rfl)
theorem pl22 : Plain Tryd.prog 22 := plain_of Tryd.func22 (by kernel_rfl)
theorem pl23 : Plain Tryd.prog 23 := plain_of Tryd.func23 (by kernel_rfl)
theorem pl24 : Plain Tryd.prog 24 := plain_of Tryd.func24 (by kernel_rfl)
theorem pl25 : Plain Tryd.prog 25 := plain_of Tryd.func25 (by kernel_rfl)
theorem pl26 : Plain Tryd.prog 26 := plain_of Tryd.func26 (by kernel_rfl)
theorem pl27 : Plain Tryd.prog 27 := plain_of Tryd.func27 (by kernel_rfl)
theorem pl28 : Plain Tryd.prog 28 := plain_of Tryd.func28 (by kernel_rfl)
theorem pl29 : Plain Tryd.prog 29 := plain_of Tryd.func29 (by kernel_rfl)
theorem pl30 : Plain Tryd.prog 30 := plain_of Tryd.func30 (by kernel_rfl)
theorem pl31 : Plain Tryd.prog 31 := plain_of Tryd.func31 (by kernel_rfl)
theorem pl32 : Plain Tryd.prog 32 := plain_of Tryd.func32 (by kernel_rfl)
theorem pl33 : Plain Tryd.prog 33 := plain_of Tryd.func33 (by kernel_rfl)
theorem pl34 : Plain Tryd.prog 34 := plain_of Tryd.func34 (by kernel_rfl)
theorem pl35 : Plain Tryd.prog 35 := plain_of Tryd.func35 (by kernel_rfl)
theorem pl36 : Plain Tryd.prog 36 := plain_of Tryd.func36 (by kernel_rfl)
theorem pl37 : Plain Tryd.prog 37 := plain_of Tryd.func37 (by kernel_rfl)
theorem pl38 : Plain Tryd.prog 38 := plain_of Tryd.func38 (by kernel_rfl)
theorem pl39 : Plain Tryd.prog 39 := plain_of Tryd.func39 (by kernel_rfl)
theorem pl40 : Plain Tryd.prog 40 := plain_of Tryd.func40 (by kernel_rfl)
theorem pl41 : Plain Tryd.prog 41 := plain_of Tryd.func41 (by kernel_rfl)
theorem pl42 : Plain Tryd.prog 42 := plain_of Tryd.func42 (by kernel_rfl)
theorem pl43 : Plain Tryd.prog 43 := plain_of Tryd.func43 (by kernel_rfl)
theorem pl44 : Plain Tryd.prog 44 := plain_of Tryd.func44 (by kernel_rfl)
theorem pl48 : Plain Tryd.prog 48 := plain_of Tryd.func48 (by kernel_rfl)
theorem pl49 : Plain Tryd.prog 49 := plain_of Tryd.func49 (by kernel_rfl)
theorem pl50 : Plain Tryd.prog 50 := plain_of Tryd.func50 (by kernel_rfl)
theorem pl51 : Plain Tryd.prog 51 := plain_of Tryd.func51 (by kernel_rfl)
theorem pl52 : Plain Tryd.prog 52 := plain_of Tryd.func52 (by kernel_rfl)
theorem pl53 : Plain Tryd.prog 53 := plain_of Tryd.func53 (by kernel_rfl)
theorem pl54 : Plain Tryd.prog 54 := plain_of Tryd.func54 (by kernel_rfl)
theorem pl55 : Plain Tryd.prog 55 := plain_of Tryd.func55 (by kernel_rfl)
theorem pl56 : Plain Tryd.prog 56 := plain_of Tryd.func56 (by kernel_rfl)
theorem pl57 : Plain Tryd.prog 57 := plain_of Tryd.func57 (by kernel_rfl)
theorem pl58 : Plain Tryd.prog 58 := plain_of Tryd.func58 (by kernel_rfl)
theorem pl59 : Plain Tryd.prog 59 := plain_of Tryd.func59 (by kernel_rfl)
theorem pl60 : Plain Tryd.prog 60 := plain_of Tryd.func60 (by kernel_rfl)
theorem pl61 : Plain Tryd.prog 61 := plain_of Tryd.func61 (by kernel_rfl)
theorem pl62 : Plain Tryd.prog 62 := plain_of Tryd.func62 (by kernel_rfl)
theorem pl63 : Plain Tryd.prog 63 := plain_of Tryd.func63 (by kernel_rfl)
theorem pl64 : Plain Tryd.prog 64 := plain_of Tryd.func64 (by kernel_rfl)
theorem pl69 : Plain Tryd.prog 69 := plain_of Tryd.func69 (by kernel_rfl)
theorem pl70 : Plain Tryd.prog 70 := plain_of Tryd.func70 (by kernel_rfl)
theorem zl5 : (Tryd.prog.info? 5).bind (·.zero) = some (Value.int .u8 0) := by kernel_rfl
theorem zl23 : (Tryd.prog.info? 23).bind (·.zero) = some (.agg ((List.replicate 64 (0 : UInt32)).map B32).toArray) := by kernel_rfl
theorem zl24 : (Tryd.prog.info? 24).bind (·.zero) = some (.agg ((List.replicate 8 (0 : UInt32)).map B32).toArray) := by kernel_rfl
theorem zl30 : (Tryd.prog.info? 30).bind (·.zero) = some (.agg ((List.replicate 64 (0 : UInt8)).map B8).toArray) := by kernel_rfl
theorem zl39 : (Tryd.prog.info? 39).bind (·.zero) = some (.agg ((List.replicate 32 (0 : UInt8)).map B8).toArray) := by kernel_rfl
theorem zl51 : (Tryd.prog.info? 51).bind (·.zero) = some (.agg (((List.replicate 8 (0 : UInt32)).map B32) ++ (([Value.int .i64 0]) ++ ([Value.slice none 0 0]))).toArray) := by kernel_rfl
theorem zl67 : (Tryd.prog.info? 67).bind (·.zero) = some (.agg (([Value.pointer none]) ++ ([Value.pointer none]) ++ ([Value.pointer none]) ++ ([Value.pointer none])).toArray) := by kernel_rfl
theorem zl68 : (Tryd.prog.info? 68).bind (·.zero) = some (.agg (([Value.pointer none]) ++ ([Value.pointer none]) ++ ([Value.pointer none]) ++ ([Value.pointer none])).toArray) := by kernel_rfl
theorem zl70 : (Tryd.prog.info? 70).bind (·.zero) = some (.agg (([Value.int .i64 0]) ++ (([Value.int .i64 0]) ++ (([Value.int .i64 0]) ++ (([Value.slice none 0 0]) ++ (((List.replicate 8 (0 : UInt32)).map B32) ++ (([Value.int .i64 0]) ++ ([Value.slice none 0 0]))))))).toArray) := by kernel_rfl
theorem zl87 : (Tryd.prog.info? 87).bind (·.zero) = some (.agg ((List.replicate 68 (0 : UInt32)).map B32).toArray) := by kernel_rfl
theorem zl91 : (Tryd.prog.info? 91).bind (·.zero) = some (.agg (((List.replicate 8 (0 : UInt32)).map B32) ++ (([Value.int .i64 0]) ++ ((List.replicate 64 (0 : UInt8)).map B8))).toArray) := by kernel_rfl
theorem zl97 : (Tryd.prog.info? 97).bind (·.zero) = some (.agg (((List.replicate 8 (0 : UInt32)).map B32) ++ (([Value.int .i64 0]) ++ ([Value.slice none 0 0]))).toArray) := by kernel_rfl
theorem in3 : (Tryd.prog.info? 3).map (fun i => (i.zero, i.size, i.bytes)) = some (some (Value.int .i64 0), 1, 8) := by kernel_rfl
theorem in5 : (Tryd.prog.info? 5).map (fun i => (i.zero, i.size, i.bytes)) = some (some (Value.int .u8 0), 1, 1) := by kernel_rfl
theorem gd24 : Tryd.prog.eqGuardType Tryd.prog.depth 24 = false := by kernel_rfl
theorem gd39 : Tryd.prog.eqGuardType Tryd.prog.depth 39 = false := by kernel_rfl
end Go.Proofs.YtcpbfnbfbladoaaDoor
