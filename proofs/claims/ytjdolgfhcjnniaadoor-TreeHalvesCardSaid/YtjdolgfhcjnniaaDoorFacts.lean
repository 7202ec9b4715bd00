/-
  Closed facts of the program that the walks use.
-/
import Derived.Test.YtjdolgfhcjnniaaDoorEq
namespace Go.Proofs.YtjdolgfhcjnniaaDoor
open Go Go.RowKit
set_option maxRecDepth 100000
theorem sz3 : (Tryd.prog.info? 3).map (·.size) = some 1 := by kernel_rfl
theorem sz5 : (Tryd.prog.info? 5).map (·.size) = some 1 := by kernel_rfl
theorem sz23 : (Tryd.prog.info? 23).map (·.size) = some 2 := by kernel_rfl
theorem sz26 : (Tryd.prog.info? 26).map (·.size) = some 1 := by kernel_rfl
theorem sz34 : (Tryd.prog.info? 34).map (·.size) = some 32 := by kernel_rfl
theorem sz118 : (Tryd.prog.info? 118).map (·.size) = some 64 := by kernel_rfl
theorem sz121 : (Tryd.prog.info? 121).map (·.size) = some 1 := by kernel_rfl
theorem sz122 : (Tryd.prog.info? 122).map (·.size) = some 8 := by kernel_rfl
theorem sz124 : (Tryd.prog.info? 124).map (·.size) = some 73 := by kernel_rfl
theorem sz138 : (Tryd.prog.info? 138).map (·.size) = some 64 := by kernel_rfl
theorem pl16 : Plain Tryd.prog 16 := plain_of Tryd.func16 (by kernel_rfl)
theorem pl17 : Plain Tryd.prog 17 := plain_of Tryd.func17 (by kernel_rfl)
theorem pl18 : Plain Tryd.prog 18 := plain_of Tryd.func18 (by kernel_rfl)
theorem pl19 : Plain Tryd.prog 19 := plain_of Tryd.func19 (by kernel_rfl)
theorem pl20 : Plain Tryd.prog 20 := plain_of Tryd.func20 (by kernel_rfl)
theorem pl21 : Plain Tryd.prog 21 := plain_of Tryd.func21 (by kernel_rfl)
theorem pl22 : Plain Tryd.prog 22 := plain_of Tryd.func22 (by kernel_rfl)
theorem pl23 : Plain Tryd.prog 23 := plain_of Tryd.func23 (by kernel_rfl)
theorem pl24 : Plain Tryd.prog 24 := plain_of Tryd.func24 (by kernel_rfl)
theorem pl25 : Plain Tryd.prog 25 := plain_of Tryd.func25 (by kernel_rfl)
theorem pl26 : Plain Tryd.prog 26 := plain_of Tryd.func26 (by kernel_rfl)
theorem pl27 : Plain Tryd.prog 27 := plain_of Tryd.func27 (by kernel_rfl)
theorem pl28 : Plain Tryd.prog 28 := plain_of Tryd.func28 (by kernel_rfl)
theorem pl29 : Plain Tryd.prog 29 := plain_of Tryd.func29 (by kernel_rfl)
theorem pl30 : Plain Tryd.prog 30 := plain_of Tryd.func30 (by kernel_rfl)
theorem pl31 : Plain Tryd.prog 31 := plain_of Tryd.func31 (by kernel_rfl)
theorem pl32 : Plain Tryd.prog 32 := plain_of Tryd.func32 (by kernel_rfl)
theorem pl33 : Plain Tryd.prog 33 := plain_of Tryd.func33 (by kernel_rfl)
theorem pl34 : Plain Tryd.prog 34 := plain_of Tryd.func34 (by kernel_rfl)
theorem pl35 : Plain Tryd.prog 35 := plain_of Tryd.func35 (by kernel_rfl)
theorem pl36 : Plain Tryd.prog 36 := plain_of Tryd.func36 (by kernel_rfl)
theorem pl37 : Plain Tryd.prog 37 := plain_of Tryd.func37 (by kernel_rfl)
theorem pl38 : Plain Tryd.prog 38 := plain_of Tryd.func38 (by kernel_rfl)
theorem pl39 : Plain Tryd.prog 39 := plain_of Tryd.func39 (by kernel_rfl)
theorem pl40 : Plain Tryd.prog 40 := plain_of Tryd.func40 (by kernel_rfl)
theorem pl47 : Plain Tryd.prog 47 := plain_of Tryd.func47 (by kernel_rfl)
theorem pl56 : Plain Tryd.prog 56 := plain_of Tryd.func56 (by kernel_rfl)
theorem pl57 : Plain Tryd.prog 57 := plain_of Tryd.func57 (by kernel_rfl)
theorem pl58 : Plain Tryd.prog 58 := plain_of Tryd.func58 (by kernel_rfl)
theorem pl59 : Plain Tryd.prog 59 := plain_of Tryd.func59 (by kernel_rfl)
theorem pl60 : Plain Tryd.prog 60 := plain_of Tryd.func60 (by kernel_rfl)
theorem pl61 : Plain Tryd.prog 61 := plain_of Tryd.func61 (by kernel_rfl)
theorem pl62 : Plain Tryd.prog 62 := plain_of Tryd.func62 (by kernel_rfl)
theorem pl63 : Plain Tryd.prog 63 := plain_of Tryd.func63 (by kernel_rfl)
theorem pl64 : Plain Tryd.prog 64 := plain_of Tryd.func64 (by kernel_rfl)
theorem pl65 : Plain Tryd.prog 65 := plain_of Tryd.func65 (by kernel_rfl)
theorem pl66 : Plain Tryd.prog 66 := plain_of Tryd.func66 (by kernel_rfl)
theorem pl67 : Plain Tryd.prog 67 := plain_of Tryd.func67 (by kernel_rfl)
theorem pl68 : Plain Tryd.prog 68 := plain_of Tryd.func68 (by kernel_rfl)
theorem pl69 : Plain Tryd.prog 69 := plain_of Tryd.func69 (by kernel_rfl)
theorem pl70 : Plain Tryd.prog 70 := plain_of Tryd.func70 (by kernel_rfl)
theorem pl71 : Plain Tryd.prog 71 := plain_of Tryd.func71 (by kernel_rfl)
theorem pl72 : Plain Tryd.prog 72 := plain_of Tryd.func72 (by kernel_rfl)
theorem pl73 : Plain Tryd.prog 73 := plain_of Tryd.func73 (by kernel_rfl)
theorem pl74 : Plain Tryd.prog 74 := plain_of Tryd.func74 (by kernel_rfl)
theorem pl75 : Plain Tryd.prog 75 := plain_of Tryd.func75 (by kernel_rfl)
theorem pl76 : Plain Tryd.prog 76 := plain_of Tryd.func76 (by kernel_rfl)
theorem pl77 : Plain Tryd.prog 77 := plain_of Tryd.func77 (by kernel_rfl)
theorem pl89 : Plain Tryd.prog 89 := plain_of Tryd.func89 (by kernel_rfl)
theorem pl90 : Plain Tryd.prog 90 := plain_of Tryd.func90 (by kernel_rfl)
theorem pl91 : Plain Tryd.prog 91 := plain_of Tryd.func91 (by kernel_rfl)
theorem pl92 : Plain Tryd.prog 92 := plain_of Tryd.func92 (by kernel_rfl)
theorem pl93 : Plain Tryd.prog 93 := plain_of Tryd.func93 (by kernel_rfl)
theorem pl97 : Plain Tryd.prog 97 := plain_of Tryd.func97 (by kernel_rfl)
theorem pl98 : Plain Tryd.prog 98 := plain_of Tryd.func98 (by kernel_rfl)
theorem pl100 : Plain Tryd.prog 100 := plain_of Tryd.func100 (by kernel_rfl)
theorem pl101 : Plain Tryd.prog 101 := plain_of Tryd.func101 (by kernel_rfl)
theorem pl102 : Plain Tryd.prog 102 := plain_of Tryd.func102 (by kernel_rfl)
theorem pl103 : Plain Tryd.prog 103 := plain_of Tryd.func103 (by kernel_rfl)
theorem pl104 : Plain Tryd.prog 104 := plain_of Tryd.func104 (by kernel_rfl)
theorem pl105 : Plain Tryd.prog 105 := plain_of Tryd.func105 (by kernel_rfl)
theorem pl106 : Plain Tryd.prog 106 := plain_of Tryd.func106 (by kernel_rfl)
theorem pl107 : Plain Tryd.prog 107 := plain_of Tryd.func107 (by kernel_rfl)
theorem pl108 : Plain Tryd.prog 108 := plain_of Tryd.func108 (by kernel_rfl)
theorem pl109 : Plain Tryd.prog 109 := plain_of Tryd.func109 (by kernel_rfl)
theorem pl110 : Plain Tryd.prog 110 := plain_of Tryd.func110 (by kernel_rfl)
theorem pl111 : Plain Tryd.prog 111 := plain_of Tryd.func111 (by kernel_rfl)
theorem pl112 : Plain Tryd.prog 112 := plain_of Tryd.func112 (by kernel_rfl)
theorem zl5 : (Tryd.prog.info? 5).bind (·.zero) = some (Value.int .u8 0) := by kernel_rfl
theorem zl23 : (Tryd.prog.info? 23).bind (·.zero) = some (.agg (([Value.int .i64 0]) ++ ([Value.int .i64 0])).toArray) := by kernel_rfl
theorem zl34 : (Tryd.prog.info? 34).bind (·.zero) = some (.agg ((List.replicate 32 (0 : UInt8)).map B8).toArray) := by kernel_rfl
theorem zl85 : (Tryd.prog.info? 85).bind (·.zero) = some (.agg ((([Value.int .i64 0]) ++ ([Value.int .i64 0])) ++ ([Value.slice none 0 0])).toArray) := by kernel_rfl
theorem zl97 : (Tryd.prog.info? 97).bind (·.zero) = some (.agg ((List.replicate 129 (0 : UInt8)).map B8).toArray) := by kernel_rfl
theorem zl118 : (Tryd.prog.info? 118).bind (·.zero) = some (.agg ((List.replicate 64 (0 : UInt8)).map B8).toArray) := by kernel_rfl
theorem zl122 : (Tryd.prog.info? 122).bind (·.zero) = some (.agg ((List.replicate 8 (0 : UInt32)).map B32).toArray) := by kernel_rfl
theorem zl124 : (Tryd.prog.info? 124).bind (·.zero) = some (.agg (((List.replicate 8 (0 : UInt32)).map B32) ++ (([Value.int .i64 0]) ++ ((List.replicate 64 (0 : UInt8)).map B8))).toArray) := by kernel_rfl
theorem zl138 : (Tryd.prog.info? 138).bind (·.zero) = some (.agg ((List.replicate 64 (0 : UInt32)).map B32).toArray) := by kernel_rfl
theorem zl143 : (Tryd.prog.info? 143).bind (·.zero) = some (.agg ((List.replicate 68 (0 : UInt32)).map B32).toArray) := by kernel_rfl
theorem in5 : (Tryd.prog.info? 5).map (fun i => (i.zero, i.size, i.bytes)) = some (some (Value.int .u8 0), 1, 1) := by kernel_rfl
theorem in34 : (Tryd.prog.info? 34).map (fun i => (i.zero, i.size, i.bytes)) = some (some (.agg ((List.replicate 32 (0 : UInt8)).map B8).toArray), 32, 32) := by kernel_rfl
theorem gd34 : Tryd.prog.eqGuardType Tryd.prog.depth 34 = false := by kernel_rfl
end Go.Proofs.YtjdolgfhcjnniaaDoor
