import Derived.Test.YtekgeekghclfaaaGreatProg
import Derived.Test.YtekgeekghclfaaaGreatLa
/- WHAT THE EVALUATOR ASKS OF THE TYPES, a row each: written by a program of our own. -/
set_option maxRecDepth 100000
namespace Go.Ev
open Go.Proofs
theorem tz1 : tz Tryz.prog 1 = .con (.nilFunc) := by kernel_rfl
theorem tk2 : tk Tryz.prog 2 = .int .i64 := by kernel_rfl
theorem tz2 : tz Tryz.prog 2 = .con (.int .i64 0) := by kernel_rfl
theorem tk3 : tk Tryz.prog 3 = .int .i64 := by kernel_rfl
theorem tz3 : tz Tryz.prog 3 = .con (.int .i64 0) := by kernel_rfl
theorem tk4 : tk Tryz.prog 4 = .bool := by kernel_rfl
theorem tz4 : tz Tryz.prog 4 = .con (.bool false) := by kernel_rfl
theorem tk5 : tk Tryz.prog 5 = .int .u8 := by kernel_rfl
theorem tz5 : tz Tryz.prog 5 = .con (.int .u8 0) := by kernel_rfl
theorem tk6 : tk Tryz.prog 6 = .int .u8 := by kernel_rfl
theorem tz6 : tz Tryz.prog 6 = .con (.int .u8 0) := by kernel_rfl
theorem tk7 : tk Tryz.prog 7 = .st [(0, 1), (1, 1), (2, 1), (3, 1)] [.int .i64 0, .int .i64 0, .bool false, .int .u8 0] := by kernel_rfl
theorem tz7 : tz Tryz.prog 7 = .agg [.con (.int .i64 0), .con (.int .i64 0), .con (.bool false), .con (.int .u8 0)] := by kernel_rfl
theorem tk8 : tk Tryz.prog 8 = .st [(0, 1), (1, 1), (2, 1), (3, 1)] [.int .i64 0, .int .i64 0, .bool false, .int .u8 0] := by kernel_rfl
theorem tz8 : tz Tryz.prog 8 = .agg [.con (.int .i64 0), .con (.int .i64 0), .con (.bool false), .con (.int .u8 0)] := by kernel_rfl
theorem tk9 : tk Tryz.prog 9 = .str := by kernel_rfl
theorem tz9 : tz Tryz.prog 9 = .con (.string .empty) := by kernel_rfl
theorem tk10 : tk Tryz.prog 10 = .str := by kernel_rfl
theorem tz10 : tz Tryz.prog 10 = .con (.string .empty) := by kernel_rfl
theorem tk11 : tk Tryz.prog 11 = .str := by kernel_rfl
theorem tz11 : tz Tryz.prog 11 = .con (.string .empty) := by kernel_rfl
theorem tk12 : tk Tryz.prog 12 = .int .u64 := by kernel_rfl
theorem tz12 : tz Tryz.prog 12 = .con (.int .u64 0) := by kernel_rfl
theorem tk13 : tk Tryz.prog 13 = .st [(0, 1), (1, 1)] [.string .empty, .int .u64 0] := by kernel_rfl
theorem tz13 : tz Tryz.prog 13 = .agg [.con (.string .empty), .con (.int .u64 0)] := by kernel_rfl
theorem tk14 : tk Tryz.prog 14 = .st [(0, 1), (1, 1)] [.string .empty, .int .u64 0] := by kernel_rfl
theorem tz14 : tz Tryz.prog 14 = .agg [.con (.string .empty), .con (.int .u64 0)] := by kernel_rfl
theorem tk15 : tk Tryz.prog 15 = .ptr := by kernel_rfl
theorem tz15 : tz Tryz.prog 15 = .con (.pointer none) := by kernel_rfl
theorem tk16 : tk Tryz.prog 16 = .ptr := by kernel_rfl
theorem tz16 : tz Tryz.prog 16 = .con (.pointer none) := by kernel_rfl
theorem tk17 : tk Tryz.prog 17 = .ptr := by kernel_rfl
theorem tz17 : tz Tryz.prog 17 = .con (.pointer none) := by kernel_rfl
theorem tk18 : tk Tryz.prog 18 = .st [(0, 1)] [.pointer none] := by kernel_rfl
theorem tz18 : tz Tryz.prog 18 = .agg [.con (.pointer none)] := by kernel_rfl
theorem tk19 : tk Tryz.prog 19 = .st [(0, 1)] [.pointer none] := by kernel_rfl
theorem tz19 : tz Tryz.prog 19 = .agg [.con (.pointer none)] := by kernel_rfl
theorem tz20 : tz Tryz.prog 20 = .con (.nilIface) := by kernel_rfl
theorem tk21 : tk Tryz.prog 21 = .int .i32 := by kernel_rfl
theorem tz21 : tz Tryz.prog 21 = .con (.int .i32 0) := by kernel_rfl
theorem tk22 : tk Tryz.prog 22 = .sl 9 1 16 false [.string .empty] := by kernel_rfl
theorem tz22 : tz Tryz.prog 22 = .emp := by kernel_rfl
theorem tk23 : tk Tryz.prog 23 = .sl 22 1 24 false [.slice none 0 0] := by kernel_rfl
theorem tz23 : tz Tryz.prog 23 = .emp := by kernel_rfl
theorem tk24 : tk Tryz.prog 24 = .sl 31 1 24 false [.slice none 0 0] := by kernel_rfl
theorem tz24 : tz Tryz.prog 24 = .emp := by kernel_rfl
theorem tk25 : tk Tryz.prog 25 = .sl 48 1 24 false [.slice none 0 0] := by kernel_rfl
theorem tz25 : tz Tryz.prog 25 = .emp := by kernel_rfl
theorem tk26 : tk Tryz.prog 26 = .st [(0, 1), (1, 1), (2, 1), (3, 1), (4, 1)] [.string .empty, .slice none 0 0, .slice none 0 0, .slice none 0 0, .slice none 0 0] := by kernel_rfl
theorem tz26 : tz Tryz.prog 26 = .agg [.con (.string .empty), .emp, .emp, .emp, .emp] := by kernel_rfl
theorem tk27 : tk Tryz.prog 27 = .st [(0, 1), (1, 1), (2, 1), (3, 1), (4, 1)] [.string .empty, .slice none 0 0, .slice none 0 0, .slice none 0 0, .slice none 0 0] := by kernel_rfl
theorem tz27 : tz Tryz.prog 27 = .agg [.con (.string .empty), .emp, .emp, .emp, .emp] := by kernel_rfl
theorem tz28 : tz Tryz.prog 28 = .con (.nilFunc) := by kernel_rfl
theorem tk29 : tk Tryz.prog 29 = .int .i64 := by kernel_rfl
theorem tz29 : tz Tryz.prog 29 = .con (.int .i64 0) := by kernel_rfl
theorem tz30 : tz Tryz.prog 30 = .con (.nilFunc) := by kernel_rfl
theorem tk31 : tk Tryz.prog 31 = .sl 3 1 8 false [.int .i64 0] := by kernel_rfl
theorem tz31 : tz Tryz.prog 31 = .emp := by kernel_rfl
theorem tz32 : tz Tryz.prog 32 = .con (.nilFunc) := by kernel_rfl
theorem tz33 : tz Tryz.prog 33 = .con (.nilFunc) := by kernel_rfl
theorem tz34 : tz Tryz.prog 34 = .con (.nilFunc) := by kernel_rfl
theorem tz35 : tz Tryz.prog 35 = .con (.nilFunc) := by kernel_rfl
theorem tk36 : tk Tryz.prog 36 = .sl 46 1 4 false [.int .u32 0] := by kernel_rfl
theorem tz36 : tz Tryz.prog 36 = .emp := by kernel_rfl
theorem tk37 : tk Tryz.prog 37 = .sl 46 1 4 false [.int .u32 0] := by kernel_rfl
theorem tz37 : tz Tryz.prog 37 = .emp := by kernel_rfl
theorem tk38 : tk Tryz.prog 38 = .st [(0, 1), (1, 1)] [.bool false, .slice none 0 0] := by kernel_rfl
theorem tz38 : tz Tryz.prog 38 = .agg [.con (.bool false), .emp] := by kernel_rfl
theorem tk39 : tk Tryz.prog 39 = .st [(0, 1), (1, 1)] [.bool false, .slice none 0 0] := by kernel_rfl
theorem tz39 : tz Tryz.prog 39 = .agg [.con (.bool false), .emp] := by kernel_rfl
theorem tk40 : tk Tryz.prog 40 = .st [(0, 2), (2, 1)] [.bool false, .slice none 0 0, .slice none 0 0] := by kernel_rfl
theorem tz40 : tz Tryz.prog 40 = .agg [.con (.bool false), .emp, .emp] := by kernel_rfl
theorem tk41 : tk Tryz.prog 41 = .st [(0, 2), (2, 1)] [.bool false, .slice none 0 0, .slice none 0 0] := by kernel_rfl
theorem tz41 : tz Tryz.prog 41 = .agg [.con (.bool false), .emp, .emp] := by kernel_rfl
theorem tz43 : tz Tryz.prog 43 = .con (.nilFunc) := by kernel_rfl
theorem tz44 : tz Tryz.prog 44 = .con (.nilFunc) := by kernel_rfl
theorem tz45 : tz Tryz.prog 45 = .con (.nilFunc) := by kernel_rfl
theorem tk46 : tk Tryz.prog 46 = .int .u32 := by kernel_rfl
theorem tz46 : tz Tryz.prog 46 = .con (.int .u32 0) := by kernel_rfl
theorem tz47 : tz Tryz.prog 47 = .con (.nilFunc) := by kernel_rfl
theorem tk48 : tk Tryz.prog 48 = .sl 41 3 56 true [.bool false, .slice none 0 0, .slice none 0 0] := by kernel_rfl
theorem tz48 : tz Tryz.prog 48 = .emp := by kernel_rfl
theorem tz49 : tz Tryz.prog 49 = .con (.nilFunc) := by kernel_rfl
theorem tz50 : tz Tryz.prog 50 = .con (.nilFunc) := by kernel_rfl
theorem tz51 : tz Tryz.prog 51 = .con (.nilFunc) := by kernel_rfl
theorem tz52 : tz Tryz.prog 52 = .con (.nilFunc) := by kernel_rfl
theorem tz53 : tz Tryz.prog 53 = .con (.nilFunc) := by kernel_rfl
theorem tz54 : tz Tryz.prog 54 = .con (.nilFunc) := by kernel_rfl
theorem tz55 : tz Tryz.prog 55 = .con (.nilFunc) := by kernel_rfl
theorem tz56 : tz Tryz.prog 56 = .con (.nilFunc) := by kernel_rfl
theorem tz57 : tz Tryz.prog 57 = .con (.nilFunc) := by kernel_rfl
theorem tz58 : tz Tryz.prog 58 = .con (.nilFunc) := by kernel_rfl
theorem tz59 : tz Tryz.prog 59 = .con (.nilFunc) := by kernel_rfl
theorem tz60 : tz Tryz.prog 60 = .con (.nilFunc) := by kernel_rfl
theorem tz61 : tz Tryz.prog 61 = .con (.nilFunc) := by kernel_rfl
theorem tz62 : tz Tryz.prog 62 = .con (.nilFunc) := by kernel_rfl
theorem tz63 : tz Tryz.prog 63 = .con (.nilFunc) := by kernel_rfl
theorem tz64 : tz Tryz.prog 64 = .con (.nilFunc) := by kernel_rfl
theorem tz65 : tz Tryz.prog 65 = .con (.nilFunc) := by kernel_rfl
theorem tz66 : tz Tryz.prog 66 = .con (.nilFunc) := by kernel_rfl
theorem tz67 : tz Tryz.prog 67 = .con (.nilFunc) := by kernel_rfl
theorem tz68 : tz Tryz.prog 68 = .con (.nilFunc) := by kernel_rfl
theorem tz69 : tz Tryz.prog 69 = .con (.nilFunc) := by kernel_rfl
theorem tz70 : tz Tryz.prog 70 = .con (.nilFunc) := by kernel_rfl
theorem tz71 : tz Tryz.prog 71 = .con (.nilFunc) := by kernel_rfl
theorem tz73 : tz Tryz.prog 73 = .con (.nilFunc) := by kernel_rfl
theorem tz74 : tz Tryz.prog 74 = .con (.nilFunc) := by kernel_rfl
theorem tz75 : tz Tryz.prog 75 = .con (.nilFunc) := by kernel_rfl
theorem tz76 : tz Tryz.prog 76 = .con (.nilFunc) := by kernel_rfl
theorem tz77 : tz Tryz.prog 77 = .con (.nilFunc) := by kernel_rfl
theorem tz78 : tz Tryz.prog 78 = .con (.nilFunc) := by kernel_rfl
theorem tz79 : tz Tryz.prog 79 = .con (.nilFunc) := by kernel_rfl
theorem tz80 : tz Tryz.prog 80 = .con (.nilFunc) := by kernel_rfl
theorem tz81 : tz Tryz.prog 81 = .con (.nilFunc) := by kernel_rfl
theorem tz82 : tz Tryz.prog 82 = .con (.nilFunc) := by kernel_rfl
theorem tz83 : tz Tryz.prog 83 = .con (.nilFunc) := by kernel_rfl
theorem tz84 : tz Tryz.prog 84 = .con (.nilFunc) := by kernel_rfl
theorem tz85 : tz Tryz.prog 85 = .con (.nilFunc) := by kernel_rfl
theorem tz86 : tz Tryz.prog 86 = .con (.nilFunc) := by kernel_rfl
theorem tz87 : tz Tryz.prog 87 = .con (.nilFunc) := by kernel_rfl
theorem tk88 : tk Tryz.prog 88 = .int .u64 := by kernel_rfl
theorem tz88 : tz Tryz.prog 88 = .con (.int .u64 0) := by kernel_rfl
theorem tz89 : tz Tryz.prog 89 = .con (.nilFunc) := by kernel_rfl
theorem tz90 : tz Tryz.prog 90 = .con (.nilFunc) := by kernel_rfl
theorem tz91 : tz Tryz.prog 91 = .con (.nilFunc) := by kernel_rfl
theorem tz92 : tz Tryz.prog 92 = .con (.nilFunc) := by kernel_rfl
theorem tz93 : tz Tryz.prog 93 = .con (.nilFunc) := by kernel_rfl
theorem tz94 : tz Tryz.prog 94 = .con (.nilFunc) := by kernel_rfl
theorem tk95 : tk Tryz.prog 95 = .map none (.int .i64 0) := by kernel_rfl
theorem tz95 : tz Tryz.prog 95 = .con (.map none) := by kernel_rfl
theorem tz96 : tz Tryz.prog 96 = .con (.nilFunc) := by kernel_rfl
theorem tz97 : tz Tryz.prog 97 = .con (.nilFunc) := by kernel_rfl
theorem tz98 : tz Tryz.prog 98 = .con (.nilFunc) := by kernel_rfl
theorem tz99 : tz Tryz.prog 99 = .con (.nilFunc) := by kernel_rfl
theorem tz100 : tz Tryz.prog 100 = .con (.nilFunc) := by kernel_rfl
theorem tz101 : tz Tryz.prog 101 = .con (.nilFunc) := by kernel_rfl
theorem tz102 : tz Tryz.prog 102 = .con (.nilFunc) := by kernel_rfl
theorem tz104 : tz Tryz.prog 104 = .con (.nilFunc) := by kernel_rfl
theorem tz105 : tz Tryz.prog 105 = .con (.nilFunc) := by kernel_rfl
theorem tk106 : tk Tryz.prog 106 = .int .u64 := by kernel_rfl
theorem tz106 : tz Tryz.prog 106 = .con (.int .u64 0) := by kernel_rfl
theorem tz107 : tz Tryz.prog 107 = .con (.nilFunc) := by kernel_rfl
theorem tz108 : tz Tryz.prog 108 = .con (.nilFunc) := by kernel_rfl
theorem tk109 : tk Tryz.prog 109 = .map (some .i64) (.int .i64 0) := by kernel_rfl
theorem tz109 : tz Tryz.prog 109 = .con (.map none) := by kernel_rfl
theorem tk110 : tk Tryz.prog 110 = .sl 3 1 8 false [.int .i64 0] := by kernel_rfl
theorem tz110 : tz Tryz.prog 110 = .emp := by kernel_rfl
theorem tz111 : tz Tryz.prog 111 = .con (.nilFunc) := by kernel_rfl
theorem tz112 : tz Tryz.prog 112 = .con (.nilFunc) := by kernel_rfl
theorem tz113 : tz Tryz.prog 113 = .con (.nilFunc) := by kernel_rfl
theorem tz114 : tz Tryz.prog 114 = .con (.nilFunc) := by kernel_rfl
theorem tz115 : tz Tryz.prog 115 = .con (.nilFunc) := by kernel_rfl
theorem tz116 : tz Tryz.prog 116 = .con (.nilFunc) := by kernel_rfl
theorem tz117 : tz Tryz.prog 117 = .con (.nilFunc) := by kernel_rfl
theorem tz118 : tz Tryz.prog 118 = .con (.nilFunc) := by kernel_rfl
theorem tz120 : tz Tryz.prog 120 = .con (.nilFunc) := by kernel_rfl
theorem tk121 : tk Tryz.prog 121 = .ptr := by kernel_rfl
theorem tz121 : tz Tryz.prog 121 = .con (.pointer none) := by kernel_rfl
theorem tk122 : tk Tryz.prog 122 = .arr 2 3 1 [.int .i64 0, .int .i64 0] := by kernel_rfl
theorem tz122 : tz Tryz.prog 122 = .agg [.con (.int .i64 0), .con (.int .i64 0)] := by kernel_rfl
theorem tz123 : tz Tryz.prog 123 = .con (.nilFunc) := by kernel_rfl
theorem tz124 : tz Tryz.prog 124 = .con (.nilFunc) := by kernel_rfl
theorem tz125 : tz Tryz.prog 125 = .con (.nilFunc) := by kernel_rfl
theorem tz126 : tz Tryz.prog 126 = .con (.nilFunc) := by kernel_rfl
theorem tz127 : tz Tryz.prog 127 = .con (.nilFunc) := by kernel_rfl
theorem tz128 : tz Tryz.prog 128 = .con (.nilFunc) := by kernel_rfl
theorem tk129 : tk Tryz.prog 129 = .st [(0, 1), (1, 1), (2, 1), (3, 1)] [.pointer none, .pointer none, .pointer none, .string .empty] := by kernel_rfl
theorem tz129 : tz Tryz.prog 129 = .agg [.con (.pointer none), .con (.pointer none), .con (.pointer none), .con (.string .empty)] := by kernel_rfl
theorem tk130 : tk Tryz.prog 130 = .st [(0, 1), (1, 1), (2, 1), (3, 1)] [.pointer none, .pointer none, .pointer none, .string .empty] := by kernel_rfl
theorem tz130 : tz Tryz.prog 130 = .agg [.con (.pointer none), .con (.pointer none), .con (.pointer none), .con (.string .empty)] := by kernel_rfl
theorem tk131 : tk Tryz.prog 131 = .arr 0 16 1 [] := by kernel_rfl
theorem tz131 : tz Tryz.prog 131 = .agg [] := by kernel_rfl
theorem tk132 : tk Tryz.prog 132 = .st [(0, 0)] [] := by kernel_rfl
theorem tz132 : tz Tryz.prog 132 = .agg [] := by kernel_rfl
theorem tk133 : tk Tryz.prog 133 = .st [(0, 0)] [] := by kernel_rfl
theorem tz133 : tz Tryz.prog 133 = .agg [] := by kernel_rfl
theorem tk134 : tk Tryz.prog 134 = .int .u8 := by kernel_rfl
theorem tz134 : tz Tryz.prog 134 = .con (.int .u8 0) := by kernel_rfl
theorem tk135 : tk Tryz.prog 135 = .int .u8 := by kernel_rfl
theorem tz135 : tz Tryz.prog 135 = .con (.int .u8 0) := by kernel_rfl
theorem tz136 : tz Tryz.prog 136 = .con (.nilFunc) := by kernel_rfl
theorem tk137 : tk Tryz.prog 137 = .ptr := by kernel_rfl
theorem tz137 : tz Tryz.prog 137 = .con (.pointer none) := by kernel_rfl
theorem tk138 : tk Tryz.prog 138 = .int .i32 := by kernel_rfl
theorem tz138 : tz Tryz.prog 138 = .con (.int .i32 0) := by kernel_rfl
theorem tk139 : tk Tryz.prog 139 = .int .i32 := by kernel_rfl
theorem tz139 : tz Tryz.prog 139 = .con (.int .i32 0) := by kernel_rfl
theorem tk140 : tk Tryz.prog 140 = .st [(0, 1), (1, 1), (2, 1), (3, 1), (4, 1), (5, 1), (6, 1), (7, 1), (8, 1), (9, 1), (10, 1)] [.int .u64 0, .int .u64 0, .int .u32 0, .int .u8 0, .int .u8 0, .int .u8 0, .int .u8 0, .nilFunc, .pointer none, .int .i32 0, .int .i32 0] := by kernel_rfl
theorem tz140 : tz Tryz.prog 140 = .agg [.con (.int .u64 0), .con (.int .u64 0), .con (.int .u32 0), .con (.int .u8 0), .con (.int .u8 0), .con (.int .u8 0), .con (.int .u8 0), .con (.nilFunc), .con (.pointer none), .con (.int .i32 0), .con (.int .i32 0)] := by kernel_rfl
theorem tk141 : tk Tryz.prog 141 = .st [(0, 1), (1, 1), (2, 1), (3, 1), (4, 1), (5, 1), (6, 1), (7, 1), (8, 1), (9, 1), (10, 1)] [.int .u64 0, .int .u64 0, .int .u32 0, .int .u8 0, .int .u8 0, .int .u8 0, .int .u8 0, .nilFunc, .pointer none, .int .i32 0, .int .i32 0] := by kernel_rfl
theorem tz141 : tz Tryz.prog 141 = .agg [.con (.int .u64 0), .con (.int .u64 0), .con (.int .u32 0), .con (.int .u8 0), .con (.int .u8 0), .con (.int .u8 0), .con (.int .u8 0), .con (.nilFunc), .con (.pointer none), .con (.int .i32 0), .con (.int .i32 0)] := by kernel_rfl
theorem tz142 : tz Tryz.prog 142 = .con (.pointer none) := by kernel_rfl
end Go.Ev
