/- WHAT THE EVALUATOR ASKS OF THE TYPES, a row each: written by a program of our own. -/
import Derived.Test.YtfaegonekocakaaProg
import Derived.Test.YtfaegonekocakaaEvA
set_option linter.all false
set_option maxRecDepth 100000
namespace Go.Ev
open Go.Proofs
theorem tz1 : tz Try.prog 1 = .con (.nilFunc) := by kernel_rfl
theorem tk2 : tk Try.prog 2 = .int .i64 := by kernel_rfl
theorem tz2 : tz Try.prog 2 = .con (.int .i64 0) := by kernel_rfl
theorem tk3 : tk Try.prog 3 = .int .i64 := by kernel_rfl
theorem tz3 : tz Try.prog 3 = .con (.int .i64 0) := by kernel_rfl
theorem tk4 : tk Try.prog 4 = .bool := by kernel_rfl
theorem tz4 : tz Try.prog 4 = .con (.bool false) := by kernel_rfl
theorem tk5 : tk Try.prog 5 = .int .u8 := by kernel_rfl
theorem tz5 : tz Try.prog 5 = .con (.int .u8 0) := by kernel_rfl
theorem tk6 : tk Try.prog 6 = .int .u8 := by kernel_rfl
theorem tz6 : tz Try.prog 6 = .con (.int .u8 0) := by kernel_rfl
theorem tk7 : tk Try.prog 7 = .st [(0, 1), (1, 1), (2, 1), (3, 1)] [.int .i64 0, .int .i64 0, .bool false, .int .u8 0] := by kernel_rfl
theorem tz7 : tz Try.prog 7 = .agg [.con (.int .i64 0), .con (.int .i64 0), .con (.bool false), .con (.int .u8 0)] := by kernel_rfl
theorem tk8 : tk Try.prog 8 = .st [(0, 1), (1, 1), (2, 1), (3, 1)] [.int .i64 0, .int .i64 0, .bool false, .int .u8 0] := by kernel_rfl
theorem tz8 : tz Try.prog 8 = .agg [.con (.int .i64 0), .con (.int .i64 0), .con (.bool false), .con (.int .u8 0)] := by kernel_rfl
theorem tk9 : tk Try.prog 9 = .str := by kernel_rfl
theorem tz9 : tz Try.prog 9 = .con (.string .empty) := by kernel_rfl
theorem tk10 : tk Try.prog 10 = .str := by kernel_rfl
theorem tz10 : tz Try.prog 10 = .con (.string .empty) := by kernel_rfl
theorem tk11 : tk Try.prog 11 = .str := by kernel_rfl
theorem tz11 : tz Try.prog 11 = .con (.string .empty) := by kernel_rfl
theorem tk12 : tk Try.prog 12 = .int .u64 := by kernel_rfl
theorem tz12 : tz Try.prog 12 = .con (.int .u64 0) := by kernel_rfl
theorem tk13 : tk Try.prog 13 = .st [(0, 1), (1, 1)] [.string .empty, .int .u64 0] := by kernel_rfl
theorem tz13 : tz Try.prog 13 = .agg [.con (.string .empty), .con (.int .u64 0)] := by kernel_rfl
theorem tk14 : tk Try.prog 14 = .st [(0, 1), (1, 1)] [.string .empty, .int .u64 0] := by kernel_rfl
theorem tz14 : tz Try.prog 14 = .agg [.con (.string .empty), .con (.int .u64 0)] := by kernel_rfl
theorem tk15 : tk Try.prog 15 = .ptr := by kernel_rfl
theorem tz15 : tz Try.prog 15 = .con (.pointer none) := by kernel_rfl
theorem tk16 : tk Try.prog 16 = .ptr := by kernel_rfl
theorem tz16 : tz Try.prog 16 = .con (.pointer none) := by kernel_rfl
theorem tk17 : tk Try.prog 17 = .ptr := by kernel_rfl
theorem tz17 : tz Try.prog 17 = .con (.pointer none) := by kernel_rfl
theorem tk18 : tk Try.prog 18 = .st [(0, 1)] [.pointer none] := by kernel_rfl
theorem tz18 : tz Try.prog 18 = .agg [.con (.pointer none)] := by kernel_rfl
theorem tk19 : tk Try.prog 19 = .st [(0, 1)] [.pointer none] := by kernel_rfl
theorem tz19 : tz Try.prog 19 = .agg [.con (.pointer none)] := by kernel_rfl
theorem tz20 : tz Try.prog 20 = .con (.nilIface) := by kernel_rfl
theorem tk21 : tk Try.prog 21 = .int .i32 := by kernel_rfl
theorem tz21 : tz Try.prog 21 = .con (.int .i32 0) := by kernel_rfl
theorem tk22 : tk Try.prog 22 = .sl 9 1 16 false [.string .empty] := by kernel_rfl
theorem tz22 : tz Try.prog 22 = .emp := by kernel_rfl
theorem tk23 : tk Try.prog 23 = .sl 22 1 24 false [.slice none 0 0] := by kernel_rfl
theorem tz23 : tz Try.prog 23 = .emp := by kernel_rfl
theorem tk24 : tk Try.prog 24 = .sl 38 1 24 false [.slice none 0 0] := by kernel_rfl
theorem tz24 : tz Try.prog 24 = .emp := by kernel_rfl
theorem tk25 : tk Try.prog 25 = .sl 29 1 24 false [.slice none 0 0] := by kernel_rfl
theorem tz25 : tz Try.prog 25 = .emp := by kernel_rfl
theorem tk26 : tk Try.prog 26 = .st [(0, 1), (1, 1), (2, 1), (3, 1), (4, 1)] [.string .empty, .slice none 0 0, .slice none 0 0, .slice none 0 0, .slice none 0 0] := by kernel_rfl
theorem tz26 : tz Try.prog 26 = .agg [.con (.string .empty), .emp, .emp, .emp, .emp] := by kernel_rfl
theorem tk27 : tk Try.prog 27 = .st [(0, 1), (1, 1), (2, 1), (3, 1), (4, 1)] [.string .empty, .slice none 0 0, .slice none 0 0, .slice none 0 0, .slice none 0 0] := by kernel_rfl
theorem tz27 : tz Try.prog 27 = .agg [.con (.string .empty), .emp, .emp, .emp, .emp] := by kernel_rfl
theorem tz28 : tz Try.prog 28 = .con (.nilFunc) := by kernel_rfl
theorem tk29 : tk Try.prog 29 = .sl 35 3 56 true [.bool false, .slice none 0 0, .slice none 0 0] := by kernel_rfl
theorem tz29 : tz Try.prog 29 = .emp := by kernel_rfl
theorem tk30 : tk Try.prog 30 = .sl 40 1 4 false [.int .u32 0] := by kernel_rfl
theorem tz30 : tz Try.prog 30 = .emp := by kernel_rfl
theorem tk31 : tk Try.prog 31 = .sl 40 1 4 false [.int .u32 0] := by kernel_rfl
theorem tz31 : tz Try.prog 31 = .emp := by kernel_rfl
theorem tk32 : tk Try.prog 32 = .st [(0, 1), (1, 1)] [.bool false, .slice none 0 0] := by kernel_rfl
theorem tz32 : tz Try.prog 32 = .agg [.con (.bool false), .emp] := by kernel_rfl
theorem tk33 : tk Try.prog 33 = .st [(0, 1), (1, 1)] [.bool false, .slice none 0 0] := by kernel_rfl
theorem tz33 : tz Try.prog 33 = .agg [.con (.bool false), .emp] := by kernel_rfl
theorem tk34 : tk Try.prog 34 = .st [(0, 2), (2, 1)] [.bool false, .slice none 0 0, .slice none 0 0] := by kernel_rfl
theorem tz34 : tz Try.prog 34 = .agg [.con (.bool false), .emp, .emp] := by kernel_rfl
theorem tk35 : tk Try.prog 35 = .st [(0, 2), (2, 1)] [.bool false, .slice none 0 0, .slice none 0 0] := by kernel_rfl
theorem tz35 : tz Try.prog 35 = .agg [.con (.bool false), .emp, .emp] := by kernel_rfl
theorem tz36 : tz Try.prog 36 = .con (.nilFunc) := by kernel_rfl
theorem tz37 : tz Try.prog 37 = .con (.nilFunc) := by kernel_rfl
theorem tk38 : tk Try.prog 38 = .sl 3 1 8 false [.int .i64 0] := by kernel_rfl
theorem tz38 : tz Try.prog 38 = .emp := by kernel_rfl
theorem tk39 : tk Try.prog 39 = .int .u64 := by kernel_rfl
theorem tz39 : tz Try.prog 39 = .con (.int .u64 0) := by kernel_rfl
theorem tk40 : tk Try.prog 40 = .int .u32 := by kernel_rfl
theorem tz40 : tz Try.prog 40 = .con (.int .u32 0) := by kernel_rfl
theorem tk41 : tk Try.prog 41 = .int .u64 := by kernel_rfl
theorem tz41 : tz Try.prog 41 = .con (.int .u64 0) := by kernel_rfl
theorem tz42 : tz Try.prog 42 = .con (.nilFunc) := by kernel_rfl
theorem tz43 : tz Try.prog 43 = .con (.nilFunc) := by kernel_rfl
theorem tz44 : tz Try.prog 44 = .con (.nilFunc) := by kernel_rfl
theorem tz45 : tz Try.prog 45 = .con (.nilFunc) := by kernel_rfl
theorem tz46 : tz Try.prog 46 = .con (.nilFunc) := by kernel_rfl
theorem tz47 : tz Try.prog 47 = .con (.nilFunc) := by kernel_rfl
theorem tz48 : tz Try.prog 48 = .con (.nilFunc) := by kernel_rfl
theorem tz49 : tz Try.prog 49 = .con (.nilFunc) := by kernel_rfl
theorem tz50 : tz Try.prog 50 = .con (.nilFunc) := by kernel_rfl
theorem tz51 : tz Try.prog 51 = .con (.nilFunc) := by kernel_rfl
theorem tz52 : tz Try.prog 52 = .con (.nilFunc) := by kernel_rfl
theorem tz53 : tz Try.prog 53 = .con (.nilFunc) := by kernel_rfl
theorem tz54 : tz Try.prog 54 = .con (.nilFunc) := by kernel_rfl
theorem tz55 : tz Try.prog 55 = .con (.nilFunc) := by kernel_rfl
theorem tz56 : tz Try.prog 56 = .con (.nilFunc) := by kernel_rfl
theorem tz57 : tz Try.prog 57 = .con (.nilFunc) := by kernel_rfl
theorem tz58 : tz Try.prog 58 = .con (.nilFunc) := by kernel_rfl
theorem tz59 : tz Try.prog 59 = .con (.nilFunc) := by kernel_rfl
theorem tz60 : tz Try.prog 60 = .con (.nilFunc) := by kernel_rfl
theorem tz61 : tz Try.prog 61 = .con (.nilFunc) := by kernel_rfl
theorem tz62 : tz Try.prog 62 = .con (.nilFunc) := by kernel_rfl
theorem tz63 : tz Try.prog 63 = .con (.nilFunc) := by kernel_rfl
theorem tz64 : tz Try.prog 64 = .con (.nilFunc) := by kernel_rfl
theorem tz65 : tz Try.prog 65 = .con (.nilFunc) := by kernel_rfl
theorem tz67 : tz Try.prog 67 = .con (.nilFunc) := by kernel_rfl
theorem tz68 : tz Try.prog 68 = .con (.nilFunc) := by kernel_rfl
theorem tz69 : tz Try.prog 69 = .con (.nilFunc) := by kernel_rfl
theorem tk70 : tk Try.prog 70 = .st [(0, 1), (1, 1), (2, 1), (3, 1)] [.pointer none, .pointer none, .pointer none, .string .empty] := by kernel_rfl
theorem tz70 : tz Try.prog 70 = .agg [.con (.pointer none), .con (.pointer none), .con (.pointer none), .con (.string .empty)] := by kernel_rfl
theorem tk71 : tk Try.prog 71 = .st [(0, 1), (1, 1), (2, 1), (3, 1)] [.pointer none, .pointer none, .pointer none, .string .empty] := by kernel_rfl
theorem tz71 : tz Try.prog 71 = .agg [.con (.pointer none), .con (.pointer none), .con (.pointer none), .con (.string .empty)] := by kernel_rfl
theorem tz72 : tz Try.prog 72 = .agg [] := by kernel_rfl
theorem tk73 : tk Try.prog 73 = .st [(0, 0)] [] := by kernel_rfl
theorem tz73 : tz Try.prog 73 = .agg [] := by kernel_rfl
theorem tk74 : tk Try.prog 74 = .st [(0, 0)] [] := by kernel_rfl
theorem tz74 : tz Try.prog 74 = .agg [] := by kernel_rfl
theorem tz75 : tz Try.prog 75 = .con (.nilFunc) := by kernel_rfl
theorem tk76 : tk Try.prog 76 = .int .u8 := by kernel_rfl
theorem tz76 : tz Try.prog 76 = .con (.int .u8 0) := by kernel_rfl
theorem tk77 : tk Try.prog 77 = .int .u8 := by kernel_rfl
theorem tz77 : tz Try.prog 77 = .con (.int .u8 0) := by kernel_rfl
theorem tz78 : tz Try.prog 78 = .con (.nilFunc) := by kernel_rfl
theorem tk79 : tk Try.prog 79 = .ptr := by kernel_rfl
theorem tz79 : tz Try.prog 79 = .con (.pointer none) := by kernel_rfl
theorem tk80 : tk Try.prog 80 = .int .i32 := by kernel_rfl
theorem tz80 : tz Try.prog 80 = .con (.int .i32 0) := by kernel_rfl
theorem tk81 : tk Try.prog 81 = .int .i32 := by kernel_rfl
theorem tz81 : tz Try.prog 81 = .con (.int .i32 0) := by kernel_rfl
theorem tk82 : tk Try.prog 82 = .st [(0, 1), (1, 1), (2, 1), (3, 1), (4, 1), (5, 1), (6, 1), (7, 1), (8, 1), (9, 1), (10, 1)] [.int .u64 0, .int .u64 0, .int .u32 0, .int .u8 0, .int .u8 0, .int .u8 0, .int .u8 0, .nilFunc, .pointer none, .int .i32 0, .int .i32 0] := by kernel_rfl
theorem tz82 : tz Try.prog 82 = .agg [.con (.int .u64 0), .con (.int .u64 0), .con (.int .u32 0), .con (.int .u8 0), .con (.int .u8 0), .con (.int .u8 0), .con (.int .u8 0), .con (.nilFunc), .con (.pointer none), .con (.int .i32 0), .con (.int .i32 0)] := by kernel_rfl
theorem tk83 : tk Try.prog 83 = .st [(0, 1), (1, 1), (2, 1), (3, 1), (4, 1), (5, 1), (6, 1), (7, 1), (8, 1), (9, 1), (10, 1)] [.int .u64 0, .int .u64 0, .int .u32 0, .int .u8 0, .int .u8 0, .int .u8 0, .int .u8 0, .nilFunc, .pointer none, .int .i32 0, .int .i32 0] := by kernel_rfl
theorem tz83 : tz Try.prog 83 = .agg [.con (.int .u64 0), .con (.int .u64 0), .con (.int .u32 0), .con (.int .u8 0), .con (.int .u8 0), .con (.int .u8 0), .con (.int .u8 0), .con (.nilFunc), .con (.pointer none), .con (.int .i32 0), .con (.int .i32 0)] := by kernel_rfl
theorem tz84 : tz Try.prog 84 = .con (.pointer none) := by kernel_rfl
end Go.Ev
