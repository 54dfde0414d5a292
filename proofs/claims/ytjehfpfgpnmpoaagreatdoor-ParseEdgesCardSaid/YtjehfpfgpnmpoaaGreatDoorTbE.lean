/-
  THE TABLES OF THIS SEAT FOR CLOSED LAWS, BY COMPUTATION: printed by an own program (gen.py): types, zero values, functions that the runs meet; each is shown to be the program's.
-/
import Derived.Test.YtjehfpfgpnmpoaaGreatDoorXY
import Derived.Test.YtjehfpfgpnmpoaaGreatDoorAs
set_option linter.all false
set_option maxRecDepth 100000
namespace Go.Proofs.YtjehfpfgpnmpoaaGreatDoor
open Go Go.Ev
def tkT : Tr TK := (.node none (.node none (.node (some (.int .i64)) (.node none (.node none (.node none (.node (some (.sl 86 4 40 true [(.int .i8 0), (.string ⟨#[]⟩), (.int .i64 0), (.int .i64 0)])) .nil .nil) (.node (some (.st [(0, 1), (1, 1), (2, 1)] [(.int .i8 0), (.slice none 0 0), (.slice none 0 0)])) .nil .nil)) (.node (some (.st [(0, 2), (2, 1)] [(.bool false), (.slice none 0 0), (.slice none 0 0)])) .nil .nil)) (.node none (.node (some (.st [(0, 1), (1, 1), (2, 1), (3, 1)] [(.string ⟨#[]⟩), (.slice none 0 0), (.slice none 0 0), (.slice none 0 0)])) (.node none (.node (some (.st [(0, 1), (1, 1), (2, 1), (3, 1)] [(.string ⟨#[]⟩), (.int .i64 0), (.int .i64 0), (.int .i64 0)])) .nil .nil) .nil) .nil) .nil)) (.node none (.node none .nil (.node (some (.int .u32)) .nil (.node none (.node (some (.int .u64)) .nil .nil) .nil))) (.node none (.node (some (.sl 51 1 4 false [(.int .u32 0)])) .nil .nil) .nil))) (.node (some (.int .u8)) (.node (some .str) (.node none (.node (some (.sl 40 1 24 false [(.slice none 0 0)])) .nil .nil) (.node (some (.st [(0, 1), (1, 3)] [(.int .i8 0), (.bool false), (.slice none 0 0), (.slice none 0 0)])) .nil .nil)) (.node (some (.sl 69 4 88 true [(.string ⟨#[]⟩), (.slice none 0 0), (.slice none 0 0), (.slice none 0 0)])) (.node (some (.int .i8)) .nil (.node (some (.ptr 108)) .nil .nil)) .nil)) (.node none (.node (some (.int .i32)) (.node (some (.sl 95 3 56 true [(.int .i8 0), (.slice none 0 0), (.slice none 0 0)])) (.node (some (.st [(0, 1), (1, 1), (2, 1), (3, 1)] [(.string ⟨#[]⟩), (.slice none 0 0), (.slice none 0 0), (.slice none 0 0)])) .nil .nil) .nil) .nil) (.node none (.node (some (.st [(0, 1), (1, 1)] [(.bool false), (.slice none 0 0)])) .nil .nil) .nil)))) (.node none (.node (some .bool) (.node none (.node none (.node none (.node (some (.ptr 54)) .nil .nil) .nil) (.node none (.node (some (.ptr 64)) .nil .nil) .nil)) (.node (some (.sl 9 1 16 false [(.string ⟨#[]⟩)])) (.node (some (.sl 49 4 64 true [(.int .i8 0), (.bool false), (.slice none 0 0), (.slice none 0 0)])) .nil .nil) (.node none (.node none (.node (some (.ptr 5)) .nil .nil) .nil) (.node (some .uptr) .nil .nil)))) (.node none (.node none .nil (.node (some (.int .i64)) .nil .nil)) (.node (some (.st [(0, 1), (1, 1), (2, 1), (3, 1)] [(.string ⟨#[]⟩), (.slice none 0 0), (.slice none 0 0), (.slice none 0 0)])) (.node none .nil (.node (some (.st [(0, 1), (1, 1)] [(.pointer none), (.slice none 0 0)])) .nil .nil)) .nil))) (.node none (.node none (.node none (.node none (.node (some (.st [(0, 1), (1, 1), (2, 1), (3, 1), (4, 1)] [(.slice none 0 0), (.pointer none), (.int .i64 0), (.pointer none), (.int .i64 0)])) .nil .nil) .nil) (.node none (.node none (.node (some (.int .u64)) .nil .nil) .nil) .nil)) (.node (some (.sl 39 4 88 true [(.string ⟨#[]⟩), (.slice none 0 0), (.slice none 0 0), (.slice none 0 0)])) (.node none .nil (.node (some (.sl 5 1 1 false [(.int .u8 0)])) .nil .nil)) (.node (some (.ptr 66)) .nil .nil))) (.node none (.node none .nil (.node (some (.st [(0, 1), (1, 1), (2, 1), (3, 1)] [(.int .i64 0), (.int .i64 0), (.int .i64 0), (.string ⟨#[]⟩)])) (.node (some (.st [(0, 1), (1, 1), (2, 1), (3, 1)] [(.int .i8 0), (.string ⟨#[]⟩), (.int .i64 0), (.int .i64 0)])) .nil .nil) .nil)) (.node (some .ifc) .nil .nil)))))
def tzT : Tr V := (.node none (.node none (.node none (.node none (.node none (.node none .nil (.node (some (.agg [(.con (.int .i8 0)), (.emp true), (.emp true)])) .nil .nil)) (.node (some (.agg [(.con (.bool false)), (.emp true), (.emp true)])) .nil .nil)) (.node none (.node (some (.agg [(.con (.string ⟨#[]⟩)), (.emp true), (.emp true), (.emp true)])) (.node none (.node (some (.agg [(.con (.string ⟨#[]⟩)), (.con (.int .i64 0)), (.con (.int .i64 0)), (.con (.int .i64 0))])) .nil .nil) .nil) .nil) .nil)) .nil) (.node none .nil (.node none (.node none (.node none (.node (some (.agg [(.con (.string ⟨#[]⟩)), (.emp true), (.emp true), (.emp true)])) .nil .nil) .nil) .nil) (.node none (.node (some (.agg [(.con (.bool false)), (.emp true)])) .nil .nil) .nil)))) (.node none (.node none (.node none (.node none (.node none (.node (some (.con (.pointer none))) .nil .nil) .nil) .nil) .nil) (.node none .nil (.node (some (.agg [(.con (.string ⟨#[]⟩)), (.emp true), (.emp true), (.emp true)])) (.node none .nil (.node (some (.agg [(.con (.pointer none)), (.emp true)])) .nil .nil)) .nil))) (.node none (.node none .nil (.node none .nil (.node (some (.con (.pointer none))) .nil .nil))) (.node none (.node none .nil (.node (some (.agg [(.con (.int .i64 0)), (.con (.int .i64 0)), (.con (.int .i64 0)), (.con (.string ⟨#[]⟩))])) (.node (some (.agg [(.con (.int .i8 0)), (.con (.string ⟨#[]⟩)), (.con (.int .i64 0)), (.con (.int .i64 0))])) .nil .nil) .nil)) .nil))))
noncomputable def fnT : Tr Func := (.node none (.node none (.node none (.node (some Tryz.f7) (.node (some Tryz.f15) (.node (some Tryz.f31) .nil (.node (some Tryz.f95) .nil .nil)) (.node none .nil (.node (some Tryz.f111) .nil .nil))) (.node (some Tryz.f23) (.node (some Tryz.f39) .nil .nil) (.node (some Tryz.f55) (.node (some Tryz.f87) .nil .nil) .nil))) (.node none (.node (some Tryz.f19) (.node (some Tryz.f35) (.node (some Tryz.f67) .nil .nil) (.node (some Tryz.f99) .nil .nil)) (.node none (.node (some Tryz.f83) (.node (some Tryz.f147) .nil .nil) .nil) (.node (some Tryz.f115) .nil .nil))) (.node none (.node (some Tryz.f43) (.node (some Tryz.f75) .nil .nil) .nil) (.node none (.node (some Tryz.f91) .nil .nil) (.node (some Tryz.f123) .nil .nil))))) (.node none (.node (some Tryz.f9) (.node (some Tryz.f17) (.node (some Tryz.f33) (.node (some Tryz.f65) (.node (some Tryz.f129) .nil .nil) .nil) (.node (some Tryz.f97) .nil .nil)) (.node none .nil (.node (some Tryz.f113) .nil .nil))) (.node (some Tryz.f25) (.node none (.node (some Tryz.f73) (.node (some Tryz.f137) .nil .nil) .nil) (.node (some Tryz.f105) .nil .nil)) (.node (some Tryz.f57) (.node (some Tryz.f89) .nil .nil) .nil))) (.node (some Tryz.f13) (.node (some Tryz.f21) (.node (some Tryz.f37) .nil (.node (some Tryz.f101) .nil .nil)) (.node none (.node (some Tryz.f85) .nil .nil) (.node (some Tryz.f117) .nil .nil))) (.node none (.node none .nil (.node (some Tryz.f109) .nil .nil)) .nil)))) (.node none (.node (some Tryz.f4) (.node (some Tryz.f8) (.node (some Tryz.f16) (.node (some Tryz.f32) .nil (.node (some Tryz.f96) .nil .nil)) (.node none (.node (some Tryz.f80) .nil .nil) (.node (some Tryz.f112) .nil .nil))) (.node (some Tryz.f24) (.node none (.node none (.node (some Tryz.f136) .nil .nil) .nil) .nil) (.node (some Tryz.f56) (.node (some Tryz.f88) .nil .nil) .nil))) (.node none (.node (some Tryz.f20) (.node (some Tryz.f36) .nil .nil) (.node none (.node (some Tryz.f84) (.node (some Tryz.f148) .nil .nil) .nil) (.node (some Tryz.f116) .nil .nil))) (.node none .nil (.node none (.node (some Tryz.f92) .nil .nil) (.node (some Tryz.f124) .nil .nil))))) (.node none (.node (some Tryz.f10) (.node (some Tryz.f18) (.node (some Tryz.f34) .nil (.node (some Tryz.f98) .nil .nil)) (.node none (.node (some Tryz.f82) .nil .nil) (.node (some Tryz.f114) .nil .nil))) (.node none (.node none (.node (some Tryz.f74) .nil .nil) .nil) (.node (some Tryz.f58) (.node (some Tryz.f90) .nil .nil) .nil))) (.node none (.node (some Tryz.f22) (.node (some Tryz.f38) (.node none (.node (some Tryz.f134) .nil .nil) .nil) .nil) (.node none (.node (some Tryz.f86) .nil .nil) (.node (some Tryz.f118) .nil .nil))) (.node none .nil (.node none (.node none (.node (some Tryz.f158) .nil .nil) .nil) .nil))))))
noncomputable def libN : LibN := { noEsc := some 102, idx := some 133, asQ := some 29, T := 64, PT := 80, d := .ptr 54 }
noncomputable def tb : Tb := { tk := fun t => (match tkT.get t with | some k => k | none => tk Tryz.prog t), tz := fun t => (match tzT.get t with | some v => v | none => .undef), fn := fun q => fnT.get q, lib := xlib libN, impl := fun _ _ => false, isIfc := fun _ => false, eqst := fun t => bif Nat.beq t 54 then some [(.int .i64), (.int .i64), (.int .i64), .str] else none, meth := fun _ _ => none, me := fun _ => 0, lies := fun t u n => bif Nat.beq t 108 && Nat.beq u 108 && Nat.beq n 2 then true else false }
def base : Sto := fun b o => bif Nat.beq b 0 && Nat.beq o 0 then some (.iface 158 (.agg #[.pointer (some ⟨4, 30, none⟩)])) else none
theorem tkT_ok : (tkT.toL.map fun p => tk Tryz.prog p.1) = tkT.toL.map fun p => p.2 := by kernel_rfl
theorem tzT_ok : (tzT.toL.map fun p => tz Tryz.prog p.1) = tzT.toL.map fun p => p.2 := by kernel_rfl
theorem fk4 : FnOK Tryz.prog 4 Tryz.f4 := ⟨Tryz.func4, by kernel_rfl, by kernel_rfl⟩
theorem fk7 : FnOK Tryz.prog 7 Tryz.f7 := ⟨Tryz.func7, by kernel_rfl, by kernel_rfl⟩
theorem fk8 : FnOK Tryz.prog 8 Tryz.f8 := ⟨Tryz.func8, by kernel_rfl, by kernel_rfl⟩
theorem fk9 : FnOK Tryz.prog 9 Tryz.f9 := ⟨Tryz.func9, by kernel_rfl, by kernel_rfl⟩
theorem fk10 : FnOK Tryz.prog 10 Tryz.f10 := ⟨Tryz.func10, by kernel_rfl, by kernel_rfl⟩
theorem fk13 : FnOK Tryz.prog 13 Tryz.f13 := ⟨Tryz.func13, by kernel_rfl, by kernel_rfl⟩
theorem fk15 : FnOK Tryz.prog 15 Tryz.f15 := ⟨Tryz.func15, by kernel_rfl, by kernel_rfl⟩
theorem fk16 : FnOK Tryz.prog 16 Tryz.f16 := ⟨Tryz.func16, by kernel_rfl, by kernel_rfl⟩
theorem fk17 : FnOK Tryz.prog 17 Tryz.f17 := ⟨Tryz.func17, by kernel_rfl, by kernel_rfl⟩
theorem fk18 : FnOK Tryz.prog 18 Tryz.f18 := ⟨Tryz.func18, by kernel_rfl, by kernel_rfl⟩
theorem fk19 : FnOK Tryz.prog 19 Tryz.f19 := ⟨Tryz.func19, by kernel_rfl, by kernel_rfl⟩
theorem fk20 : FnOK Tryz.prog 20 Tryz.f20 := ⟨Tryz.func20, by kernel_rfl, by kernel_rfl⟩
theorem fk21 : FnOK Tryz.prog 21 Tryz.f21 := ⟨Tryz.func21, by kernel_rfl, by kernel_rfl⟩
theorem fk22 : FnOK Tryz.prog 22 Tryz.f22 := ⟨Tryz.func22, by kernel_rfl, by kernel_rfl⟩
theorem fk23 : FnOK Tryz.prog 23 Tryz.f23 := ⟨Tryz.func23, by kernel_rfl, by kernel_rfl⟩
theorem fk24 : FnOK Tryz.prog 24 Tryz.f24 := ⟨Tryz.func24, by kernel_rfl, by kernel_rfl⟩
theorem fk25 : FnOK Tryz.prog 25 Tryz.f25 := ⟨Tryz.func25, by kernel_rfl, by kernel_rfl⟩
theorem fk31 : FnOK Tryz.prog 31 Tryz.f31 := ⟨Tryz.func31, by kernel_rfl, by kernel_rfl⟩
theorem fk32 : FnOK Tryz.prog 32 Tryz.f32 := ⟨Tryz.func32, by kernel_rfl, by kernel_rfl⟩
theorem fk33 : FnOK Tryz.prog 33 Tryz.f33 := ⟨Tryz.func33, by kernel_rfl, by kernel_rfl⟩
theorem fk34 : FnOK Tryz.prog 34 Tryz.f34 := ⟨Tryz.func34, by kernel_rfl, by kernel_rfl⟩
theorem fk35 : FnOK Tryz.prog 35 Tryz.f35 := ⟨Tryz.func35, by kernel_rfl, by kernel_rfl⟩
theorem fk36 : FnOK Tryz.prog 36 Tryz.f36 := ⟨Tryz.func36, by kernel_rfl, by kernel_rfl⟩
theorem fk37 : FnOK Tryz.prog 37 Tryz.f37 := ⟨Tryz.func37, by kernel_rfl, by kernel_rfl⟩
theorem fk38 : FnOK Tryz.prog 38 Tryz.f38 := ⟨Tryz.func38, by kernel_rfl, by kernel_rfl⟩
theorem fk39 : FnOK Tryz.prog 39 Tryz.f39 := ⟨Tryz.func39, by kernel_rfl, by kernel_rfl⟩
theorem fk43 : FnOK Tryz.prog 43 Tryz.f43 := ⟨Tryz.func43, by kernel_rfl, by kernel_rfl⟩
theorem fk55 : FnOK Tryz.prog 55 Tryz.f55 := ⟨Tryz.func55, by kernel_rfl, by kernel_rfl⟩
theorem fk56 : FnOK Tryz.prog 56 Tryz.f56 := ⟨Tryz.func56, by kernel_rfl, by kernel_rfl⟩
theorem fk57 : FnOK Tryz.prog 57 Tryz.f57 := ⟨Tryz.func57, by kernel_rfl, by kernel_rfl⟩
theorem fk58 : FnOK Tryz.prog 58 Tryz.f58 := ⟨Tryz.func58, by kernel_rfl, by kernel_rfl⟩
theorem fk65 : FnOK Tryz.prog 65 Tryz.f65 := ⟨Tryz.func65, by kernel_rfl, by kernel_rfl⟩
theorem fk67 : FnOK Tryz.prog 67 Tryz.f67 := ⟨Tryz.func67, by kernel_rfl, by kernel_rfl⟩
theorem fk73 : FnOK Tryz.prog 73 Tryz.f73 := ⟨Tryz.func73, by kernel_rfl, by kernel_rfl⟩
theorem fk74 : FnOK Tryz.prog 74 Tryz.f74 := ⟨Tryz.func74, by kernel_rfl, by kernel_rfl⟩
theorem fk75 : FnOK Tryz.prog 75 Tryz.f75 := ⟨Tryz.func75, by kernel_rfl, by kernel_rfl⟩
theorem fk80 : FnOK Tryz.prog 80 Tryz.f80 := ⟨Tryz.func80, by kernel_rfl, by kernel_rfl⟩
theorem fk82 : FnOK Tryz.prog 82 Tryz.f82 := ⟨Tryz.func82, by kernel_rfl, by kernel_rfl⟩
theorem fk83 : FnOK Tryz.prog 83 Tryz.f83 := ⟨Tryz.func83, by kernel_rfl, by kernel_rfl⟩
theorem fk84 : FnOK Tryz.prog 84 Tryz.f84 := ⟨Tryz.func84, by kernel_rfl, by kernel_rfl⟩
theorem fk85 : FnOK Tryz.prog 85 Tryz.f85 := ⟨Tryz.func85, by kernel_rfl, by kernel_rfl⟩
theorem fk86 : FnOK Tryz.prog 86 Tryz.f86 := ⟨Tryz.func86, by kernel_rfl, by kernel_rfl⟩
theorem fk87 : FnOK Tryz.prog 87 Tryz.f87 := ⟨Tryz.func87, by kernel_rfl, by kernel_rfl⟩
theorem fk88 : FnOK Tryz.prog 88 Tryz.f88 := ⟨Tryz.func88, by kernel_rfl, by kernel_rfl⟩
theorem fk89 : FnOK Tryz.prog 89 Tryz.f89 := ⟨Tryz.func89, by kernel_rfl, by kernel_rfl⟩
theorem fk90 : FnOK Tryz.prog 90 Tryz.f90 := ⟨Tryz.func90, by kernel_rfl, by kernel_rfl⟩
theorem fk91 : FnOK Tryz.prog 91 Tryz.f91 := ⟨Tryz.func91, by kernel_rfl, by kernel_rfl⟩
theorem fk92 : FnOK Tryz.prog 92 Tryz.f92 := ⟨Tryz.func92, by kernel_rfl, by kernel_rfl⟩
theorem fk95 : FnOK Tryz.prog 95 Tryz.f95 := ⟨Tryz.func95, by kernel_rfl, by kernel_rfl⟩
theorem fk96 : FnOK Tryz.prog 96 Tryz.f96 := ⟨Tryz.func96, by kernel_rfl, by kernel_rfl⟩
theorem fk97 : FnOK Tryz.prog 97 Tryz.f97 := ⟨Tryz.func97, by kernel_rfl, by kernel_rfl⟩
theorem fk98 : FnOK Tryz.prog 98 Tryz.f98 := ⟨Tryz.func98, by kernel_rfl, by kernel_rfl⟩
theorem fk99 : FnOK Tryz.prog 99 Tryz.f99 := ⟨Tryz.func99, by kernel_rfl, by kernel_rfl⟩
theorem fk101 : FnOK Tryz.prog 101 Tryz.f101 := ⟨Tryz.func101, by kernel_rfl, by kernel_rfl⟩
theorem fk105 : FnOK Tryz.prog 105 Tryz.f105 := ⟨Tryz.func105, by kernel_rfl, by kernel_rfl⟩
theorem fk109 : FnOK Tryz.prog 109 Tryz.f109 := ⟨Tryz.func109, by kernel_rfl, by kernel_rfl⟩
theorem fk111 : FnOK Tryz.prog 111 Tryz.f111 := ⟨Tryz.func111, by kernel_rfl, by kernel_rfl⟩
theorem fk112 : FnOK Tryz.prog 112 Tryz.f112 := ⟨Tryz.func112, by kernel_rfl, by kernel_rfl⟩
theorem fk113 : FnOK Tryz.prog 113 Tryz.f113 := ⟨Tryz.func113, by kernel_rfl, by kernel_rfl⟩
theorem fk114 : FnOK Tryz.prog 114 Tryz.f114 := ⟨Tryz.func114, by kernel_rfl, by kernel_rfl⟩
theorem fk115 : FnOK Tryz.prog 115 Tryz.f115 := ⟨Tryz.func115, by kernel_rfl, by kernel_rfl⟩
theorem fk116 : FnOK Tryz.prog 116 Tryz.f116 := ⟨Tryz.func116, by kernel_rfl, by kernel_rfl⟩
theorem fk117 : FnOK Tryz.prog 117 Tryz.f117 := ⟨Tryz.func117, by kernel_rfl, by kernel_rfl⟩
theorem fk118 : FnOK Tryz.prog 118 Tryz.f118 := ⟨Tryz.func118, by kernel_rfl, by kernel_rfl⟩
theorem fk123 : FnOK Tryz.prog 123 Tryz.f123 := ⟨Tryz.func123, by kernel_rfl, by kernel_rfl⟩
theorem fk124 : FnOK Tryz.prog 124 Tryz.f124 := ⟨Tryz.func124, by kernel_rfl, by kernel_rfl⟩
theorem fk129 : FnOK Tryz.prog 129 Tryz.f129 := ⟨Tryz.func129, by kernel_rfl, by kernel_rfl⟩
theorem fk134 : FnOK Tryz.prog 134 Tryz.f134 := ⟨Tryz.func134, by kernel_rfl, by kernel_rfl⟩
theorem fk136 : FnOK Tryz.prog 136 Tryz.f136 := ⟨Tryz.func136, by kernel_rfl, by kernel_rfl⟩
theorem fk137 : FnOK Tryz.prog 137 Tryz.f137 := ⟨Tryz.func137, by kernel_rfl, by kernel_rfl⟩
theorem fk147 : FnOK Tryz.prog 147 Tryz.f147 := ⟨Tryz.func147, by kernel_rfl, by kernel_rfl⟩
theorem fk148 : FnOK Tryz.prog 148 Tryz.f148 := ⟨Tryz.func148, by kernel_rfl, by kernel_rfl⟩
theorem fk158 : FnOK Tryz.prog 158 Tryz.f158 := ⟨Tryz.func158, by kernel_rfl, by kernel_rfl⟩
theorem fnT_ok : fnT.All (FnOK Tryz.prog) (fun i => i) := ⟨trivial, ⟨trivial, ⟨trivial, ⟨fk7, ⟨fk15, ⟨fk31, trivial, ⟨fk95, trivial, trivial⟩⟩, ⟨trivial, trivial, ⟨fk111, trivial, trivial⟩⟩⟩, ⟨fk23, ⟨fk39, trivial, trivial⟩, ⟨fk55, ⟨fk87, trivial, trivial⟩, trivial⟩⟩⟩, ⟨trivial, ⟨fk19, ⟨fk35, ⟨fk67, trivial, trivial⟩, ⟨fk99, trivial, trivial⟩⟩, ⟨trivial, ⟨fk83, ⟨fk147, trivial, trivial⟩, trivial⟩, ⟨fk115, trivial, trivial⟩⟩⟩, ⟨trivial, ⟨fk43, ⟨fk75, trivial, trivial⟩, trivial⟩, ⟨trivial, ⟨fk91, trivial, trivial⟩, ⟨fk123, trivial, trivial⟩⟩⟩⟩⟩, ⟨trivial, ⟨fk9, ⟨fk17, ⟨fk33, ⟨fk65, ⟨fk129, trivial, trivial⟩, trivial⟩, ⟨fk97, trivial, trivial⟩⟩, ⟨trivial, trivial, ⟨fk113, trivial, trivial⟩⟩⟩, ⟨fk25, ⟨trivial, ⟨fk73, ⟨fk137, trivial, trivial⟩, trivial⟩, ⟨fk105, trivial, trivial⟩⟩, ⟨fk57, ⟨fk89, trivial, trivial⟩, trivial⟩⟩⟩, ⟨fk13, ⟨fk21, ⟨fk37, trivial, ⟨fk101, trivial, trivial⟩⟩, ⟨trivial, ⟨fk85, trivial, trivial⟩, ⟨fk117, trivial, trivial⟩⟩⟩, ⟨trivial, ⟨trivial, trivial, ⟨fk109, trivial, trivial⟩⟩, trivial⟩⟩⟩⟩, ⟨trivial, ⟨fk4, ⟨fk8, ⟨fk16, ⟨fk32, trivial, ⟨fk96, trivial, trivial⟩⟩, ⟨trivial, ⟨fk80, trivial, trivial⟩, ⟨fk112, trivial, trivial⟩⟩⟩, ⟨fk24, ⟨trivial, ⟨trivial, ⟨fk136, trivial, trivial⟩, trivial⟩, trivial⟩, ⟨fk56, ⟨fk88, trivial, trivial⟩, trivial⟩⟩⟩, ⟨trivial, ⟨fk20, ⟨fk36, trivial, trivial⟩, ⟨trivial, ⟨fk84, ⟨fk148, trivial, trivial⟩, trivial⟩, ⟨fk116, trivial, trivial⟩⟩⟩, ⟨trivial, trivial, ⟨trivial, ⟨fk92, trivial, trivial⟩, ⟨fk124, trivial, trivial⟩⟩⟩⟩⟩, ⟨trivial, ⟨fk10, ⟨fk18, ⟨fk34, trivial, ⟨fk98, trivial, trivial⟩⟩, ⟨trivial, ⟨fk82, trivial, trivial⟩, ⟨fk114, trivial, trivial⟩⟩⟩, ⟨trivial, ⟨trivial, ⟨fk74, trivial, trivial⟩, trivial⟩, ⟨fk58, ⟨fk90, trivial, trivial⟩, trivial⟩⟩⟩, ⟨trivial, ⟨fk22, ⟨fk38, ⟨trivial, ⟨fk134, trivial, trivial⟩, trivial⟩, trivial⟩, ⟨trivial, ⟨fk86, trivial, trivial⟩, ⟨fk118, trivial, trivial⟩⟩⟩, ⟨trivial, trivial, ⟨trivial, ⟨trivial, ⟨fk158, trivial, trivial⟩, trivial⟩, trivial⟩⟩⟩⟩⟩⟩
theorem eqst54 : EqSt Tryz.prog 54 [(.int .i64), (.int .i64), (.int .i64), .str] := eqSt_of (by kernel_rfl) (by kernel_rfl) Tryz.underlying54 (by kernel_rfl) (by kernel_rfl) (by kernel_rfl) (by kernel_rfl)
theorem lies0 : liesAt Tryz.prog Tryz.prog.depth 108 (2 / Tryz.prog.cellsOf 108) 0 108 1 = true ∧ ∃ j, Tryz.prog.info? 108 = some j := ⟨by kernel_rfl, Option.isSome_iff_exists.1 (by kernel_rfl)⟩
theorem libF : LibF Tryz.prog base libN where
  noEsc := fun q hq => by
    obtain rfl := (Option.some.inj hq).symm
    exact ⟨_, Tryz.func102, by kernel_rfl, by kernel_rfl, by kernel_rfl, by kernel_rfl⟩
  idx := fun q hq => by
    obtain rfl := (Option.some.inj hq).symm
    exact ⟨_, Tryz.func133, by kernel_rfl, by kernel_rfl, by kernel_rfl, by kernel_rfl⟩
  asQ := fun q hq => by
    obtain rfl := (Option.some.inj hq).symm
    exact ⟨_, _, 54, Tryz.func29, by kernel_rfl, rfl, by kernel_rfl, rfl, as_law base rfl⟩
theorem tbF : TbF Tryz.prog tb where
  tk t := by
    show (match tkT.get t with | some k => k | none => tk Tryz.prog t) = tk Tryz.prog t
    split
    · rename_i k hk; exact (Tr.get_eq tkT_ok hk).symm
    · rfl
  tz t := by
    show (match tzT.get t with | some v => v | none => .undef) = tz Tryz.prog t ∨ (match tzT.get t with | some v => v | none => .undef) = .undef
    split
    · rename_i k hk; exact .inl (Tr.get_eq tzT_ok hk).symm
    · exact .inr rfl
  eqst t q h := by
    have h : (bif Nat.beq t 54 then some [(.int .i64), (.int .i64), (.int .i64), .str] else none) = some q := h
    cases h1 : Nat.beq t 54 with
    | true => rw [h1, cond_true] at h; obtain rfl := Option.some.inj h; obtain rfl := Nat.eq_of_beq_eq_true h1; exact eqst54
    | false =>
    rw [h1, cond_false] at h
    cases h
  lies t u n h := by
    have h : (bif Nat.beq t 108 && Nat.beq u 108 && Nat.beq n 2 then true else false) = true := h
    cases h1 : (Nat.beq t 108 && Nat.beq u 108 && Nat.beq n 2) with
    | true => simp only [Bool.and_eq_true, Nat.beq_eq] at h1; obtain ⟨⟨rfl, rfl⟩, rfl⟩ := h1; exact lies0
    | false =>
    rw [h1, cond_false] at h
    cases h
theorem tbOK : TbOK Tryz.prog tb base :=
  tbOK_of (by kernel_rfl) tbF (fun q vs oh h a hh hx => ⟨(xlib_ok libF q vs oh h a hh hx).1, (xlib_ok libF q vs oh h a hh hx).2.1⟩) (fun q fn h => (fnT_ok.mem (Tr.mem_of_get _ _ _ h)).all) (fun _ _ => rfl)
end Go.Proofs.YtjehfpfgpnmpoaaGreatDoor
