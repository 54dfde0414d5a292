/-
  THE TABLES OF THIS SEAT FOR CLOSED LAWS, BY COMPUTATION: printed by an own program (gen.py): types, zero values, functions that the runs meet; each is shown to be the program's.
-/
import Derived.Test.YthdlmflmglgcpaaGreatDoorXY
import Derived.Test.YthdlmflmglgcpaaGreatDoorAs
set_option linter.all false
set_option maxRecDepth 100000
namespace Go.Proofs.YthdlmflmglgcpaaGreatDoor
open Go Go.Ev
def tkT : Tr TK := (.node none (.node none (.node (some (.int .i64)) (.node none (.node none (.node none .nil (.node none .nil (.node (some (.st [(0, 1), (1, 3)] [(.int .i8 0), (.bool false), (.slice none 0 0), (.slice none 0 0)])) .nil .nil))) (.node (some (.sl 3 1 8 false [(.int .i64 0)])) .nil .nil)) (.node (some (.sl 22 1 24 false [(.slice none 0 0)])) (.node none .nil (.node none (.node (some (.sl 223 4 64 true [(.int .i8 0), (.bool false), (.slice none 0 0), (.slice none 0 0)])) .nil .nil) .nil)) (.node (some (.sl 100 4 88 true [(.string ⟨#[]⟩), (.slice none 0 0), (.slice none 0 0), (.slice none 0 0)])) .nil .nil))) (.node none (.node none (.node (some (.st [(0, 1), (1, 1)] [(.bool false), (.slice none 0 0)])) .nil .nil) (.node (some (.ptr 49)) .nil .nil)) (.node (some (.st [(0, 1), (1, 1), (2, 1), (3, 1), (4, 1)] [(.string ⟨#[]⟩), (.slice none 0 0), (.slice none 0 0), (.slice none 0 0), (.slice none 0 0)])) .nil .nil))) (.node (some (.int .u8)) (.node (some .str) (.node none (.node (some (.sl 45 1 4 false [(.int .u32 0)])) .nil .nil) (.node (some (.ptr 53)) (.node none .nil (.node (some (.sl 3 1 8 false [(.int .i64 0)])) .nil .nil)) .nil)) (.node (some (.sl 46 1 24 false [(.slice none 0 0)])) (.node none (.node (some .uptr) .nil .nil) (.node (some (.map 3 3)) .nil .nil)) (.node (some (.st [(0, 1), (1, 1), (2, 1), (3, 1)] [(.string ⟨#[]⟩), (.slice none 0 0), (.slice none 0 0), (.slice none 0 0)])) .nil (.node none (.node (some (.st [(0, 1), (1, 1), (2, 1), (3, 1)] [(.string ⟨#[]⟩), (.int .i64 0), (.int .i64 0), (.int .i64 0)])) .nil .nil) .nil)))) (.node none (.node (some (.int .i32)) (.node (some (.st [(0, 2), (2, 1)] [(.bool false), (.slice none 0 0), (.slice none 0 0)])) .nil .nil) (.node (some (.st [(0, 1), (1, 1), (2, 1), (3, 1)] [(.int .i64 0), (.int .i64 0), (.int .i64 0), (.string ⟨#[]⟩)])) (.node (some (.ptr 92)) .nil .nil) .nil)) (.node (some .ifc) (.node (some (.int .u32)) .nil (.node (some .fn) .nil .nil)) .nil)))) (.node none (.node (some .bool) (.node none (.node none (.node none .nil (.node (some (.st [(0, 1), (1, 1), (2, 1), (3, 1)] [(.string ⟨#[]⟩), (.slice none 0 0), (.slice none 0 0), (.slice none 0 0)])) (.node (some (.st [(0, 1), (1, 1), (2, 1)] [(.int .i8 0), (.slice none 0 0), (.slice none 0 0)])) .nil .nil) .nil)) (.node (some (.sl 5 1 1 false [(.int .u8 0)])) .nil (.node none (.node (some (.int .u64)) .nil .nil) .nil))) (.node (some (.sl 47 1 24 false [(.slice none 0 0)])) (.node none (.node none .nil (.node (some (.st [(0, 1), (1, 1), (2, 3), (5, 1), (6, 1), (7, 12)] [(.int .i8 0), (.int .i64 0), (.bool false), (.slice none 0 0), (.slice none 0 0), (.bool false), (.bool false), (.bool false), (.slice none 0 0), (.slice none 0 0), (.bool false), (.slice none 0 0), (.slice none 0 0), (.bool false), (.slice none 0 0), (.slice none 0 0), (.bool false), (.slice none 0 0), (.slice none 0 0)])) .nil .nil)) (.node (some (.map 9 3)) .nil .nil)) .nil)) (.node none (.node none (.node none .nil (.node (some (.st [(0, 1), (1, 1), (2, 1), (3, 1)] [(.string ⟨#[]⟩), (.slice none 0 0), (.slice none 0 0), (.slice none 0 0)])) .nil (.node (some (.arr 2 3 1 [(.int .i64 0), (.int .i64 0)])) .nil .nil))) .nil) (.node none (.node none .nil (.node (some (.st [(0, 4), (4, 1), (5, 1), (6, 1), (7, 1)] [(.string ⟨#[]⟩), (.slice none 0 0), (.slice none 0 0), (.slice none 0 0), (.map none), (.map none), (.slice none 0 0), (.slice none 0 0)])) .nil (.node (some (.st [(0, 1), (1, 1)] [(.pointer none), (.slice none 0 0)])) .nil .nil))) (.node none (.node (some (.st [(0, 1), (1, 1), (2, 1), (3, 1), (4, 1)] [(.slice none 0 0), (.pointer none), (.int .i64 0), (.pointer none), (.int .i64 0)])) .nil .nil) .nil)))) (.node none (.node none (.node none (.node none .nil (.node (some (.sl 160 3 56 true [(.int .i8 0), (.slice none 0 0), (.slice none 0 0)])) .nil .nil)) .nil) (.node none (.node none .nil (.node (some (.sl 25 1 24 false [(.slice none 0 0)])) .nil (.node (some (.ptr 236)) .nil .nil))) (.node none (.node (some (.sl 150 4 40 true [(.int .i8 0), (.string ⟨#[]⟩), (.int .i64 0), (.int .i64 0)])) .nil .nil) (.node none .nil (.node (some (.ptr 5)) .nil .nil))))) (.node none (.node (some (.sl 9 1 16 false [(.string ⟨#[]⟩)])) (.node (some (.int .i64)) .nil .nil) (.node (some (.sl 96 4 88 true [(.string ⟨#[]⟩), (.slice none 0 0), (.slice none 0 0), (.slice none 0 0)])) (.node none (.node (some (.st [(0, 1), (1, 1), (2, 1), (3, 1)] [(.int .i8 0), (.string ⟨#[]⟩), (.int .i64 0), (.int .i64 0)])) .nil .nil) .nil) (.node (some (.int .u64)) .nil .nil))) (.node none (.node (some (.sl 37 3 56 true [(.bool false), (.slice none 0 0), (.slice none 0 0)])) .nil (.node (some (.sl 109 1 8 false [.nilFunc])) .nil (.node (some (.sl 200 19 304 true [(.int .i8 0), (.int .i64 0), (.bool false), (.slice none 0 0), (.slice none 0 0), (.bool false), (.bool false), (.bool false), (.slice none 0 0), (.slice none 0 0), (.bool false), (.slice none 0 0), (.slice none 0 0), (.bool false), (.slice none 0 0), (.slice none 0 0), (.bool false), (.slice none 0 0), (.slice none 0 0)])) .nil .nil))) (.node none (.node (some (.int .i8)) (.node (some (.sl 167 1 24 false [(.slice none 0 0)])) .nil .nil) .nil) .nil))))))
def tzT : Tr V := (.node none (.node none (.node (some (.con (.int .i64 0))) (.node none (.node none (.node none .nil (.node none .nil (.node (some (.agg [(.con (.int .i8 0)), (.con (.bool false)), (.emp true), (.emp true)])) .nil .nil))) .nil) .nil) (.node none (.node none (.node (some (.agg [(.con (.bool false)), (.emp true)])) .nil .nil) .nil) (.node (some (.agg [(.con (.string ⟨#[]⟩)), (.emp true), (.emp true), (.emp true), (.emp true)])) .nil .nil))) (.node none (.node none (.node none .nil (.node (some (.con (.pointer none))) (.node none .nil (.node (some (.emp true)) .nil .nil)) .nil)) (.node none .nil (.node (some (.agg [(.con (.string ⟨#[]⟩)), (.emp true), (.emp true), (.emp true)])) .nil (.node none (.node (some (.agg [(.con (.string ⟨#[]⟩)), (.con (.int .i64 0)), (.con (.int .i64 0)), (.con (.int .i64 0))])) .nil .nil) .nil)))) (.node none (.node none (.node (some (.agg [(.con (.bool false)), (.emp true), (.emp true)])) .nil .nil) (.node none (.node (some (.con (.pointer none))) .nil .nil) .nil)) .nil))) (.node none (.node (some (.con (.bool false))) (.node none (.node none (.node none .nil (.node (some (.agg [(.con (.string ⟨#[]⟩)), (.emp true), (.emp true), (.emp true)])) (.node (some (.agg [(.con (.int .i8 0)), (.emp true), (.emp true)])) .nil .nil) .nil)) .nil) (.node none (.node none (.node none .nil (.node (some (.agg [(.con (.int .i8 0)), (.con (.int .i64 0)), (.con (.bool false)), (.emp true), (.emp true), (.con (.bool false)), (.con (.bool false)), (.con (.bool false)), (.emp true), (.emp true), (.con (.bool false)), (.emp true), (.emp true), (.con (.bool false)), (.emp true), (.emp true), (.con (.bool false)), (.emp true), (.emp true)])) .nil .nil)) .nil) .nil)) (.node none (.node none (.node none .nil (.node (some (.agg [(.con (.string ⟨#[]⟩)), (.emp true), (.emp true), (.emp true)])) .nil .nil)) .nil) (.node none (.node none .nil (.node none .nil (.node (some (.agg [(.con (.pointer none)), (.emp true)])) .nil .nil))) .nil))) (.node none .nil (.node none (.node none .nil (.node none (.node none (.node (some (.agg [(.con (.int .i8 0)), (.con (.string ⟨#[]⟩)), (.con (.int .i64 0)), (.con (.int .i64 0))])) .nil .nil) .nil) .nil)) .nil))))
noncomputable def fnT : Tr Func := (.node none (.node none (.node (some Tryz.f3) (.node (some Tryz.f7) (.node (some Tryz.f15) (.node (some Tryz.f31) (.node none (.node (some Tryz.f127) .nil .nil) .nil) (.node (some Tryz.f95) (.node (some Tryz.f159) .nil .nil) .nil)) (.node (some Tryz.f47) (.node (some Tryz.f79) .nil .nil) (.node none (.node (some Tryz.f175) .nil .nil) .nil))) (.node (some Tryz.f23) (.node (some Tryz.f39) (.node (some Tryz.f71) (.node (some Tryz.f135) .nil .nil) .nil) (.node (some Tryz.f103) .nil .nil)) (.node (some Tryz.f55) (.node (some Tryz.f87) .nil .nil) .nil))) (.node (some Tryz.f11) (.node (some Tryz.f19) (.node (some Tryz.f35) (.node none (.node (some Tryz.f131) .nil .nil) .nil) (.node (some Tryz.f99) .nil .nil)) (.node (some Tryz.f51) (.node (some Tryz.f83) .nil .nil) (.node (some Tryz.f115) (.node (some Tryz.f179) .nil .nil) .nil))) (.node none (.node (some Tryz.f43) (.node (some Tryz.f75) (.node (some Tryz.f139) .nil .nil) .nil) (.node (some Tryz.f107) (.node (some Tryz.f171) .nil .nil) .nil)) (.node (some Tryz.f59) (.node (some Tryz.f91) (.node (some Tryz.f155) .nil .nil) .nil) (.node (some Tryz.f123) .nil .nil))))) (.node none (.node (some Tryz.f9) (.node (some Tryz.f17) (.node (some Tryz.f33) (.node none (.node (some Tryz.f129) .nil .nil) .nil) (.node (some Tryz.f97) .nil .nil)) (.node (some Tryz.f49) (.node (some Tryz.f81) (.node (some Tryz.f145) .nil .nil) .nil) .nil)) (.node (some Tryz.f25) (.node (some Tryz.f41) (.node (some Tryz.f73) (.node (some Tryz.f137) .nil .nil) .nil) (.node (some Tryz.f105) .nil .nil)) (.node (some Tryz.f57) (.node (some Tryz.f89) .nil .nil) (.node (some Tryz.f121) .nil .nil)))) (.node (some Tryz.f13) (.node (some Tryz.f21) (.node (some Tryz.f37) (.node (some Tryz.f69) (.node (some Tryz.f133) .nil .nil) .nil) (.node (some Tryz.f101) .nil .nil)) (.node (some Tryz.f53) (.node (some Tryz.f85) .nil .nil) (.node (some Tryz.f117) (.node (some Tryz.f181) .nil .nil) .nil))) (.node none (.node (some Tryz.f45) (.node (some Tryz.f77) (.node (some Tryz.f141) .nil .nil) .nil) (.node (some Tryz.f109) (.node (some Tryz.f173) .nil .nil) .nil)) (.node (some Tryz.f61) (.node (some Tryz.f93) (.node (some Tryz.f157) .nil .nil) .nil) (.node (some Tryz.f125) .nil .nil)))))) (.node none (.node (some Tryz.f4) (.node (some Tryz.f8) (.node (some Tryz.f16) (.node (some Tryz.f32) (.node none (.node (some Tryz.f128) .nil .nil) .nil) (.node (some Tryz.f96) .nil .nil)) (.node (some Tryz.f48) (.node (some Tryz.f80) (.node (some Tryz.f144) .nil .nil) .nil) .nil)) (.node (some Tryz.f24) (.node (some Tryz.f40) (.node (some Tryz.f72) .nil .nil) (.node (some Tryz.f104) .nil .nil)) (.node (some Tryz.f56) (.node (some Tryz.f88) (.node (some Tryz.f152) .nil .nil) .nil) (.node (some Tryz.f120) .nil .nil)))) (.node none (.node (some Tryz.f20) (.node (some Tryz.f36) (.node (some Tryz.f68) (.node (some Tryz.f132) .nil .nil) .nil) (.node (some Tryz.f100) .nil .nil)) (.node (some Tryz.f52) (.node (some Tryz.f84) .nil .nil) (.node (some Tryz.f116) .nil .nil))) (.node none (.node (some Tryz.f44) (.node (some Tryz.f76) (.node (some Tryz.f140) .nil .nil) .nil) (.node (some Tryz.f108) (.node (some Tryz.f172) .nil .nil) .nil)) (.node (some Tryz.f60) (.node (some Tryz.f92) (.node (some Tryz.f156) .nil .nil) .nil) (.node (some Tryz.f124) .nil .nil))))) (.node (some Tryz.f6) (.node (some Tryz.f10) (.node (some Tryz.f18) (.node (some Tryz.f34) (.node (some Tryz.f66) (.node (some Tryz.f130) .nil .nil) .nil) (.node (some Tryz.f98) (.node (some Tryz.f162) .nil .nil) .nil)) (.node (some Tryz.f50) (.node (some Tryz.f82) (.node (some Tryz.f146) .nil .nil) .nil) (.node (some Tryz.f114) .nil .nil))) (.node (some Tryz.f26) (.node (some Tryz.f42) (.node (some Tryz.f74) (.node (some Tryz.f138) .nil .nil) .nil) (.node (some Tryz.f106) (.node (some Tryz.f170) .nil .nil) .nil)) (.node (some Tryz.f58) (.node (some Tryz.f90) (.node (some Tryz.f154) .nil .nil) .nil) (.node (some Tryz.f122) .nil .nil)))) (.node (some Tryz.f14) (.node (some Tryz.f22) (.node (some Tryz.f38) (.node (some Tryz.f70) (.node (some Tryz.f134) .nil .nil) .nil) (.node (some Tryz.f102) .nil .nil)) (.node (some Tryz.f54) (.node (some Tryz.f86) .nil .nil) (.node (some Tryz.f118) (.node (some Tryz.f182) .nil .nil) .nil))) (.node none (.node (some Tryz.f46) (.node (some Tryz.f78) .nil .nil) (.node (some Tryz.f110) (.node (some Tryz.f174) .nil .nil) .nil)) (.node (some Tryz.f62) (.node (some Tryz.f94) .nil .nil) (.node (some Tryz.f126) .nil .nil)))))))
noncomputable def libN : LibN := { noEsc := some 169, idx := some 153, asQ := some 12, T := 49, PT := 51, d := .ptr 53 }
noncomputable def tb : Tb := { tk := fun t => (match tkT.get t with | some k => k | none => tk Tryz.prog t), tz := fun t => (match tzT.get t with | some v => v | none => .undef), fn := fun q => fnT.get q, lib := xlib libN, impl := fun _ _ => false, isIfc := fun _ => false, eqst := fun t => bif Nat.beq t 53 then some [(.int .i64), (.int .i64), (.int .i64), .str] else none, meth := fun _ _ => none, me := fun _ => 0, lies := fun t u n => bif Nat.beq t 236 && Nat.beq u 236 && Nat.beq n 2 then true else false }
def base : Sto := fun b o => bif Nat.beq b 0 && Nat.beq o 0 then some (.iface 134 (.agg #[.pointer (some ⟨4, 29, none⟩)])) else none
theorem tkT_ok : (tkT.toL.map fun p => tk Tryz.prog p.1) = tkT.toL.map fun p => p.2 := by kernel_rfl
theorem tzT_ok : (tzT.toL.map fun p => tz Tryz.prog p.1) = tzT.toL.map fun p => p.2 := by kernel_rfl
theorem fk3 : FnOK Tryz.prog 3 Tryz.f3 := ⟨Tryz.func3, by kernel_rfl, by kernel_rfl⟩
theorem fk4 : FnOK Tryz.prog 4 Tryz.f4 := ⟨Tryz.func4, by kernel_rfl, by kernel_rfl⟩
theorem fk6 : FnOK Tryz.prog 6 Tryz.f6 := ⟨Tryz.func6, by kernel_rfl, by kernel_rfl⟩
theorem fk7 : FnOK Tryz.prog 7 Tryz.f7 := ⟨Tryz.func7, by kernel_rfl, by kernel_rfl⟩
theorem fk8 : FnOK Tryz.prog 8 Tryz.f8 := ⟨Tryz.func8, by kernel_rfl, by kernel_rfl⟩
theorem fk9 : FnOK Tryz.prog 9 Tryz.f9 := ⟨Tryz.func9, by kernel_rfl, by kernel_rfl⟩
theorem fk10 : FnOK Tryz.prog 10 Tryz.f10 := ⟨Tryz.func10, by kernel_rfl, by kernel_rfl⟩
theorem fk11 : FnOK Tryz.prog 11 Tryz.f11 := ⟨Tryz.func11, by kernel_rfl, by kernel_rfl⟩
theorem fk13 : FnOK Tryz.prog 13 Tryz.f13 := ⟨Tryz.func13, by kernel_rfl, by kernel_rfl⟩
theorem fk14 : FnOK Tryz.prog 14 Tryz.f14 := ⟨Tryz.func14, by kernel_rfl, by kernel_rfl⟩
theorem fk15 : FnOK Tryz.prog 15 Tryz.f15 := ⟨Tryz.func15, by kernel_rfl, by kernel_rfl⟩
theorem fk16 : FnOK Tryz.prog 16 Tryz.f16 := ⟨Tryz.func16, by kernel_rfl, by kernel_rfl⟩
theorem fk17 : FnOK Tryz.prog 17 Tryz.f17 := ⟨Tryz.func17, by kernel_rfl, by kernel_rfl⟩
theorem fk18 : FnOK Tryz.prog 18 Tryz.f18 := ⟨Tryz.func18, by kernel_rfl, by kernel_rfl⟩
theorem fk19 : FnOK Tryz.prog 19 Tryz.f19 := ⟨Tryz.func19, by kernel_rfl, by kernel_rfl⟩
theorem fk20 : FnOK Tryz.prog 20 Tryz.f20 := ⟨Tryz.func20, by kernel_rfl, by kernel_rfl⟩
theorem fk21 : FnOK Tryz.prog 21 Tryz.f21 := ⟨Tryz.func21, by kernel_rfl, by kernel_rfl⟩
theorem fk22 : FnOK Tryz.prog 22 Tryz.f22 := ⟨Tryz.func22, by kernel_rfl, by kernel_rfl⟩
theorem fk23 : FnOK Tryz.prog 23 Tryz.f23 := ⟨Tryz.func23, by kernel_rfl, by kernel_rfl⟩
theorem fk24 : FnOK Tryz.prog 24 Tryz.f24 := ⟨Tryz.func24, by kernel_rfl, by kernel_rfl⟩
theorem fk25 : FnOK Tryz.prog 25 Tryz.f25 := ⟨Tryz.func25, by kernel_rfl, by kernel_rfl⟩
theorem fk26 : FnOK Tryz.prog 26 Tryz.f26 := ⟨Tryz.func26, by kernel_rfl, by kernel_rfl⟩
theorem fk31 : FnOK Tryz.prog 31 Tryz.f31 := ⟨Tryz.func31, by kernel_rfl, by kernel_rfl⟩
theorem fk32 : FnOK Tryz.prog 32 Tryz.f32 := ⟨Tryz.func32, by kernel_rfl, by kernel_rfl⟩
theorem fk33 : FnOK Tryz.prog 33 Tryz.f33 := ⟨Tryz.func33, by kernel_rfl, by kernel_rfl⟩
theorem fk34 : FnOK Tryz.prog 34 Tryz.f34 := ⟨Tryz.func34, by kernel_rfl, by kernel_rfl⟩
theorem fk35 : FnOK Tryz.prog 35 Tryz.f35 := ⟨Tryz.func35, by kernel_rfl, by kernel_rfl⟩
theorem fk36 : FnOK Tryz.prog 36 Tryz.f36 := ⟨Tryz.func36, by kernel_rfl, by kernel_rfl⟩
theorem fk37 : FnOK Tryz.prog 37 Tryz.f37 := ⟨Tryz.func37, by kernel_rfl, by kernel_rfl⟩
theorem fk38 : FnOK Tryz.prog 38 Tryz.f38 := ⟨Tryz.func38, by kernel_rfl, by kernel_rfl⟩
theorem fk39 : FnOK Tryz.prog 39 Tryz.f39 := ⟨Tryz.func39, by kernel_rfl, by kernel_rfl⟩
theorem fk40 : FnOK Tryz.prog 40 Tryz.f40 := ⟨Tryz.func40, by kernel_rfl, by kernel_rfl⟩
theorem fk41 : FnOK Tryz.prog 41 Tryz.f41 := ⟨Tryz.func41, by kernel_rfl, by kernel_rfl⟩
theorem fk42 : FnOK Tryz.prog 42 Tryz.f42 := ⟨Tryz.func42, by kernel_rfl, by kernel_rfl⟩
theorem fk43 : FnOK Tryz.prog 43 Tryz.f43 := ⟨Tryz.func43, by kernel_rfl, by kernel_rfl⟩
theorem fk44 : FnOK Tryz.prog 44 Tryz.f44 := ⟨Tryz.func44, by kernel_rfl, by kernel_rfl⟩
theorem fk45 : FnOK Tryz.prog 45 Tryz.f45 := ⟨Tryz.func45, by kernel_rfl, by kernel_rfl⟩
theorem fk46 : FnOK Tryz.prog 46 Tryz.f46 := ⟨Tryz.func46, by kernel_rfl, by kernel_rfl⟩
theorem fk47 : FnOK Tryz.prog 47 Tryz.f47 := ⟨Tryz.func47, by kernel_rfl, by kernel_rfl⟩
theorem fk48 : FnOK Tryz.prog 48 Tryz.f48 := ⟨Tryz.func48, by kernel_rfl, by kernel_rfl⟩
theorem fk49 : FnOK Tryz.prog 49 Tryz.f49 := ⟨Tryz.func49, by kernel_rfl, by kernel_rfl⟩
theorem fk50 : FnOK Tryz.prog 50 Tryz.f50 := ⟨Tryz.func50, by kernel_rfl, by kernel_rfl⟩
theorem fk51 : FnOK Tryz.prog 51 Tryz.f51 := ⟨Tryz.func51, by kernel_rfl, by kernel_rfl⟩
theorem fk52 : FnOK Tryz.prog 52 Tryz.f52 := ⟨Tryz.func52, by kernel_rfl, by kernel_rfl⟩
theorem fk53 : FnOK Tryz.prog 53 Tryz.f53 := ⟨Tryz.func53, by kernel_rfl, by kernel_rfl⟩
theorem fk54 : FnOK Tryz.prog 54 Tryz.f54 := ⟨Tryz.func54, by kernel_rfl, by kernel_rfl⟩
theorem fk55 : FnOK Tryz.prog 55 Tryz.f55 := ⟨Tryz.func55, by kernel_rfl, by kernel_rfl⟩
theorem fk56 : FnOK Tryz.prog 56 Tryz.f56 := ⟨Tryz.func56, by kernel_rfl, by kernel_rfl⟩
theorem fk57 : FnOK Tryz.prog 57 Tryz.f57 := ⟨Tryz.func57, by kernel_rfl, by kernel_rfl⟩
theorem fk58 : FnOK Tryz.prog 58 Tryz.f58 := ⟨Tryz.func58, by kernel_rfl, by kernel_rfl⟩
theorem fk59 : FnOK Tryz.prog 59 Tryz.f59 := ⟨Tryz.func59, by kernel_rfl, by kernel_rfl⟩
theorem fk60 : FnOK Tryz.prog 60 Tryz.f60 := ⟨Tryz.func60, by kernel_rfl, by kernel_rfl⟩
theorem fk61 : FnOK Tryz.prog 61 Tryz.f61 := ⟨Tryz.func61, by kernel_rfl, by kernel_rfl⟩
theorem fk62 : FnOK Tryz.prog 62 Tryz.f62 := ⟨Tryz.func62, by kernel_rfl, by kernel_rfl⟩
theorem fk66 : FnOK Tryz.prog 66 Tryz.f66 := ⟨Tryz.func66, by kernel_rfl, by kernel_rfl⟩
theorem fk68 : FnOK Tryz.prog 68 Tryz.f68 := ⟨Tryz.func68, by kernel_rfl, by kernel_rfl⟩
theorem fk69 : FnOK Tryz.prog 69 Tryz.f69 := ⟨Tryz.func69, by kernel_rfl, by kernel_rfl⟩
theorem fk70 : FnOK Tryz.prog 70 Tryz.f70 := ⟨Tryz.func70, by kernel_rfl, by kernel_rfl⟩
theorem fk71 : FnOK Tryz.prog 71 Tryz.f71 := ⟨Tryz.func71, by kernel_rfl, by kernel_rfl⟩
theorem fk72 : FnOK Tryz.prog 72 Tryz.f72 := ⟨Tryz.func72, by kernel_rfl, by kernel_rfl⟩
theorem fk73 : FnOK Tryz.prog 73 Tryz.f73 := ⟨Tryz.func73, by kernel_rfl, by kernel_rfl⟩
theorem fk74 : FnOK Tryz.prog 74 Tryz.f74 := ⟨Tryz.func74, by kernel_rfl, by kernel_rfl⟩
theorem fk75 : FnOK Tryz.prog 75 Tryz.f75 := ⟨Tryz.func75, by kernel_rfl, by kernel_rfl⟩
theorem fk76 : FnOK Tryz.prog 76 Tryz.f76 := ⟨Tryz.func76, by kernel_rfl, by kernel_rfl⟩
theorem fk77 : FnOK Tryz.prog 77 Tryz.f77 := ⟨Tryz.func77, by kernel_rfl, by kernel_rfl⟩
theorem fk78 : FnOK Tryz.prog 78 Tryz.f78 := ⟨Tryz.func78, by kernel_rfl, by kernel_rfl⟩
theorem fk79 : FnOK Tryz.prog 79 Tryz.f79 := ⟨Tryz.func79, by kernel_rfl, by kernel_rfl⟩
theorem fk80 : FnOK Tryz.prog 80 Tryz.f80 := ⟨Tryz.func80, by kernel_rfl, by kernel_rfl⟩
theorem fk81 : FnOK Tryz.prog 81 Tryz.f81 := ⟨Tryz.func81, by kernel_rfl, by kernel_rfl⟩
theorem fk82 : FnOK Tryz.prog 82 Tryz.f82 := ⟨Tryz.func82, by kernel_rfl, by kernel_rfl⟩
theorem fk83 : FnOK Tryz.prog 83 Tryz.f83 := ⟨Tryz.func83, by kernel_rfl, by kernel_rfl⟩
theorem fk84 : FnOK Tryz.prog 84 Tryz.f84 := ⟨Tryz.func84, by kernel_rfl, by kernel_rfl⟩
theorem fk85 : FnOK Tryz.prog 85 Tryz.f85 := ⟨Tryz.func85, by kernel_rfl, by kernel_rfl⟩
theorem fk86 : FnOK Tryz.prog 86 Tryz.f86 := ⟨Tryz.func86, by kernel_rfl, by kernel_rfl⟩
theorem fk87 : FnOK Tryz.prog 87 Tryz.f87 := ⟨Tryz.func87, by kernel_rfl, by kernel_rfl⟩
theorem fk88 : FnOK Tryz.prog 88 Tryz.f88 := ⟨Tryz.func88, by kernel_rfl, by kernel_rfl⟩
theorem fk89 : FnOK Tryz.prog 89 Tryz.f89 := ⟨Tryz.func89, by kernel_rfl, by kernel_rfl⟩
theorem fk90 : FnOK Tryz.prog 90 Tryz.f90 := ⟨Tryz.func90, by kernel_rfl, by kernel_rfl⟩
theorem fk91 : FnOK Tryz.prog 91 Tryz.f91 := ⟨Tryz.func91, by kernel_rfl, by kernel_rfl⟩
theorem fk92 : FnOK Tryz.prog 92 Tryz.f92 := ⟨Tryz.func92, by kernel_rfl, by kernel_rfl⟩
theorem fk93 : FnOK Tryz.prog 93 Tryz.f93 := ⟨Tryz.func93, by kernel_rfl, by kernel_rfl⟩
theorem fk94 : FnOK Tryz.prog 94 Tryz.f94 := ⟨Tryz.func94, by kernel_rfl, by kernel_rfl⟩
theorem fk95 : FnOK Tryz.prog 95 Tryz.f95 := ⟨Tryz.func95, by kernel_rfl, by kernel_rfl⟩
theorem fk96 : FnOK Tryz.prog 96 Tryz.f96 := ⟨Tryz.func96, by kernel_rfl, by kernel_rfl⟩
theorem fk97 : FnOK Tryz.prog 97 Tryz.f97 := ⟨Tryz.func97, by kernel_rfl, by kernel_rfl⟩
theorem fk98 : FnOK Tryz.prog 98 Tryz.f98 := ⟨Tryz.func98, by kernel_rfl, by kernel_rfl⟩
theorem fk99 : FnOK Tryz.prog 99 Tryz.f99 := ⟨Tryz.func99, by kernel_rfl, by kernel_rfl⟩
theorem fk100 : FnOK Tryz.prog 100 Tryz.f100 := ⟨Tryz.func100, by kernel_rfl, by kernel_rfl⟩
theorem fk101 : FnOK Tryz.prog 101 Tryz.f101 := ⟨Tryz.func101, by kernel_rfl, by kernel_rfl⟩
theorem fk102 : FnOK Tryz.prog 102 Tryz.f102 := ⟨Tryz.func102, by kernel_rfl, by kernel_rfl⟩
theorem fk103 : FnOK Tryz.prog 103 Tryz.f103 := ⟨Tryz.func103, by kernel_rfl, by kernel_rfl⟩
theorem fk104 : FnOK Tryz.prog 104 Tryz.f104 := ⟨Tryz.func104, by kernel_rfl, by kernel_rfl⟩
theorem fk105 : FnOK Tryz.prog 105 Tryz.f105 := ⟨Tryz.func105, by kernel_rfl, by kernel_rfl⟩
theorem fk106 : FnOK Tryz.prog 106 Tryz.f106 := ⟨Tryz.func106, by kernel_rfl, by kernel_rfl⟩
theorem fk107 : FnOK Tryz.prog 107 Tryz.f107 := ⟨Tryz.func107, by kernel_rfl, by kernel_rfl⟩
theorem fk108 : FnOK Tryz.prog 108 Tryz.f108 := ⟨Tryz.func108, by kernel_rfl, by kernel_rfl⟩
theorem fk109 : FnOK Tryz.prog 109 Tryz.f109 := ⟨Tryz.func109, by kernel_rfl, by kernel_rfl⟩
theorem fk110 : FnOK Tryz.prog 110 Tryz.f110 := ⟨Tryz.func110, by kernel_rfl, by kernel_rfl⟩
theorem fk114 : FnOK Tryz.prog 114 Tryz.f114 := ⟨Tryz.func114, by kernel_rfl, by kernel_rfl⟩
theorem fk115 : FnOK Tryz.prog 115 Tryz.f115 := ⟨Tryz.func115, by kernel_rfl, by kernel_rfl⟩
theorem fk116 : FnOK Tryz.prog 116 Tryz.f116 := ⟨Tryz.func116, by kernel_rfl, by kernel_rfl⟩
theorem fk117 : FnOK Tryz.prog 117 Tryz.f117 := ⟨Tryz.func117, by kernel_rfl, by kernel_rfl⟩
theorem fk118 : FnOK Tryz.prog 118 Tryz.f118 := ⟨Tryz.func118, by kernel_rfl, by kernel_rfl⟩
theorem fk120 : FnOK Tryz.prog 120 Tryz.f120 := ⟨Tryz.func120, by kernel_rfl, by kernel_rfl⟩
theorem fk121 : FnOK Tryz.prog 121 Tryz.f121 := ⟨Tryz.func121, by kernel_rfl, by kernel_rfl⟩
theorem fk122 : FnOK Tryz.prog 122 Tryz.f122 := ⟨Tryz.func122, by kernel_rfl, by kernel_rfl⟩
theorem fk123 : FnOK Tryz.prog 123 Tryz.f123 := ⟨Tryz.func123, by kernel_rfl, by kernel_rfl⟩
theorem fk124 : FnOK Tryz.prog 124 Tryz.f124 := ⟨Tryz.func124, by kernel_rfl, by kernel_rfl⟩
theorem fk125 : FnOK Tryz.prog 125 Tryz.f125 := ⟨Tryz.func125, by kernel_rfl, by kernel_rfl⟩
theorem fk126 : FnOK Tryz.prog 126 Tryz.f126 := ⟨Tryz.func126, by kernel_rfl, by kernel_rfl⟩
theorem fk127 : FnOK Tryz.prog 127 Tryz.f127 := ⟨Tryz.func127, by kernel_rfl, by kernel_rfl⟩
theorem fk128 : FnOK Tryz.prog 128 Tryz.f128 := ⟨Tryz.func128, by kernel_rfl, by kernel_rfl⟩
theorem fk129 : FnOK Tryz.prog 129 Tryz.f129 := ⟨Tryz.func129, by kernel_rfl, by kernel_rfl⟩
theorem fk130 : FnOK Tryz.prog 130 Tryz.f130 := ⟨Tryz.func130, by kernel_rfl, by kernel_rfl⟩
theorem fk131 : FnOK Tryz.prog 131 Tryz.f131 := ⟨Tryz.func131, by kernel_rfl, by kernel_rfl⟩
theorem fk132 : FnOK Tryz.prog 132 Tryz.f132 := ⟨Tryz.func132, by kernel_rfl, by kernel_rfl⟩
theorem fk133 : FnOK Tryz.prog 133 Tryz.f133 := ⟨Tryz.func133, by kernel_rfl, by kernel_rfl⟩
theorem fk134 : FnOK Tryz.prog 134 Tryz.f134 := ⟨Tryz.func134, by kernel_rfl, by kernel_rfl⟩
theorem fk135 : FnOK Tryz.prog 135 Tryz.f135 := ⟨Tryz.func135, by kernel_rfl, by kernel_rfl⟩
theorem fk137 : FnOK Tryz.prog 137 Tryz.f137 := ⟨Tryz.func137, by kernel_rfl, by kernel_rfl⟩
theorem fk138 : FnOK Tryz.prog 138 Tryz.f138 := ⟨Tryz.func138, by kernel_rfl, by kernel_rfl⟩
theorem fk139 : FnOK Tryz.prog 139 Tryz.f139 := ⟨Tryz.func139, by kernel_rfl, by kernel_rfl⟩
theorem fk140 : FnOK Tryz.prog 140 Tryz.f140 := ⟨Tryz.func140, by kernel_rfl, by kernel_rfl⟩
theorem fk141 : FnOK Tryz.prog 141 Tryz.f141 := ⟨Tryz.func141, by kernel_rfl, by kernel_rfl⟩
theorem fk144 : FnOK Tryz.prog 144 Tryz.f144 := ⟨Tryz.func144, by kernel_rfl, by kernel_rfl⟩
theorem fk145 : FnOK Tryz.prog 145 Tryz.f145 := ⟨Tryz.func145, by kernel_rfl, by kernel_rfl⟩
theorem fk146 : FnOK Tryz.prog 146 Tryz.f146 := ⟨Tryz.func146, by kernel_rfl, by kernel_rfl⟩
theorem fk152 : FnOK Tryz.prog 152 Tryz.f152 := ⟨Tryz.func152, by kernel_rfl, by kernel_rfl⟩
theorem fk154 : FnOK Tryz.prog 154 Tryz.f154 := ⟨Tryz.func154, by kernel_rfl, by kernel_rfl⟩
theorem fk155 : FnOK Tryz.prog 155 Tryz.f155 := ⟨Tryz.func155, by kernel_rfl, by kernel_rfl⟩
theorem fk156 : FnOK Tryz.prog 156 Tryz.f156 := ⟨Tryz.func156, by kernel_rfl, by kernel_rfl⟩
theorem fk157 : FnOK Tryz.prog 157 Tryz.f157 := ⟨Tryz.func157, by kernel_rfl, by kernel_rfl⟩
theorem fk159 : FnOK Tryz.prog 159 Tryz.f159 := ⟨Tryz.func159, by kernel_rfl, by kernel_rfl⟩
theorem fk162 : FnOK Tryz.prog 162 Tryz.f162 := ⟨Tryz.func162, by kernel_rfl, by kernel_rfl⟩
theorem fk170 : FnOK Tryz.prog 170 Tryz.f170 := ⟨Tryz.func170, by kernel_rfl, by kernel_rfl⟩
theorem fk171 : FnOK Tryz.prog 171 Tryz.f171 := ⟨Tryz.func171, by kernel_rfl, by kernel_rfl⟩
theorem fk172 : FnOK Tryz.prog 172 Tryz.f172 := ⟨Tryz.func172, by kernel_rfl, by kernel_rfl⟩
theorem fk173 : FnOK Tryz.prog 173 Tryz.f173 := ⟨Tryz.func173, by kernel_rfl, by kernel_rfl⟩
theorem fk174 : FnOK Tryz.prog 174 Tryz.f174 := ⟨Tryz.func174, by kernel_rfl, by kernel_rfl⟩
theorem fk175 : FnOK Tryz.prog 175 Tryz.f175 := ⟨Tryz.func175, by kernel_rfl, by kernel_rfl⟩
theorem fk179 : FnOK Tryz.prog 179 Tryz.f179 := ⟨Tryz.func179, by kernel_rfl, by kernel_rfl⟩
theorem fk181 : FnOK Tryz.prog 181 Tryz.f181 := ⟨Tryz.func181, by kernel_rfl, by kernel_rfl⟩
theorem fk182 : FnOK Tryz.prog 182 Tryz.f182 := ⟨Tryz.func182, by kernel_rfl, by kernel_rfl⟩
theorem fnT_ok : fnT.All (FnOK Tryz.prog) (fun i => i) := ⟨trivial, ⟨trivial, ⟨fk3, ⟨fk7, ⟨fk15, ⟨fk31, ⟨trivial, ⟨fk127, trivial, trivial⟩, trivial⟩, ⟨fk95, ⟨fk159, trivial, trivial⟩, trivial⟩⟩, ⟨fk47, ⟨fk79, trivial, trivial⟩, ⟨trivial, ⟨fk175, trivial, trivial⟩, trivial⟩⟩⟩, ⟨fk23, ⟨fk39, ⟨fk71, ⟨fk135, trivial, trivial⟩, trivial⟩, ⟨fk103, trivial, trivial⟩⟩, ⟨fk55, ⟨fk87, trivial, trivial⟩, trivial⟩⟩⟩, ⟨fk11, ⟨fk19, ⟨fk35, ⟨trivial, ⟨fk131, trivial, trivial⟩, trivial⟩, ⟨fk99, trivial, trivial⟩⟩, ⟨fk51, ⟨fk83, trivial, trivial⟩, ⟨fk115, ⟨fk179, trivial, trivial⟩, trivial⟩⟩⟩, ⟨trivial, ⟨fk43, ⟨fk75, ⟨fk139, trivial, trivial⟩, trivial⟩, ⟨fk107, ⟨fk171, trivial, trivial⟩, trivial⟩⟩, ⟨fk59, ⟨fk91, ⟨fk155, trivial, trivial⟩, trivial⟩, ⟨fk123, trivial, trivial⟩⟩⟩⟩⟩, ⟨trivial, ⟨fk9, ⟨fk17, ⟨fk33, ⟨trivial, ⟨fk129, trivial, trivial⟩, trivial⟩, ⟨fk97, trivial, trivial⟩⟩, ⟨fk49, ⟨fk81, ⟨fk145, trivial, trivial⟩, trivial⟩, trivial⟩⟩, ⟨fk25, ⟨fk41, ⟨fk73, ⟨fk137, trivial, trivial⟩, trivial⟩, ⟨fk105, trivial, trivial⟩⟩, ⟨fk57, ⟨fk89, trivial, trivial⟩, ⟨fk121, trivial, trivial⟩⟩⟩⟩, ⟨fk13, ⟨fk21, ⟨fk37, ⟨fk69, ⟨fk133, trivial, trivial⟩, trivial⟩, ⟨fk101, trivial, trivial⟩⟩, ⟨fk53, ⟨fk85, trivial, trivial⟩, ⟨fk117, ⟨fk181, trivial, trivial⟩, trivial⟩⟩⟩, ⟨trivial, ⟨fk45, ⟨fk77, ⟨fk141, trivial, trivial⟩, trivial⟩, ⟨fk109, ⟨fk173, trivial, trivial⟩, trivial⟩⟩, ⟨fk61, ⟨fk93, ⟨fk157, trivial, trivial⟩, trivial⟩, ⟨fk125, trivial, trivial⟩⟩⟩⟩⟩⟩, ⟨trivial, ⟨fk4, ⟨fk8, ⟨fk16, ⟨fk32, ⟨trivial, ⟨fk128, trivial, trivial⟩, trivial⟩, ⟨fk96, trivial, trivial⟩⟩, ⟨fk48, ⟨fk80, ⟨fk144, trivial, trivial⟩, trivial⟩, trivial⟩⟩, ⟨fk24, ⟨fk40, ⟨fk72, trivial, trivial⟩, ⟨fk104, trivial, trivial⟩⟩, ⟨fk56, ⟨fk88, ⟨fk152, trivial, trivial⟩, trivial⟩, ⟨fk120, trivial, trivial⟩⟩⟩⟩, ⟨trivial, ⟨fk20, ⟨fk36, ⟨fk68, ⟨fk132, trivial, trivial⟩, trivial⟩, ⟨fk100, trivial, trivial⟩⟩, ⟨fk52, ⟨fk84, trivial, trivial⟩, ⟨fk116, trivial, trivial⟩⟩⟩, ⟨trivial, ⟨fk44, ⟨fk76, ⟨fk140, trivial, trivial⟩, trivial⟩, ⟨fk108, ⟨fk172, trivial, trivial⟩, trivial⟩⟩, ⟨fk60, ⟨fk92, ⟨fk156, trivial, trivial⟩, trivial⟩, ⟨fk124, trivial, trivial⟩⟩⟩⟩⟩, ⟨fk6, ⟨fk10, ⟨fk18, ⟨fk34, ⟨fk66, ⟨fk130, trivial, trivial⟩, trivial⟩, ⟨fk98, ⟨fk162, trivial, trivial⟩, trivial⟩⟩, ⟨fk50, ⟨fk82, ⟨fk146, trivial, trivial⟩, trivial⟩, ⟨fk114, trivial, trivial⟩⟩⟩, ⟨fk26, ⟨fk42, ⟨fk74, ⟨fk138, trivial, trivial⟩, trivial⟩, ⟨fk106, ⟨fk170, trivial, trivial⟩, trivial⟩⟩, ⟨fk58, ⟨fk90, ⟨fk154, trivial, trivial⟩, trivial⟩, ⟨fk122, trivial, trivial⟩⟩⟩⟩, ⟨fk14, ⟨fk22, ⟨fk38, ⟨fk70, ⟨fk134, trivial, trivial⟩, trivial⟩, ⟨fk102, trivial, trivial⟩⟩, ⟨fk54, ⟨fk86, trivial, trivial⟩, ⟨fk118, ⟨fk182, trivial, trivial⟩, trivial⟩⟩⟩, ⟨trivial, ⟨fk46, ⟨fk78, trivial, trivial⟩, ⟨fk110, ⟨fk174, trivial, trivial⟩, trivial⟩⟩, ⟨fk62, ⟨fk94, trivial, trivial⟩, ⟨fk126, trivial, trivial⟩⟩⟩⟩⟩⟩⟩
theorem eqst53 : EqSt Tryz.prog 53 [(.int .i64), (.int .i64), (.int .i64), .str] := eqSt_of (by kernel_rfl) (by kernel_rfl) Tryz.underlying53 (by kernel_rfl) (by kernel_rfl) (by kernel_rfl) (by kernel_rfl)
theorem lies0 : liesAt Tryz.prog Tryz.prog.depth 236 (2 / Tryz.prog.cellsOf 236) 0 236 1 = true ∧ ∃ j, Tryz.prog.info? 236 = some j := ⟨by kernel_rfl, Option.isSome_iff_exists.1 (by kernel_rfl)⟩
theorem libF : LibF Tryz.prog base libN where
  noEsc := fun q hq => by
    obtain rfl := (Option.some.inj hq).symm
    exact ⟨_, Tryz.func169, by kernel_rfl, by kernel_rfl, by kernel_rfl, by kernel_rfl⟩
  idx := fun q hq => by
    obtain rfl := (Option.some.inj hq).symm
    exact ⟨_, Tryz.func153, by kernel_rfl, by kernel_rfl, by kernel_rfl, by kernel_rfl⟩
  asQ := fun q hq => by
    obtain rfl := (Option.some.inj hq).symm
    exact ⟨_, _, 53, Tryz.func12, by kernel_rfl, rfl, by kernel_rfl, rfl, as_law base rfl⟩
theorem tbF : TbF Tryz.prog tb where
  tk t := by
    show (match tkT.get t with | some k => k | none => tk Tryz.prog t) = tk Tryz.prog t
    split
    · rename_i k hk; exact (Tr.get_eq tkT_ok hk).symm
    · rfl
  tz t := by
    show (match tzT.get t with | some v => v | none => .undef) = tz Tryz.prog t ∨ (match tzT.get t with | some v => v | none => .undef) = .undef
    split
    · rename_i k hk; exact .inl (Tr.get_eq tzT_ok hk).symm
    · exact .inr rfl
  eqst t q h := by
    have h : (bif Nat.beq t 53 then some [(.int .i64), (.int .i64), (.int .i64), .str] else none) = some q := h
    cases h1 : Nat.beq t 53 with
    | true => rw [h1, cond_true] at h; obtain rfl := Option.some.inj h; obtain rfl := Nat.eq_of_beq_eq_true h1; exact eqst53
    | false =>
    rw [h1, cond_false] at h
    cases h
  lies t u n h := by
    have h : (bif Nat.beq t 236 && Nat.beq u 236 && Nat.beq n 2 then true else false) = true := h
    cases h1 : (Nat.beq t 236 && Nat.beq u 236 && Nat.beq n 2) with
    | true => simp only [Bool.and_eq_true, Nat.beq_eq] at h1; obtain ⟨⟨rfl, rfl⟩, rfl⟩ := h1; exact lies0
    | false =>
    rw [h1, cond_false] at h
    cases h
theorem tbOK : TbOK Tryz.prog tb base :=
  tbOK_of (by kernel_rfl) tbF (fun q vs oh h a hh hx => ⟨(xlib_ok libF q vs oh h a hh hx).1, (xlib_ok libF q vs oh h a hh hx).2.1⟩) (fun q fn h => (fnT_ok.mem (Tr.mem_of_get _ _ _ h)).all) (fun _ _ => rfl)
end Go.Proofs.YthdlmflmglgcpaaGreatDoor
