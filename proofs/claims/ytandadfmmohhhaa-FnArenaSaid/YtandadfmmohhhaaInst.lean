import Derived.Test.YtandadfmmohhhaaProg
import Derived.Test.YtandadfmmohhhaaEng
import Derived.KernelRfl
namespace Go.Proofs.Ytandadfmmohhhaa.E
open Go

instance : Sc Try.prog 2 := ⟨fun w => by kernel_rfl, by kernel_rfl⟩
instance : ZeroT Try.prog 2 [.int .i64 0] := ⟨by kernel_rfl⟩
instance : Sc Try.prog 3 := ⟨fun w => by kernel_rfl, by kernel_rfl⟩
instance : ZeroT Try.prog 3 [.int .i64 0] := ⟨by kernel_rfl⟩
instance : Sc Try.prog 4 := ⟨fun w => by kernel_rfl, by kernel_rfl⟩
instance : ZeroT Try.prog 4 [.bool false] := ⟨by kernel_rfl⟩
instance : Sc Try.prog 5 := ⟨fun w => by kernel_rfl, by kernel_rfl⟩
instance : ZeroT Try.prog 5 [.int .u8 0] := ⟨by kernel_rfl⟩
instance : Sc Try.prog 12 := ⟨fun w => by kernel_rfl, by kernel_rfl⟩
instance : ZeroT Try.prog 12 [.int .u64 0] := ⟨by kernel_rfl⟩
instance : Sc Try.prog 15 := ⟨fun w => by kernel_rfl, by kernel_rfl⟩
instance : ZeroT Try.prog 15 [.pointer none] := ⟨by kernel_rfl⟩
instance : Sc Try.prog 16 := ⟨fun w => by kernel_rfl, by kernel_rfl⟩
instance : ZeroT Try.prog 16 [.pointer none] := ⟨by kernel_rfl⟩
instance : Sc Try.prog 17 := ⟨fun w => by kernel_rfl, by kernel_rfl⟩
instance : ZeroT Try.prog 17 [.pointer none] := ⟨by kernel_rfl⟩
instance : Sc Try.prog 21 := ⟨fun w => by kernel_rfl, by kernel_rfl⟩
instance : ZeroT Try.prog 21 [.int .i32 0] := ⟨by kernel_rfl⟩
instance : SlT Try.prog 22 3 1 8 := ⟨by kernel_rfl, by kernel_rfl⟩
instance : Sc Try.prog 22 := ⟨fun w => by kernel_rfl, by kernel_rfl⟩
instance : ZeroT Try.prog 22 [.slice none 0 0] := ⟨by kernel_rfl⟩
instance : SlT Try.prog 23 101 2 16 := ⟨by kernel_rfl, by kernel_rfl⟩
instance : Sc Try.prog 23 := ⟨fun w => by kernel_rfl, by kernel_rfl⟩
instance : ZeroT Try.prog 23 [.slice none 0 0] := ⟨by kernel_rfl⟩
instance : Ag Try.prog 25 13 := ⟨fun w => by kernel_rfl, by kernel_rfl⟩
instance : Fld Try.prog 25 0 0 := ⟨fun a w => by kernel_rfl⟩
instance : Fld Try.prog 25 1 1 := ⟨fun a w => by kernel_rfl⟩
instance : Fld Try.prog 25 2 2 := ⟨fun a w => by kernel_rfl⟩
instance : Fld Try.prog 25 3 3 := ⟨fun a w => by kernel_rfl⟩
instance : Fld Try.prog 25 4 4 := ⟨fun a w => by kernel_rfl⟩
instance : Fld Try.prog 25 5 5 := ⟨fun a w => by kernel_rfl⟩
instance : Fld Try.prog 25 6 6 := ⟨fun a w => by kernel_rfl⟩
instance : Fld Try.prog 25 7 7 := ⟨fun a w => by kernel_rfl⟩
instance : Fld Try.prog 25 8 8 := ⟨fun a w => by kernel_rfl⟩
instance : Fld Try.prog 25 9 9 := ⟨fun a w => by kernel_rfl⟩
instance : Fld Try.prog 25 10 10 := ⟨fun a w => by kernel_rfl⟩
instance : Fld Try.prog 25 11 11 := ⟨fun a w => by kernel_rfl⟩
instance : Fld Try.prog 25 12 12 := ⟨fun a w => by kernel_rfl⟩
instance : ZeroT Try.prog 25 [.int .i64 0, .int .i64 0, .int .i64 0, .int .i64 0, .int .i64 0, .int .i64 0, .int .i64 0, .int .i64 0, .int .i64 0, .bool false, .slice none 0 0, .slice none 0 0, .slice none 0 0] := ⟨by kernel_rfl⟩
instance : SlT Try.prog 28 82 2 16 := ⟨by kernel_rfl, by kernel_rfl⟩
instance : Sc Try.prog 28 := ⟨fun w => by kernel_rfl, by kernel_rfl⟩
instance : ZeroT Try.prog 28 [.slice none 0 0] := ⟨by kernel_rfl⟩
instance : Ag Try.prog 30 13 := ⟨fun w => by kernel_rfl, by kernel_rfl⟩
instance : Fld Try.prog 30 0 0 := ⟨fun a w => by kernel_rfl⟩
instance : Fld Try.prog 30 1 1 := ⟨fun a w => by kernel_rfl⟩
instance : Fld Try.prog 30 2 2 := ⟨fun a w => by kernel_rfl⟩
instance : Fld Try.prog 30 3 3 := ⟨fun a w => by kernel_rfl⟩
instance : Fld Try.prog 30 4 4 := ⟨fun a w => by kernel_rfl⟩
instance : Fld Try.prog 30 5 5 := ⟨fun a w => by kernel_rfl⟩
instance : Fld Try.prog 30 6 6 := ⟨fun a w => by kernel_rfl⟩
instance : Fld Try.prog 30 7 7 := ⟨fun a w => by kernel_rfl⟩
instance : Fld Try.prog 30 8 8 := ⟨fun a w => by kernel_rfl⟩
instance : Fld Try.prog 30 9 9 := ⟨fun a w => by kernel_rfl⟩
instance : Fld Try.prog 30 10 10 := ⟨fun a w => by kernel_rfl⟩
instance : Fld Try.prog 30 11 11 := ⟨fun a w => by kernel_rfl⟩
instance : Fld Try.prog 30 12 12 := ⟨fun a w => by kernel_rfl⟩
instance : ZeroT Try.prog 30 [.int .i64 0, .int .i64 0, .int .i64 0, .int .i64 0, .int .i64 0, .int .i64 0, .int .i64 0, .int .i64 0, .int .i64 0, .bool false, .slice none 0 0, .slice none 0 0, .slice none 0 0] := ⟨by kernel_rfl⟩
instance : SlT Try.prog 34 25 13 152 := ⟨by kernel_rfl, by kernel_rfl⟩
instance : Sc Try.prog 34 := ⟨fun w => by kernel_rfl, by kernel_rfl⟩
instance : ZeroT Try.prog 34 [.slice none 0 0] := ⟨by kernel_rfl⟩
instance : SlT Try.prog 37 30 13 152 := ⟨by kernel_rfl, by kernel_rfl⟩
instance : Sc Try.prog 37 := ⟨fun w => by kernel_rfl, by kernel_rfl⟩
instance : ZeroT Try.prog 37 [.slice none 0 0] := ⟨by kernel_rfl⟩
instance : SlT Try.prog 41 5 1 1 := ⟨by kernel_rfl, by kernel_rfl⟩
instance : Sc Try.prog 41 := ⟨fun w => by kernel_rfl, by kernel_rfl⟩
instance : ZeroT Try.prog 41 [.slice none 0 0] := ⟨by kernel_rfl⟩
instance : SlT Try.prog 45 4 1 1 := ⟨by kernel_rfl, by kernel_rfl⟩
instance : Sc Try.prog 45 := ⟨fun w => by kernel_rfl, by kernel_rfl⟩
instance : ZeroT Try.prog 45 [.slice none 0 0] := ⟨by kernel_rfl⟩
instance : Ag Try.prog 55 4 := ⟨fun w => by kernel_rfl, by kernel_rfl⟩
instance : Fld Try.prog 55 0 0 := ⟨fun a w => by kernel_rfl⟩
instance : Fld Try.prog 55 1 1 := ⟨fun a w => by kernel_rfl⟩
instance : Fld Try.prog 55 2 2 := ⟨fun a w => by kernel_rfl⟩
instance : Fld Try.prog 55 3 3 := ⟨fun a w => by kernel_rfl⟩
instance : ZeroT Try.prog 55 [.int .i64 0, .int .i64 0, .int .i64 0, .slice none 0 0] := ⟨by kernel_rfl⟩
instance : Ag Try.prog 57 5 := ⟨fun w => by kernel_rfl, by kernel_rfl⟩
instance : Fld Try.prog 57 0 0 := ⟨fun a w => by kernel_rfl⟩
instance : Fld Try.prog 57 1 1 := ⟨fun a w => by kernel_rfl⟩
instance : ZeroT Try.prog 57 [.slice none 0 0, .int .i64 0, .int .i64 0, .int .i64 0, .slice none 0 0] := ⟨by kernel_rfl⟩
instance : Ag Try.prog 60 4 := ⟨fun w => by kernel_rfl, by kernel_rfl⟩
instance : Fld Try.prog 60 0 0 := ⟨fun a w => by kernel_rfl⟩
instance : Fld Try.prog 60 1 1 := ⟨fun a w => by kernel_rfl⟩
instance : Fld Try.prog 60 2 2 := ⟨fun a w => by kernel_rfl⟩
instance : Fld Try.prog 60 3 3 := ⟨fun a w => by kernel_rfl⟩
instance : ZeroT Try.prog 60 [.int .i64 0, .int .i64 0, .int .i64 0, .slice none 0 0] := ⟨by kernel_rfl⟩
instance : Ag Try.prog 62 5 := ⟨fun w => by kernel_rfl, by kernel_rfl⟩
instance : Fld Try.prog 62 0 0 := ⟨fun a w => by kernel_rfl⟩
instance : Fld Try.prog 62 1 1 := ⟨fun a w => by kernel_rfl⟩
instance : ZeroT Try.prog 62 [.slice none 0 0, .int .i64 0, .int .i64 0, .int .i64 0, .slice none 0 0] := ⟨by kernel_rfl⟩
instance : Ag Try.prog 82 2 := ⟨fun w => by kernel_rfl, by kernel_rfl⟩
instance : Fld Try.prog 82 0 0 := ⟨fun a w => by kernel_rfl⟩
instance : Fld Try.prog 82 1 1 := ⟨fun a w => by kernel_rfl⟩
instance : ZeroT Try.prog 82 [.int .i64 0, .int .i64 0] := ⟨by kernel_rfl⟩
instance : Sc Try.prog 86 := ⟨fun w => by kernel_rfl, by kernel_rfl⟩
instance : ZeroT Try.prog 86 [.pointer none] := ⟨by kernel_rfl⟩
instance : Ag Try.prog 101 2 := ⟨fun w => by kernel_rfl, by kernel_rfl⟩
instance : Fld Try.prog 101 0 0 := ⟨fun a w => by kernel_rfl⟩
instance : Fld Try.prog 101 1 1 := ⟨fun a w => by kernel_rfl⟩
instance : ZeroT Try.prog 101 [.int .i64 0, .int .i64 0] := ⟨by kernel_rfl⟩
instance : Ag Try.prog 104 3 := ⟨fun w => by kernel_rfl, by kernel_rfl⟩
instance : Fld Try.prog 104 0 0 := ⟨fun a w => by kernel_rfl⟩
instance : Fld Try.prog 104 1 1 := ⟨fun a w => by kernel_rfl⟩
instance : Fld Try.prog 104 2 2 := ⟨fun a w => by kernel_rfl⟩
instance : ZeroT Try.prog 104 [.slice none 0 0, .int .i64 0, .int .i64 0] := ⟨by kernel_rfl⟩
instance : Sc Try.prog 108 := ⟨fun w => by kernel_rfl, by kernel_rfl⟩
instance : ZeroT Try.prog 108 [.int .u64 0] := ⟨by kernel_rfl⟩
instance : Sc Try.prog 116 := ⟨fun w => by kernel_rfl, by kernel_rfl⟩
instance : ZeroT Try.prog 116 [.int .u32 0] := ⟨by kernel_rfl⟩
instance : Sc Try.prog 120 := ⟨fun w => by kernel_rfl, by kernel_rfl⟩
instance : ZeroT Try.prog 120 [.pointer none] := ⟨by kernel_rfl⟩
instance : FnT Try.prog 3 := ⟨Try.f3, Try.func3, by kernel_rfl, by kernel_rfl⟩
instance : FnT Try.prog 4 := ⟨Try.f4, Try.func4, by kernel_rfl, by kernel_rfl⟩
instance : FnT Try.prog 5 := ⟨Try.f5, Try.func5, by kernel_rfl, by kernel_rfl⟩
instance : FnT Try.prog 6 := ⟨Try.f6, Try.func6, by kernel_rfl, by kernel_rfl⟩
instance : FnT Try.prog 7 := ⟨Try.f7, Try.func7, by kernel_rfl, by kernel_rfl⟩
instance : FnT Try.prog 8 := ⟨Try.f8, Try.func8, by kernel_rfl, by kernel_rfl⟩
instance : FnT Try.prog 9 := ⟨Try.f9, Try.func9, by kernel_rfl, by kernel_rfl⟩
instance : FnT Try.prog 10 := ⟨Try.f10, Try.func10, by kernel_rfl, by kernel_rfl⟩
instance : FnT Try.prog 11 := ⟨Try.f11, Try.func11, by kernel_rfl, by kernel_rfl⟩
instance : FnT Try.prog 12 := ⟨Try.f12, Try.func12, by kernel_rfl, by kernel_rfl⟩
instance : FnT Try.prog 13 := ⟨Try.f13, Try.func13, by kernel_rfl, by kernel_rfl⟩
instance : FnT Try.prog 14 := ⟨Try.f14, Try.func14, by kernel_rfl, by kernel_rfl⟩
instance : FnT Try.prog 15 := ⟨Try.f15, Try.func15, by kernel_rfl, by kernel_rfl⟩
instance : FnT Try.prog 16 := ⟨Try.f16, Try.func16, by kernel_rfl, by kernel_rfl⟩
instance : FnT Try.prog 17 := ⟨Try.f17, Try.func17, by kernel_rfl, by kernel_rfl⟩
instance : FnT Try.prog 18 := ⟨Try.f18, Try.func18, by kernel_rfl, by kernel_rfl⟩
instance : FnT Try.prog 19 := ⟨Try.f19, Try.func19, by kernel_rfl, by kernel_rfl⟩
instance : FnT Try.prog 20 := ⟨Try.f20, Try.func20, by kernel_rfl, by kernel_rfl⟩
instance : FnT Try.prog 21 := ⟨Try.f21, Try.func21, by kernel_rfl, by kernel_rfl⟩
instance : FnT Try.prog 22 := ⟨Try.f22, Try.func22, by kernel_rfl, by kernel_rfl⟩
instance : FnT Try.prog 23 := ⟨Try.f23, Try.func23, by kernel_rfl, by kernel_rfl⟩
instance : FnT Try.prog 24 := ⟨Try.f24, Try.func24, by kernel_rfl, by kernel_rfl⟩
instance : FnT Try.prog 25 := ⟨Try.f25, Try.func25, by kernel_rfl, by kernel_rfl⟩
instance : FnT Try.prog 26 := ⟨Try.f26, Try.func26, by kernel_rfl, by kernel_rfl⟩
instance : FnT Try.prog 27 := ⟨Try.f27, Try.func27, by kernel_rfl, by kernel_rfl⟩
instance : FnT Try.prog 28 := ⟨Try.f28, Try.func28, by kernel_rfl, by kernel_rfl⟩
instance : FnT Try.prog 29 := ⟨Try.f29, Try.func29, by kernel_rfl, by kernel_rfl⟩
instance : FnT Try.prog 30 := ⟨Try.f30, Try.func30, by kernel_rfl, by kernel_rfl⟩
instance : FnT Try.prog 31 := ⟨Try.f31, Try.func31, by kernel_rfl, by kernel_rfl⟩
instance : FnT Try.prog 32 := ⟨Try.f32, Try.func32, by kernel_rfl, by kernel_rfl⟩
instance : FnT Try.prog 33 := ⟨Try.f33, Try.func33, by kernel_rfl, by kernel_rfl⟩
instance : FnT Try.prog 34 := ⟨Try.f34, Try.func34, by kernel_rfl, by kernel_rfl⟩
instance : FnT Try.prog 35 := ⟨Try.f35, Try.func35, by kernel_rfl, by kernel_rfl⟩
instance : FnT Try.prog 36 := ⟨Try.f36, Try.func36, by kernel_rfl, by kernel_rfl⟩
instance : FnT Try.prog 37 := ⟨Try.f37, Try.func37, by kernel_rfl, by kernel_rfl⟩
instance : FnT Try.prog 38 := ⟨Try.f38, Try.func38, by kernel_rfl, by kernel_rfl⟩
instance : FnT Try.prog 39 := ⟨Try.f39, Try.func39, by kernel_rfl, by kernel_rfl⟩
instance : FnT Try.prog 40 := ⟨Try.f40, Try.func40, by kernel_rfl, by kernel_rfl⟩
instance : FnT Try.prog 41 := ⟨Try.f41, Try.func41, by kernel_rfl, by kernel_rfl⟩
instance : FnT Try.prog 42 := ⟨Try.f42, Try.func42, by kernel_rfl, by kernel_rfl⟩
instance : FnT Try.prog 43 := ⟨Try.f43, Try.func43, by kernel_rfl, by kernel_rfl⟩
instance : FnT Try.prog 44 := ⟨Try.f44, Try.func44, by kernel_rfl, by kernel_rfl⟩
instance : FnT Try.prog 45 := ⟨Try.f45, Try.func45, by kernel_rfl, by kernel_rfl⟩
instance : FnT Try.prog 46 := ⟨Try.f46, Try.func46, by kernel_rfl, by kernel_rfl⟩
instance : FnT Try.prog 47 := ⟨Try.f47, Try.func47, by kernel_rfl, by kernel_rfl⟩
instance : FnT Try.prog 48 := ⟨Try.f48, Try.func48, by kernel_rfl, by kernel_rfl⟩
instance : FnT Try.prog 49 := ⟨Try.f49, Try.func49, by kernel_rfl, by kernel_rfl⟩
instance : FnT Try.prog 50 := ⟨Try.f50, Try.func50, by kernel_rfl, by kernel_rfl⟩
instance : FnT Try.prog 51 := ⟨Try.f51, Try.func51, by kernel_rfl, by kernel_rfl⟩
instance : FnT Try.prog 52 := ⟨Try.f52, Try.func52, by kernel_rfl, by kernel_rfl⟩
instance : FnT Try.prog 53 := ⟨Try.f53, Try.func53, by kernel_rfl, by kernel_rfl⟩
instance : FnT Try.prog 54 := ⟨Try.f54, Try.func54, by kernel_rfl, by kernel_rfl⟩
instance : FnT Try.prog 55 := ⟨Try.f55, Try.func55, by kernel_rfl, by kernel_rfl⟩
instance : FnT Try.prog 56 := ⟨Try.f56, Try.func56, by kernel_rfl, by kernel_rfl⟩
instance : FnT Try.prog 57 := ⟨Try.f57, Try.func57, by kernel_rfl, by kernel_rfl⟩
instance : FnT Try.prog 58 := ⟨Try.f58, Try.func58, by kernel_rfl, by kernel_rfl⟩
instance : FnT Try.prog 59 := ⟨Try.f59, Try.func59, by kernel_rfl, by kernel_rfl⟩
instance : FnT Try.prog 60 := ⟨Try.f60, Try.func60, by kernel_rfl, by kernel_rfl⟩
instance : FnT Try.prog 61 := ⟨Try.f61, Try.func61, by kernel_rfl, by kernel_rfl⟩
instance : FnT Try.prog 62 := ⟨Try.f62, Try.func62, by kernel_rfl, by kernel_rfl⟩
instance : FnT Try.prog 63 := ⟨Try.f63, Try.func63, by kernel_rfl, by kernel_rfl⟩
instance : FnT Try.prog 64 := ⟨Try.f64, Try.func64, by kernel_rfl, by kernel_rfl⟩
instance : FnT Try.prog 65 := ⟨Try.f65, Try.func65, by kernel_rfl, by kernel_rfl⟩
instance : FnT Try.prog 66 := ⟨Try.f66, Try.func66, by kernel_rfl, by kernel_rfl⟩
instance : FnT Try.prog 67 := ⟨Try.f67, Try.func67, by kernel_rfl, by kernel_rfl⟩
instance : FnT Try.prog 68 := ⟨Try.f68, Try.func68, by kernel_rfl, by kernel_rfl⟩
instance : FnT Try.prog 69 := ⟨Try.f69, Try.func69, by kernel_rfl, by kernel_rfl⟩
instance : FnT Try.prog 70 := ⟨Try.f70, Try.func70, by kernel_rfl, by kernel_rfl⟩
instance : FnT Try.prog 71 := ⟨Try.f71, Try.func71, by kernel_rfl, by kernel_rfl⟩
instance : FnT Try.prog 72 := ⟨Try.f72, Try.func72, by kernel_rfl, by kernel_rfl⟩
instance : FnT Try.prog 73 := ⟨Try.f73, Try.func73, by kernel_rfl, by kernel_rfl⟩
instance : FnT Try.prog 74 := ⟨Try.f74, Try.func74, by kernel_rfl, by kernel_rfl⟩
instance : FnT Try.prog 75 := ⟨Try.f75, Try.func75, by kernel_rfl, by kernel_rfl⟩
instance : FnT Try.prog 76 := ⟨Try.f76, Try.func76, by kernel_rfl, by kernel_rfl⟩
instance : FnT Try.prog 77 := ⟨Try.f77, Try.func77, by kernel_rfl, by kernel_rfl⟩
instance : FnT Try.prog 78 := ⟨Try.f78, Try.func78, by kernel_rfl, by kernel_rfl⟩
instance : FnT Try.prog 79 := ⟨Try.f79, Try.func79, by kernel_rfl, by kernel_rfl⟩
instance : FnT Try.prog 80 := ⟨Try.f80, Try.func80, by kernel_rfl, by kernel_rfl⟩
instance : FnT Try.prog 81 := ⟨Try.f81, Try.func81, by kernel_rfl, by kernel_rfl⟩
instance : FnT Try.prog 82 := ⟨Try.f82, Try.func82, by kernel_rfl, by kernel_rfl⟩
instance : FnT Try.prog 83 := ⟨Try.f83, Try.func83, by kernel_rfl, by kernel_rfl⟩
instance : FnT Try.prog 84 := ⟨Try.f84, Try.func84, by kernel_rfl, by kernel_rfl⟩
instance : FnT Try.prog 85 := ⟨Try.f85, Try.func85, by kernel_rfl, by kernel_rfl⟩
instance : FnT Try.prog 86 := ⟨Try.f86, Try.func86, by kernel_rfl, by kernel_rfl⟩
instance : FnT Try.prog 87 := ⟨Try.f87, Try.func87, by kernel_rfl, by kernel_rfl⟩
instance : FnT Try.prog 88 := ⟨Try.f88, Try.func88, by kernel_rfl, by kernel_rfl⟩
instance : FnT Try.prog 89 := ⟨Try.f89, Try.func89, by kernel_rfl, by kernel_rfl⟩
instance : FnT Try.prog 90 := ⟨Try.f90, Try.func90, by kernel_rfl, by kernel_rfl⟩
instance : FnT Try.prog 91 := ⟨Try.f91, Try.func91, by kernel_rfl, by kernel_rfl⟩
instance : FnT Try.prog 92 := ⟨Try.f92, Try.func92, by kernel_rfl, by kernel_rfl⟩
instance : FnT Try.prog 93 := ⟨Try.f93, Try.func93, by kernel_rfl, by kernel_rfl⟩
instance : FnT Try.prog 94 := ⟨Try.f94, Try.func94, by kernel_rfl, by kernel_rfl⟩
instance : FnT Try.prog 95 := ⟨Try.f95, Try.func95, by kernel_rfl, by kernel_rfl⟩
instance : FnT Try.prog 96 := ⟨Try.f96, Try.func96, by kernel_rfl, by kernel_rfl⟩
instance : FnT Try.prog 97 := ⟨Try.f97, Try.func97, by kernel_rfl, by kernel_rfl⟩
instance : FnT Try.prog 98 := ⟨Try.f98, Try.func98, by kernel_rfl, by kernel_rfl⟩
instance : FnT Try.prog 99 := ⟨Try.f99, Try.func99, by kernel_rfl, by kernel_rfl⟩
instance : FnT Try.prog 100 := ⟨Try.f100, Try.func100, by kernel_rfl, by kernel_rfl⟩
instance : FnT Try.prog 101 := ⟨Try.f101, Try.func101, by kernel_rfl, by kernel_rfl⟩
instance : FnT Try.prog 102 := ⟨Try.f102, Try.func102, by kernel_rfl, by kernel_rfl⟩
instance : FnT Try.prog 103 := ⟨Try.f103, Try.func103, by kernel_rfl, by kernel_rfl⟩
instance : FnT Try.prog 104 := ⟨Try.f104, Try.func104, by kernel_rfl, by kernel_rfl⟩
instance : FnT Try.prog 105 := ⟨Try.f105, Try.func105, by kernel_rfl, by kernel_rfl⟩
instance : FnT Try.prog 106 := ⟨Try.f106, Try.func106, by kernel_rfl, by kernel_rfl⟩
instance : FnT Try.prog 107 := ⟨Try.f107, Try.func107, by kernel_rfl, by kernel_rfl⟩
instance : FnT Try.prog 108 := ⟨Try.f108, Try.func108, by kernel_rfl, by kernel_rfl⟩
instance : FnT Try.prog 109 := ⟨Try.f109, Try.func109, by kernel_rfl, by kernel_rfl⟩
abbrev tyTimer : TypeId := 0
abbrev tySpoke : TypeId := 0
abbrev tyWheel : TypeId := 0
abbrev tyMsg : TypeId := 82
abbrev tyObj : TypeId := 30
abbrev tyGc : TypeId := 60
abbrev tyHeap : TypeId := 62
abbrev tyAmt : TypeId := 0
abbrev tyRes : TypeId := 0
abbrev tyTree : TypeId := 0
abbrev tyTap : TypeId := 0
abbrev tyLabel : TypeId := 0
abbrev tyPart : TypeId := 0
abbrev tyBool : TypeId := 4
abbrev tyInt : TypeId := 3
abbrev tyByte : TypeId := 5
theorem und_bool : Try.prog.underlying 4 = some .bool := by kernel_rfl
theorem und_int : Try.prog.underlying 3 = some (.int .i64) := by kernel_rfl
theorem und_byte : Try.prog.underlying 5 = some (.int .u8) := by kernel_rfl
theorem mixed : Try.prog.follows .mixedOrders = true := by kernel_rfl
end Go.Proofs.Ytandadfmmohhhaa.E
