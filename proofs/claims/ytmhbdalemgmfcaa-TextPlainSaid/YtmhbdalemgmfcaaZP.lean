import Derived.Test.YtmhbdalemgmfcaaZ
import Derived.Test.YtmhbdalemgmfcaaProg
namespace Go.Proofs.Ytmhbdalemgmfcaa.ZP
open Go Go.Z Go.Proofs
instance i2 : Inf Try.prog 2 1 8 (.int .i64 0) := Inf.of (by kernel_rfl)
instance i3 : Inf Try.prog 3 1 8 (.int .i64 0) := Inf.of (by kernel_rfl)
instance i4 : Inf Try.prog 4 1 1 (.bool false) := Inf.of (by kernel_rfl)
instance i5 : Inf Try.prog 5 1 1 (.int .u8 0) := Inf.of (by kernel_rfl)
instance i6 : Inf Try.prog 6 1 1 (.int .u8 0) := Inf.of (by kernel_rfl)
instance i7 : Inf Try.prog 7 4 24 (.agg #[(.int .i64 0), (.int .i64 0), (.bool false), (.int .u8 0)]) := Inf.of (by kernel_rfl)
instance i8 : Inf Try.prog 8 4 24 (.agg #[(.int .i64 0), (.int .i64 0), (.bool false), (.int .u8 0)]) := Inf.of (by kernel_rfl)
instance i9 : Inf Try.prog 9 1 16 (.string ⟨#[]⟩) := Inf.of (by kernel_rfl)
instance i10 : Inf Try.prog 10 1 16 (.string ⟨#[]⟩) := Inf.of (by kernel_rfl)
instance i11 : Inf Try.prog 11 1 16 (.string ⟨#[]⟩) := Inf.of (by kernel_rfl)
instance i12 : Inf Try.prog 12 1 8 (.int .u64 0) := Inf.of (by kernel_rfl)
instance i13 : Inf Try.prog 13 2 24 (.agg #[(.string ⟨#[]⟩), (.int .u64 0)]) := Inf.of (by kernel_rfl)
instance i14 : Inf Try.prog 14 2 24 (.agg #[(.string ⟨#[]⟩), (.int .u64 0)]) := Inf.of (by kernel_rfl)
instance i15 : Inf Try.prog 15 1 8 (.pointer none) := Inf.of (by kernel_rfl)
instance i16 : Inf Try.prog 16 1 8 (.pointer none) := Inf.of (by kernel_rfl)
instance i17 : Inf Try.prog 17 1 8 (.pointer none) := Inf.of (by kernel_rfl)
instance i18 : Inf Try.prog 18 1 8 (.agg #[(.pointer none)]) := Inf.of (by kernel_rfl)
instance i19 : Inf Try.prog 19 1 8 (.agg #[(.pointer none)]) := Inf.of (by kernel_rfl)
instance i21 : Inf Try.prog 21 1 4 (.int .i32 0) := Inf.of (by kernel_rfl)
instance i26 : Inf Try.prog 26 1 24 (.slice none 0 0) := Inf.of (by kernel_rfl)
instance i29 : Inf Try.prog 29 1 24 (.slice none 0 0) := Inf.of (by kernel_rfl)
instance i37 : Inf Try.prog 37 1 8 (.pointer none) := Inf.of (by kernel_rfl)
instance i38 : Inf Try.prog 38 2 32 (.agg #[(.pointer none), (.slice none 0 0)]) := Inf.of (by kernel_rfl)
instance i39 : Inf Try.prog 39 2 32 (.agg #[(.pointer none), (.slice none 0 0)]) := Inf.of (by kernel_rfl)
instance i41 : Inf Try.prog 41 1 16 .nilIface := Inf.of (by kernel_rfl)
instance i51 : Inf Try.prog 51 1 8 (.pointer none) := Inf.of (by kernel_rfl)
instance i58 : Inf Try.prog 58 4 40 (.agg #[(.pointer none), (.pointer none), (.pointer none), (.string ⟨#[]⟩)]) := Inf.of (by kernel_rfl)
instance i59 : Inf Try.prog 59 4 40 (.agg #[(.pointer none), (.pointer none), (.pointer none), (.string ⟨#[]⟩)]) := Inf.of (by kernel_rfl)
instance i61 : Inf Try.prog 61 0 0 (.agg #[]) := Inf.of (by kernel_rfl)
instance i62 : Inf Try.prog 62 0 0 (.agg #[]) := Inf.of (by kernel_rfl)
instance i64 : Inf Try.prog 64 1 4 (.int .u32 0) := Inf.of (by kernel_rfl)
instance i65 : Inf Try.prog 65 1 1 (.int .u8 0) := Inf.of (by kernel_rfl)
instance i66 : Inf Try.prog 66 1 1 (.int .u8 0) := Inf.of (by kernel_rfl)
instance i68 : Inf Try.prog 68 1 4 (.int .i32 0) := Inf.of (by kernel_rfl)
instance i69 : Inf Try.prog 69 1 4 (.int .i32 0) := Inf.of (by kernel_rfl)
instance i70 : Inf Try.prog 70 11 48 (.agg #[(.int .u64 0), (.int .u64 0), (.int .u32 0), (.int .u8 0), (.int .u8 0), (.int .u8 0), (.int .u8 0), .nilFunc, (.pointer none), (.int .i32 0), (.int .i32 0)]) := Inf.of (by kernel_rfl)
instance i71 : Inf Try.prog 71 11 48 (.agg #[(.int .u64 0), (.int .u64 0), (.int .u32 0), (.int .u8 0), (.int .u8 0), (.int .u8 0), (.int .u8 0), .nilFunc, (.pointer none), (.int .i32 0), (.int .i32 0)]) := Inf.of (by kernel_rfl)
instance u2 : Und Try.prog 2 (.int .i64) := ⟨Try.underlying2⟩
instance a2 : IsA Try.prog 2 false := IsA.no Try.underlying2 rfl
instance u3 : Und Try.prog 3 (.int .i64) := ⟨Try.underlying3⟩
instance a3 : IsA Try.prog 3 false := IsA.no Try.underlying3 rfl
instance u4 : Und Try.prog 4 .bool := ⟨Try.underlying4⟩
instance a4 : IsA Try.prog 4 false := IsA.no Try.underlying4 rfl
instance u5 : Und Try.prog 5 (.int .u8) := ⟨Try.underlying5⟩
instance a5 : IsA Try.prog 5 false := IsA.no Try.underlying5 rfl
instance u6 : Und Try.prog 6 (.int .u8) := ⟨Try.underlying6⟩
instance a6 : IsA Try.prog 6 false := IsA.no Try.underlying6 rfl
instance a7 : IsA Try.prog 7 true := IsA.yes Try.underlying7
instance f7_0 : FA Try.prog 7 0 0 := ⟨fun w b o => by kernel_rfl⟩
instance f7_1 : FA Try.prog 7 1 1 := ⟨fun w b o => by kernel_rfl⟩
instance f7_2 : FA Try.prog 7 2 2 := ⟨fun w b o => by kernel_rfl⟩
instance f7_3 : FA Try.prog 7 3 3 := ⟨fun w b o => by kernel_rfl⟩
instance a8 : IsA Try.prog 8 true := IsA.yes Try.underlying8
instance f8_0 : FA Try.prog 8 0 0 := ⟨fun w b o => by kernel_rfl⟩
instance f8_1 : FA Try.prog 8 1 1 := ⟨fun w b o => by kernel_rfl⟩
instance f8_2 : FA Try.prog 8 2 2 := ⟨fun w b o => by kernel_rfl⟩
instance f8_3 : FA Try.prog 8 3 3 := ⟨fun w b o => by kernel_rfl⟩
instance u9 : Und Try.prog 9 .string := ⟨Try.underlying9⟩
instance a9 : IsA Try.prog 9 false := IsA.no Try.underlying9 rfl
instance u10 : Und Try.prog 10 .string := ⟨Try.underlying10⟩
instance a10 : IsA Try.prog 10 false := IsA.no Try.underlying10 rfl
instance u11 : Und Try.prog 11 .string := ⟨Try.underlying11⟩
instance a11 : IsA Try.prog 11 false := IsA.no Try.underlying11 rfl
instance u12 : Und Try.prog 12 (.int .u64) := ⟨Try.underlying12⟩
instance a12 : IsA Try.prog 12 false := IsA.no Try.underlying12 rfl
instance a13 : IsA Try.prog 13 true := IsA.yes Try.underlying13
instance f13_0 : FA Try.prog 13 0 0 := ⟨fun w b o => by kernel_rfl⟩
instance f13_1 : FA Try.prog 13 1 1 := ⟨fun w b o => by kernel_rfl⟩
instance a14 : IsA Try.prog 14 true := IsA.yes Try.underlying14
instance f14_0 : FA Try.prog 14 0 0 := ⟨fun w b o => by kernel_rfl⟩
instance f14_1 : FA Try.prog 14 1 1 := ⟨fun w b o => by kernel_rfl⟩
instance u15 : Und Try.prog 15 (.pointer 59) := ⟨Try.underlying15⟩
instance a15 : IsA Try.prog 15 false := IsA.no Try.underlying15 rfl
instance u16 : Und Try.prog 16 (.pointer 62) := ⟨Try.underlying16⟩
instance a16 : IsA Try.prog 16 false := IsA.no Try.underlying16 rfl
instance u17 : Und Try.prog 17 (.pointer 71) := ⟨Try.underlying17⟩
instance a17 : IsA Try.prog 17 false := IsA.no Try.underlying17 rfl
instance a18 : IsA Try.prog 18 true := IsA.yes Try.underlying18
instance f18_0 : FA Try.prog 18 0 0 := ⟨fun w b o => by kernel_rfl⟩
instance a19 : IsA Try.prog 19 true := IsA.yes Try.underlying19
instance f19_0 : FA Try.prog 19 0 0 := ⟨fun w b o => by kernel_rfl⟩
instance u21 : Und Try.prog 21 (.int .i32) := ⟨Try.underlying21⟩
instance a21 : IsA Try.prog 21 false := IsA.no Try.underlying21 rfl
instance u26 : Und Try.prog 26 (.slice 9) := ⟨Try.underlying26⟩
instance a26 : IsA Try.prog 26 false := IsA.no Try.underlying26 rfl
instance u29 : Und Try.prog 29 (.slice 5) := ⟨Try.underlying29⟩
instance a29 : IsA Try.prog 29 false := IsA.no Try.underlying29 rfl
instance u37 : Und Try.prog 37 (.pointer 39) := ⟨Try.underlying37⟩
instance a37 : IsA Try.prog 37 false := IsA.no Try.underlying37 rfl
instance a38 : IsA Try.prog 38 true := IsA.yes Try.underlying38
instance f38_0 : FA Try.prog 38 0 0 := ⟨fun w b o => by kernel_rfl⟩
instance f38_1 : FA Try.prog 38 1 1 := ⟨fun w b o => by kernel_rfl⟩
instance a39 : IsA Try.prog 39 true := IsA.yes Try.underlying39
instance f39_0 : FA Try.prog 39 0 0 := ⟨fun w b o => by kernel_rfl⟩
instance f39_1 : FA Try.prog 39 1 1 := ⟨fun w b o => by kernel_rfl⟩
instance u51 : Und Try.prog 51 (.pointer 5) := ⟨Try.underlying51⟩
instance a51 : IsA Try.prog 51 false := IsA.no Try.underlying51 rfl
instance a58 : IsA Try.prog 58 true := IsA.yes Try.underlying58
instance f58_0 : FA Try.prog 58 0 0 := ⟨fun w b o => by kernel_rfl⟩
instance f58_1 : FA Try.prog 58 1 1 := ⟨fun w b o => by kernel_rfl⟩
instance f58_2 : FA Try.prog 58 2 2 := ⟨fun w b o => by kernel_rfl⟩
instance f58_3 : FA Try.prog 58 3 3 := ⟨fun w b o => by kernel_rfl⟩
instance a59 : IsA Try.prog 59 true := IsA.yes Try.underlying59
instance f59_0 : FA Try.prog 59 0 0 := ⟨fun w b o => by kernel_rfl⟩
instance f59_1 : FA Try.prog 59 1 1 := ⟨fun w b o => by kernel_rfl⟩
instance f59_2 : FA Try.prog 59 2 2 := ⟨fun w b o => by kernel_rfl⟩
instance f59_3 : FA Try.prog 59 3 3 := ⟨fun w b o => by kernel_rfl⟩
instance a61 : IsA Try.prog 61 true := IsA.yes Try.underlying61
instance a62 : IsA Try.prog 62 true := IsA.yes Try.underlying62
instance u64 : Und Try.prog 64 (.int .u32) := ⟨Try.underlying64⟩
instance a64 : IsA Try.prog 64 false := IsA.no Try.underlying64 rfl
instance u65 : Und Try.prog 65 (.int .u8) := ⟨Try.underlying65⟩
instance a65 : IsA Try.prog 65 false := IsA.no Try.underlying65 rfl
instance u66 : Und Try.prog 66 (.int .u8) := ⟨Try.underlying66⟩
instance a66 : IsA Try.prog 66 false := IsA.no Try.underlying66 rfl
instance u68 : Und Try.prog 68 (.int .i32) := ⟨Try.underlying68⟩
instance a68 : IsA Try.prog 68 false := IsA.no Try.underlying68 rfl
instance u69 : Und Try.prog 69 (.int .i32) := ⟨Try.underlying69⟩
instance a69 : IsA Try.prog 69 false := IsA.no Try.underlying69 rfl
instance a70 : IsA Try.prog 70 true := IsA.yes Try.underlying70
instance f70_0 : FA Try.prog 70 0 0 := ⟨fun w b o => by kernel_rfl⟩
instance f70_1 : FA Try.prog 70 1 1 := ⟨fun w b o => by kernel_rfl⟩
instance f70_2 : FA Try.prog 70 2 2 := ⟨fun w b o => by kernel_rfl⟩
instance f70_3 : FA Try.prog 70 3 3 := ⟨fun w b o => by kernel_rfl⟩
instance f70_4 : FA Try.prog 70 4 4 := ⟨fun w b o => by kernel_rfl⟩
instance f70_5 : FA Try.prog 70 5 5 := ⟨fun w b o => by kernel_rfl⟩
instance f70_6 : FA Try.prog 70 6 6 := ⟨fun w b o => by kernel_rfl⟩
instance f70_7 : FA Try.prog 70 7 7 := ⟨fun w b o => by kernel_rfl⟩
instance f70_8 : FA Try.prog 70 8 8 := ⟨fun w b o => by kernel_rfl⟩
instance f70_9 : FA Try.prog 70 9 9 := ⟨fun w b o => by kernel_rfl⟩
instance f70_10 : FA Try.prog 70 10 10 := ⟨fun w b o => by kernel_rfl⟩
instance a71 : IsA Try.prog 71 true := IsA.yes Try.underlying71
instance f71_0 : FA Try.prog 71 0 0 := ⟨fun w b o => by kernel_rfl⟩
instance f71_1 : FA Try.prog 71 1 1 := ⟨fun w b o => by kernel_rfl⟩
instance f71_2 : FA Try.prog 71 2 2 := ⟨fun w b o => by kernel_rfl⟩
instance f71_3 : FA Try.prog 71 3 3 := ⟨fun w b o => by kernel_rfl⟩
instance f71_4 : FA Try.prog 71 4 4 := ⟨fun w b o => by kernel_rfl⟩
instance f71_5 : FA Try.prog 71 5 5 := ⟨fun w b o => by kernel_rfl⟩
instance f71_6 : FA Try.prog 71 6 6 := ⟨fun w b o => by kernel_rfl⟩
instance f71_7 : FA Try.prog 71 7 7 := ⟨fun w b o => by kernel_rfl⟩
instance f71_8 : FA Try.prog 71 8 8 := ⟨fun w b o => by kernel_rfl⟩
instance f71_9 : FA Try.prog 71 9 9 := ⟨fun w b o => by kernel_rfl⟩
instance f71_10 : FA Try.prog 71 10 10 := ⟨fun w b o => by kernel_rfl⟩
instance c3 : IsFn Try.prog 3 := ⟨Try.f3, Try.func3, by kernel_rfl, by kernel_rfl⟩
instance c4 : IsFn Try.prog 4 := ⟨Try.f4, Try.func4, by kernel_rfl, by kernel_rfl⟩
instance c5 : IsFn Try.prog 5 := ⟨Try.f5, Try.func5, by kernel_rfl, by kernel_rfl⟩
instance c6 : IsFn Try.prog 6 := ⟨Try.f6, Try.func6, by kernel_rfl, by kernel_rfl⟩
instance c7 : IsFn Try.prog 7 := ⟨Try.f7, Try.func7, by kernel_rfl, by kernel_rfl⟩
instance c8 : IsFn Try.prog 8 := ⟨Try.f8, Try.func8, by kernel_rfl, by kernel_rfl⟩
instance c9 : IsFn Try.prog 9 := ⟨Try.f9, Try.func9, by kernel_rfl, by kernel_rfl⟩
instance c10 : IsFn Try.prog 10 := ⟨Try.f10, Try.func10, by kernel_rfl, by kernel_rfl⟩
instance c11 : IsFn Try.prog 11 := ⟨Try.f11, Try.func11, by kernel_rfl, by kernel_rfl⟩
instance c12 : IsFn Try.prog 12 := ⟨Try.f12, Try.func12, by kernel_rfl, by kernel_rfl⟩
instance c13 : IsFn Try.prog 13 := ⟨Try.f13, Try.func13, by kernel_rfl, by kernel_rfl⟩
instance c14 : IsFn Try.prog 14 := ⟨Try.f14, Try.func14, by kernel_rfl, by kernel_rfl⟩
instance c15 : IsFn Try.prog 15 := ⟨Try.f15, Try.func15, by kernel_rfl, by kernel_rfl⟩
instance c16 : IsFn Try.prog 16 := ⟨Try.f16, Try.func16, by kernel_rfl, by kernel_rfl⟩
instance c17 : IsFn Try.prog 17 := ⟨Try.f17, Try.func17, by kernel_rfl, by kernel_rfl⟩
instance c18 : IsFn Try.prog 18 := ⟨Try.f18, Try.func18, by kernel_rfl, by kernel_rfl⟩
instance c19 : IsFn Try.prog 19 := ⟨Try.f19, Try.func19, by kernel_rfl, by kernel_rfl⟩
instance c20 : IsFn Try.prog 20 := ⟨Try.f20, Try.func20, by kernel_rfl, by kernel_rfl⟩
instance c21 : IsFn Try.prog 21 := ⟨Try.f21, Try.func21, by kernel_rfl, by kernel_rfl⟩
instance c22 : IsFn Try.prog 22 := ⟨Try.f22, Try.func22, by kernel_rfl, by kernel_rfl⟩
instance c23 : IsFn Try.prog 23 := ⟨Try.f23, Try.func23, by kernel_rfl, by kernel_rfl⟩
instance c24 : IsFn Try.prog 24 := ⟨Try.f24, Try.func24, by kernel_rfl, by kernel_rfl⟩
instance c25 : IsFn Try.prog 25 := ⟨Try.f25, Try.func25, by kernel_rfl, by kernel_rfl⟩
instance c26 : IsFn Try.prog 26 := ⟨Try.f26, Try.func26, by kernel_rfl, by kernel_rfl⟩
instance c27 : IsFn Try.prog 27 := ⟨Try.f27, Try.func27, by kernel_rfl, by kernel_rfl⟩
instance c28 : IsFn Try.prog 28 := ⟨Try.f28, Try.func28, by kernel_rfl, by kernel_rfl⟩
instance c29 : IsFn Try.prog 29 := ⟨Try.f29, Try.func29, by kernel_rfl, by kernel_rfl⟩
instance c30 : IsFn Try.prog 30 := ⟨Try.f30, Try.func30, by kernel_rfl, by kernel_rfl⟩
instance c31 : IsFn Try.prog 31 := ⟨Try.f31, Try.func31, by kernel_rfl, by kernel_rfl⟩
instance c32 : IsFn Try.prog 32 := ⟨Try.f32, Try.func32, by kernel_rfl, by kernel_rfl⟩
instance c33 : IsFn Try.prog 33 := ⟨Try.f33, Try.func33, by kernel_rfl, by kernel_rfl⟩
instance c34 : IsFn Try.prog 34 := ⟨Try.f34, Try.func34, by kernel_rfl, by kernel_rfl⟩
instance c35 : IsFn Try.prog 35 := ⟨Try.f35, Try.func35, by kernel_rfl, by kernel_rfl⟩
instance c36 : IsFn Try.prog 36 := ⟨Try.f36, Try.func36, by kernel_rfl, by kernel_rfl⟩
instance c37 : IsFn Try.prog 37 := ⟨Try.f37, Try.func37, by kernel_rfl, by kernel_rfl⟩
instance c38 : IsFn Try.prog 38 := ⟨Try.f38, Try.func38, by kernel_rfl, by kernel_rfl⟩
instance c39 : IsFn Try.prog 39 := ⟨Try.f39, Try.func39, by kernel_rfl, by kernel_rfl⟩
instance c40 : IsFn Try.prog 40 := ⟨Try.f40, Try.func40, by kernel_rfl, by kernel_rfl⟩
instance c41 : IsFn Try.prog 41 := ⟨Try.f41, Try.func41, by kernel_rfl, by kernel_rfl⟩
instance c42 : IsFn Try.prog 42 := ⟨Try.f42, Try.func42, by kernel_rfl, by kernel_rfl⟩
instance c43 : IsFn Try.prog 43 := ⟨Try.f43, Try.func43, by kernel_rfl, by kernel_rfl⟩
instance c44 : IsFn Try.prog 44 := ⟨Try.f44, Try.func44, by kernel_rfl, by kernel_rfl⟩
instance c45 : IsFn Try.prog 45 := ⟨Try.f45, Try.func45, by kernel_rfl, by kernel_rfl⟩
instance c46 : IsFn Try.prog 46 := ⟨Try.f46, Try.func46, by kernel_rfl, by kernel_rfl⟩
instance c47 : IsFn Try.prog 47 := ⟨Try.f47, Try.func47, by kernel_rfl, by kernel_rfl⟩
instance c48 : IsFn Try.prog 48 := ⟨Try.f48, Try.func48, by kernel_rfl, by kernel_rfl⟩
instance c51 : IsFn Try.prog 51 := ⟨Try.f51, Try.func51, by kernel_rfl, by kernel_rfl⟩
end Go.Proofs.Ytmhbdalemgmfcaa.ZP
