import Derived.Test.YtaagolhokejflaaZ
import Derived.Test.YtaagolhokejflaaProg
namespace Go.Proofs.Ytaagolhokejflaa.ZP
open Go Go.Z Go.Proofs
instance i2 : Inf Try.prog 2 1 8 (.int .i64 0) := Inf.of (by kernel_rfl)
instance i3 : Inf Try.prog 3 1 8 (.int .i64 0) := Inf.of (by kernel_rfl)
instance i4 : Inf Try.prog 4 1 1 (.bool false) := Inf.of (by kernel_rfl)
instance i5 : Inf Try.prog 5 1 1 (.int .u8 0) := Inf.of (by kernel_rfl)
instance i6 : Inf Try.prog 6 1 1 (.int .u8 0) := Inf.of (by kernel_rfl)
instance i7 : Inf Try.prog 7 4 24 (.agg #[(.int .i64 0), (.int .i64 0), (.bool false), (.int .u8 0)]) := Inf.of (by kernel_rfl)
instance i8 : Inf Try.prog 8 4 24 (.agg #[(.int .i64 0), (.int .i64 0), (.bool false), (.int .u8 0)]) := Inf.of (by kernel_rfl)
instance i9 : Inf Try.prog 9 1 16 (.string ⟨#[]⟩) := Inf.of (by kernel_rfl)
instance i10 : Inf Try.prog 10 1 16 (.string ⟨#[]⟩) := Inf.of (by kernel_rfl)
instance i11 : Inf Try.prog 11 1 16 (.string ⟨#[]⟩) := Inf.of (by kernel_rfl)
instance i12 : Inf Try.prog 12 1 8 (.int .u64 0) := Inf.of (by kernel_rfl)
instance i13 : Inf Try.prog 13 2 24 (.agg #[(.string ⟨#[]⟩), (.int .u64 0)]) := Inf.of (by kernel_rfl)
instance i14 : Inf Try.prog 14 2 24 (.agg #[(.string ⟨#[]⟩), (.int .u64 0)]) := Inf.of (by kernel_rfl)
instance i15 : Inf Try.prog 15 1 8 (.pointer none) := Inf.of (by kernel_rfl)
instance i16 : Inf Try.prog 16 1 8 (.pointer none) := Inf.of (by kernel_rfl)
instance i17 : Inf Try.prog 17 1 8 (.pointer none) := Inf.of (by kernel_rfl)
instance i18 : Inf Try.prog 18 1 8 (.agg #[(.pointer none)]) := Inf.of (by kernel_rfl)
instance i19 : Inf Try.prog 19 1 8 (.agg #[(.pointer none)]) := Inf.of (by kernel_rfl)
instance i21 : Inf Try.prog 21 1 4 (.int .i32 0) := Inf.of (by kernel_rfl)
instance i23 : Inf Try.prog 23 1 8 (.pointer none) := Inf.of (by kernel_rfl)
instance i26 : Inf Try.prog 26 1 24 (.slice none 0 0) := Inf.of (by kernel_rfl)
instance i27 : Inf Try.prog 27 1 24 (.slice none 0 0) := Inf.of (by kernel_rfl)
instance i28 : Inf Try.prog 28 1 24 (.slice none 0 0) := Inf.of (by kernel_rfl)
instance i30 : Inf Try.prog 30 1 24 (.slice none 0 0) := Inf.of (by kernel_rfl)
instance i31 : Inf Try.prog 31 3 48 (.agg #[(.int .i64 0), (.string ⟨#[]⟩), (.slice none 0 0)]) := Inf.of (by kernel_rfl)
instance i32 : Inf Try.prog 32 3 48 (.agg #[(.int .i64 0), (.string ⟨#[]⟩), (.slice none 0 0)]) := Inf.of (by kernel_rfl)
instance i36 : Inf Try.prog 36 1 8 (.pointer none) := Inf.of (by kernel_rfl)
instance i37 : Inf Try.prog 37 2 32 (.agg #[(.slice none 0 0), (.int .i64 0)]) := Inf.of (by kernel_rfl)
instance i38 : Inf Try.prog 38 2 32 (.agg #[(.slice none 0 0), (.int .i64 0)]) := Inf.of (by kernel_rfl)
instance i42 : Inf Try.prog 42 1 24 (.slice none 0 0) := Inf.of (by kernel_rfl)
instance i46 : Inf Try.prog 46 2 32 (.agg #[(.string ⟨#[]⟩), (.string ⟨#[]⟩)]) := Inf.of (by kernel_rfl)
instance i47 : Inf Try.prog 47 2 32 (.agg #[(.string ⟨#[]⟩), (.string ⟨#[]⟩)]) := Inf.of (by kernel_rfl)
instance i54 : Inf Try.prog 54 1 24 (.slice none 0 0) := Inf.of (by kernel_rfl)
instance i55 : Inf Try.prog 55 1 8 (.pointer none) := Inf.of (by kernel_rfl)
instance i57 : Inf Try.prog 57 4 32 (.agg #[(.int .i64 0), (.int .i64 0), (.int .i64 0), (.int .i64 0)]) := Inf.of (by kernel_rfl)
instance i58 : Inf Try.prog 58 4 32 (.agg #[(.int .i64 0), (.int .i64 0), (.int .i64 0), (.int .i64 0)]) := Inf.of (by kernel_rfl)
instance i61 : Inf Try.prog 61 1 24 (.agg #[(.slice none 0 0)]) := Inf.of (by kernel_rfl)
instance i62 : Inf Try.prog 62 1 24 (.agg #[(.slice none 0 0)]) := Inf.of (by kernel_rfl)
instance i63 : Inf Try.prog 63 2 24 (.agg #[(.string ⟨#[]⟩), (.int .i64 0)]) := Inf.of (by kernel_rfl)
instance i64 : Inf Try.prog 64 2 24 (.agg #[(.string ⟨#[]⟩), (.int .i64 0)]) := Inf.of (by kernel_rfl)
instance i67 : Inf Try.prog 67 1 24 (.agg #[(.slice none 0 0)]) := Inf.of (by kernel_rfl)
instance i68 : Inf Try.prog 68 1 24 (.agg #[(.slice none 0 0)]) := Inf.of (by kernel_rfl)
instance i71 : Inf Try.prog 71 4 40 (.agg #[(.pointer none), (.pointer none), (.pointer none), (.string ⟨#[]⟩)]) := Inf.of (by kernel_rfl)
instance i72 : Inf Try.prog 72 4 40 (.agg #[(.pointer none), (.pointer none), (.pointer none), (.string ⟨#[]⟩)]) := Inf.of (by kernel_rfl)
instance i74 : Inf Try.prog 74 0 0 (.agg #[]) := Inf.of (by kernel_rfl)
instance i75 : Inf Try.prog 75 0 0 (.agg #[]) := Inf.of (by kernel_rfl)
instance i76 : Inf Try.prog 76 1 4 (.int .u32 0) := Inf.of (by kernel_rfl)
instance i77 : Inf Try.prog 77 1 1 (.int .u8 0) := Inf.of (by kernel_rfl)
instance i78 : Inf Try.prog 78 1 1 (.int .u8 0) := Inf.of (by kernel_rfl)
instance i80 : Inf Try.prog 80 1 8 (.pointer none) := Inf.of (by kernel_rfl)
instance i81 : Inf Try.prog 81 1 4 (.int .i32 0) := Inf.of (by kernel_rfl)
instance i82 : Inf Try.prog 82 1 4 (.int .i32 0) := Inf.of (by kernel_rfl)
instance i83 : Inf Try.prog 83 11 48 (.agg #[(.int .u64 0), (.int .u64 0), (.int .u32 0), (.int .u8 0), (.int .u8 0), (.int .u8 0), (.int .u8 0), .nilFunc, (.pointer none), (.int .i32 0), (.int .i32 0)]) := Inf.of (by kernel_rfl)
instance i84 : Inf Try.prog 84 11 48 (.agg #[(.int .u64 0), (.int .u64 0), (.int .u32 0), (.int .u8 0), (.int .u8 0), (.int .u8 0), (.int .u8 0), .nilFunc, (.pointer none), (.int .i32 0), (.int .i32 0)]) := Inf.of (by kernel_rfl)
instance u2 : Und Try.prog 2 (.int .i64) := ⟨Try.underlying2⟩
instance a2 : IsA Try.prog 2 false := IsA.no Try.underlying2 rfl
instance u3 : Und Try.prog 3 (.int .i64) := ⟨Try.underlying3⟩
instance a3 : IsA Try.prog 3 false := IsA.no Try.underlying3 rfl
instance u4 : Und Try.prog 4 .bool := ⟨Try.underlying4⟩
instance a4 : IsA Try.prog 4 false := IsA.no Try.underlying4 rfl
instance u5 : Und Try.prog 5 (.int .u8) := ⟨Try.underlying5⟩
instance a5 : IsA Try.prog 5 false := IsA.no Try.underlying5 rfl
instance u6 : Und Try.prog 6 (.int .u8) := ⟨Try.underlying6⟩
instance a6 : IsA Try.prog 6 false := IsA.no Try.underlying6 rfl
instance a7 : IsA Try.prog 7 true := IsA.yes Try.underlying7
instance f7_0 : FA Try.prog 7 0 0 := ⟨fun w b o => by kernel_rfl⟩
instance f7_1 : FA Try.prog 7 1 1 := ⟨fun w b o => by kernel_rfl⟩
instance f7_2 : FA Try.prog 7 2 2 := ⟨fun w b o => by kernel_rfl⟩
instance f7_3 : FA Try.prog 7 3 3 := ⟨fun w b o => by kernel_rfl⟩
instance a8 : IsA Try.prog 8 true := IsA.yes Try.underlying8
instance f8_0 : FA Try.prog 8 0 0 := ⟨fun w b o => by kernel_rfl⟩
instance f8_1 : FA Try.prog 8 1 1 := ⟨fun w b o => by kernel_rfl⟩
instance f8_2 : FA Try.prog 8 2 2 := ⟨fun w b o => by kernel_rfl⟩
instance f8_3 : FA Try.prog 8 3 3 := ⟨fun w b o => by kernel_rfl⟩
instance u9 : Und Try.prog 9 .string := ⟨Try.underlying9⟩
instance a9 : IsA Try.prog 9 false := IsA.no Try.underlying9 rfl
instance u10 : Und Try.prog 10 .string := ⟨Try.underlying10⟩
instance a10 : IsA Try.prog 10 false := IsA.no Try.underlying10 rfl
instance u11 : Und Try.prog 11 .string := ⟨Try.underlying11⟩
instance a11 : IsA Try.prog 11 false := IsA.no Try.underlying11 rfl
instance u12 : Und Try.prog 12 (.int .u64) := ⟨Try.underlying12⟩
instance a12 : IsA Try.prog 12 false := IsA.no Try.underlying12 rfl
instance a13 : IsA Try.prog 13 true := IsA.yes Try.underlying13
instance f13_0 : FA Try.prog 13 0 0 := ⟨fun w b o => by kernel_rfl⟩
instance f13_1 : FA Try.prog 13 1 1 := ⟨fun w b o => by kernel_rfl⟩
instance a14 : IsA Try.prog 14 true := IsA.yes Try.underlying14
instance f14_0 : FA Try.prog 14 0 0 := ⟨fun w b o => by kernel_rfl⟩
instance f14_1 : FA Try.prog 14 1 1 := ⟨fun w b o => by kernel_rfl⟩
instance u15 : Und Try.prog 15 (.pointer 72) := ⟨Try.underlying15⟩
instance a15 : IsA Try.prog 15 false := IsA.no Try.underlying15 rfl
instance u16 : Und Try.prog 16 (.pointer 75) := ⟨Try.underlying16⟩
instance a16 : IsA Try.prog 16 false := IsA.no Try.underlying16 rfl
instance u17 : Und Try.prog 17 (.pointer 84) := ⟨Try.underlying17⟩
instance a17 : IsA Try.prog 17 false := IsA.no Try.underlying17 rfl
instance a18 : IsA Try.prog 18 true := IsA.yes Try.underlying18
instance f18_0 : FA Try.prog 18 0 0 := ⟨fun w b o => by kernel_rfl⟩
instance a19 : IsA Try.prog 19 true := IsA.yes Try.underlying19
instance f19_0 : FA Try.prog 19 0 0 := ⟨fun w b o => by kernel_rfl⟩
instance u21 : Und Try.prog 21 (.int .i32) := ⟨Try.underlying21⟩
instance a21 : IsA Try.prog 21 false := IsA.no Try.underlying21 rfl
instance u23 : Und Try.prog 23 (.pointer 62) := ⟨Try.underlying23⟩
instance a23 : IsA Try.prog 23 false := IsA.no Try.underlying23 rfl
instance u26 : Und Try.prog 26 (.slice 9) := ⟨Try.underlying26⟩
instance a26 : IsA Try.prog 26 false := IsA.no Try.underlying26 rfl
instance u27 : Und Try.prog 27 (.slice 26) := ⟨Try.underlying27⟩
instance a27 : IsA Try.prog 27 false := IsA.no Try.underlying27 rfl
instance u28 : Und Try.prog 28 (.slice 3) := ⟨Try.underlying28⟩
instance a28 : IsA Try.prog 28 false := IsA.no Try.underlying28 rfl
instance u30 : Und Try.prog 30 (.slice 47) := ⟨Try.underlying30⟩
instance a30 : IsA Try.prog 30 false := IsA.no Try.underlying30 rfl
instance a31 : IsA Try.prog 31 true := IsA.yes Try.underlying31
instance f31_0 : FA Try.prog 31 0 0 := ⟨fun w b o => by kernel_rfl⟩
instance f31_1 : FA Try.prog 31 1 1 := ⟨fun w b o => by kernel_rfl⟩
instance f31_2 : FA Try.prog 31 2 2 := ⟨fun w b o => by kernel_rfl⟩
instance a32 : IsA Try.prog 32 true := IsA.yes Try.underlying32
instance f32_0 : FA Try.prog 32 0 0 := ⟨fun w b o => by kernel_rfl⟩
instance f32_1 : FA Try.prog 32 1 1 := ⟨fun w b o => by kernel_rfl⟩
instance f32_2 : FA Try.prog 32 2 2 := ⟨fun w b o => by kernel_rfl⟩
instance u36 : Und Try.prog 36 (.pointer 38) := ⟨Try.underlying36⟩
instance a36 : IsA Try.prog 36 false := IsA.no Try.underlying36 rfl
instance a37 : IsA Try.prog 37 true := IsA.yes Try.underlying37
instance f37_0 : FA Try.prog 37 0 0 := ⟨fun w b o => by kernel_rfl⟩
instance f37_1 : FA Try.prog 37 1 1 := ⟨fun w b o => by kernel_rfl⟩
instance a38 : IsA Try.prog 38 true := IsA.yes Try.underlying38
instance f38_0 : FA Try.prog 38 0 0 := ⟨fun w b o => by kernel_rfl⟩
instance f38_1 : FA Try.prog 38 1 1 := ⟨fun w b o => by kernel_rfl⟩
instance u42 : Und Try.prog 42 (.slice 32) := ⟨Try.underlying42⟩
instance a42 : IsA Try.prog 42 false := IsA.no Try.underlying42 rfl
instance a46 : IsA Try.prog 46 true := IsA.yes Try.underlying46
instance f46_0 : FA Try.prog 46 0 0 := ⟨fun w b o => by kernel_rfl⟩
instance f46_1 : FA Try.prog 46 1 1 := ⟨fun w b o => by kernel_rfl⟩
instance a47 : IsA Try.prog 47 true := IsA.yes Try.underlying47
instance f47_0 : FA Try.prog 47 0 0 := ⟨fun w b o => by kernel_rfl⟩
instance f47_1 : FA Try.prog 47 1 1 := ⟨fun w b o => by kernel_rfl⟩
instance u54 : Und Try.prog 54 (.slice 58) := ⟨Try.underlying54⟩
instance a54 : IsA Try.prog 54 false := IsA.no Try.underlying54 rfl
instance u55 : Und Try.prog 55 (.pointer 68) := ⟨Try.underlying55⟩
instance a55 : IsA Try.prog 55 false := IsA.no Try.underlying55 rfl
instance a57 : IsA Try.prog 57 true := IsA.yes Try.underlying57
instance f57_0 : FA Try.prog 57 0 0 := ⟨fun w b o => by kernel_rfl⟩
instance f57_1 : FA Try.prog 57 1 1 := ⟨fun w b o => by kernel_rfl⟩
instance f57_2 : FA Try.prog 57 2 2 := ⟨fun w b o => by kernel_rfl⟩
instance f57_3 : FA Try.prog 57 3 3 := ⟨fun w b o => by kernel_rfl⟩
instance a58 : IsA Try.prog 58 true := IsA.yes Try.underlying58
instance f58_0 : FA Try.prog 58 0 0 := ⟨fun w b o => by kernel_rfl⟩
instance f58_1 : FA Try.prog 58 1 1 := ⟨fun w b o => by kernel_rfl⟩
instance f58_2 : FA Try.prog 58 2 2 := ⟨fun w b o => by kernel_rfl⟩
instance f58_3 : FA Try.prog 58 3 3 := ⟨fun w b o => by kernel_rfl⟩
instance a61 : IsA Try.prog 61 true := IsA.yes Try.underlying61
instance f61_0 : FA Try.prog 61 0 0 := ⟨fun w b o => by kernel_rfl⟩
instance a62 : IsA Try.prog 62 true := IsA.yes Try.underlying62
instance f62_0 : FA Try.prog 62 0 0 := ⟨fun w b o => by kernel_rfl⟩
instance a63 : IsA Try.prog 63 true := IsA.yes Try.underlying63
instance f63_0 : FA Try.prog 63 0 0 := ⟨fun w b o => by kernel_rfl⟩
instance f63_1 : FA Try.prog 63 1 1 := ⟨fun w b o => by kernel_rfl⟩
instance a64 : IsA Try.prog 64 true := IsA.yes Try.underlying64
instance f64_0 : FA Try.prog 64 0 0 := ⟨fun w b o => by kernel_rfl⟩
instance f64_1 : FA Try.prog 64 1 1 := ⟨fun w b o => by kernel_rfl⟩
instance a67 : IsA Try.prog 67 true := IsA.yes Try.underlying67
instance f67_0 : FA Try.prog 67 0 0 := ⟨fun w b o => by kernel_rfl⟩
instance a68 : IsA Try.prog 68 true := IsA.yes Try.underlying68
instance f68_0 : FA Try.prog 68 0 0 := ⟨fun w b o => by kernel_rfl⟩
instance a71 : IsA Try.prog 71 true := IsA.yes Try.underlying71
instance f71_0 : FA Try.prog 71 0 0 := ⟨fun w b o => by kernel_rfl⟩
instance f71_1 : FA Try.prog 71 1 1 := ⟨fun w b o => by kernel_rfl⟩
instance f71_2 : FA Try.prog 71 2 2 := ⟨fun w b o => by kernel_rfl⟩
instance f71_3 : FA Try.prog 71 3 3 := ⟨fun w b o => by kernel_rfl⟩
instance a72 : IsA Try.prog 72 true := IsA.yes Try.underlying72
instance f72_0 : FA Try.prog 72 0 0 := ⟨fun w b o => by kernel_rfl⟩
instance f72_1 : FA Try.prog 72 1 1 := ⟨fun w b o => by kernel_rfl⟩
instance f72_2 : FA Try.prog 72 2 2 := ⟨fun w b o => by kernel_rfl⟩
instance f72_3 : FA Try.prog 72 3 3 := ⟨fun w b o => by kernel_rfl⟩
instance a74 : IsA Try.prog 74 true := IsA.yes Try.underlying74
instance a75 : IsA Try.prog 75 true := IsA.yes Try.underlying75
instance u76 : Und Try.prog 76 (.int .u32) := ⟨Try.underlying76⟩
instance a76 : IsA Try.prog 76 false := IsA.no Try.underlying76 rfl
instance u77 : Und Try.prog 77 (.int .u8) := ⟨Try.underlying77⟩
instance a77 : IsA Try.prog 77 false := IsA.no Try.underlying77 rfl
instance u78 : Und Try.prog 78 (.int .u8) := ⟨Try.underlying78⟩
instance a78 : IsA Try.prog 78 false := IsA.no Try.underlying78 rfl
instance u80 : Und Try.prog 80 (.pointer 5) := ⟨Try.underlying80⟩
instance a80 : IsA Try.prog 80 false := IsA.no Try.underlying80 rfl
instance u81 : Und Try.prog 81 (.int .i32) := ⟨Try.underlying81⟩
instance a81 : IsA Try.prog 81 false := IsA.no Try.underlying81 rfl
instance u82 : Und Try.prog 82 (.int .i32) := ⟨Try.underlying82⟩
instance a82 : IsA Try.prog 82 false := IsA.no Try.underlying82 rfl
instance a83 : IsA Try.prog 83 true := IsA.yes Try.underlying83
instance f83_0 : FA Try.prog 83 0 0 := ⟨fun w b o => by kernel_rfl⟩
instance f83_1 : FA Try.prog 83 1 1 := ⟨fun w b o => by kernel_rfl⟩
instance f83_2 : FA Try.prog 83 2 2 := ⟨fun w b o => by kernel_rfl⟩
instance f83_3 : FA Try.prog 83 3 3 := ⟨fun w b o => by kernel_rfl⟩
instance f83_4 : FA Try.prog 83 4 4 := ⟨fun w b o => by kernel_rfl⟩
instance f83_5 : FA Try.prog 83 5 5 := ⟨fun w b o => by kernel_rfl⟩
instance f83_6 : FA Try.prog 83 6 6 := ⟨fun w b o => by kernel_rfl⟩
instance f83_7 : FA Try.prog 83 7 7 := ⟨fun w b o => by kernel_rfl⟩
instance f83_8 : FA Try.prog 83 8 8 := ⟨fun w b o => by kernel_rfl⟩
instance f83_9 : FA Try.prog 83 9 9 := ⟨fun w b o => by kernel_rfl⟩
instance f83_10 : FA Try.prog 83 10 10 := ⟨fun w b o => by kernel_rfl⟩
instance a84 : IsA Try.prog 84 true := IsA.yes Try.underlying84
instance f84_0 : FA Try.prog 84 0 0 := ⟨fun w b o => by kernel_rfl⟩
instance f84_1 : FA Try.prog 84 1 1 := ⟨fun w b o => by kernel_rfl⟩
instance f84_2 : FA Try.prog 84 2 2 := ⟨fun w b o => by kernel_rfl⟩
instance f84_3 : FA Try.prog 84 3 3 := ⟨fun w b o => by kernel_rfl⟩
instance f84_4 : FA Try.prog 84 4 4 := ⟨fun w b o => by kernel_rfl⟩
instance f84_5 : FA Try.prog 84 5 5 := ⟨fun w b o => by kernel_rfl⟩
instance f84_6 : FA Try.prog 84 6 6 := ⟨fun w b o => by kernel_rfl⟩
instance f84_7 : FA Try.prog 84 7 7 := ⟨fun w b o => by kernel_rfl⟩
instance f84_8 : FA Try.prog 84 8 8 := ⟨fun w b o => by kernel_rfl⟩
instance f84_9 : FA Try.prog 84 9 9 := ⟨fun w b o => by kernel_rfl⟩
instance f84_10 : FA Try.prog 84 10 10 := ⟨fun w b o => by kernel_rfl⟩
instance c3 : IsFn Try.prog 3 := ⟨Try.f3, Try.func3, by kernel_rfl, by kernel_rfl⟩
instance c4 : IsFn Try.prog 4 := ⟨Try.f4, Try.func4, by kernel_rfl, by kernel_rfl⟩
instance c5 : IsFn Try.prog 5 := ⟨Try.f5, Try.func5, by kernel_rfl, by kernel_rfl⟩
instance c6 : IsFn Try.prog 6 := ⟨Try.f6, Try.func6, by kernel_rfl, by kernel_rfl⟩
instance c7 : IsFn Try.prog 7 := ⟨Try.f7, Try.func7, by kernel_rfl, by kernel_rfl⟩
instance c8 : IsFn Try.prog 8 := ⟨Try.f8, Try.func8, by kernel_rfl, by kernel_rfl⟩
instance c9 : IsFn Try.prog 9 := ⟨Try.f9, Try.func9, by kernel_rfl, by kernel_rfl⟩
instance c10 : IsFn Try.prog 10 := ⟨Try.f10, Try.func10, by kernel_rfl, by kernel_rfl⟩
instance c11 : IsFn Try.prog 11 := ⟨Try.f11, Try.func11, by kernel_rfl, by kernel_rfl⟩
instance c12 : IsFn Try.prog 12 := ⟨Try.f12, Try.func12, by kernel_rfl, by kernel_rfl⟩
instance c13 : IsFn Try.prog 13 := ⟨Try.f13, Try.func13, by kernel_rfl, by kernel_rfl⟩
instance c14 : IsFn Try.prog 14 := ⟨Try.f14, Try.func14, by kernel_rfl, by kernel_rfl⟩
instance c15 : IsFn Try.prog 15 := ⟨Try.f15, Try.func15, by kernel_rfl, by kernel_rfl⟩
instance c16 : IsFn Try.prog 16 := ⟨Try.f16, Try.func16, by kernel_rfl, by kernel_rfl⟩
instance c17 : IsFn Try.prog 17 := ⟨Try.f17, Try.func17, by kernel_rfl, by kernel_rfl⟩
instance c18 : IsFn Try.prog 18 := ⟨Try.f18, Try.func18, by kernel_rfl, by kernel_rfl⟩
instance c19 : IsFn Try.prog 19 := ⟨Try.f19, Try.func19, by kernel_rfl, by kernel_rfl⟩
instance c20 : IsFn Try.prog 20 := ⟨Try.f20, Try.func20, by kernel_rfl, by kernel_rfl⟩
instance c21 : IsFn Try.prog 21 := ⟨Try.f21, Try.func21, by kernel_rfl, by kernel_rfl⟩
instance c22 : IsFn Try.prog 22 := ⟨Try.f22, Try.func22, by kernel_rfl, by kernel_rfl⟩
instance c23 : IsFn Try.prog 23 := ⟨Try.f23, Try.func23, by kernel_rfl, by kernel_rfl⟩
instance c24 : IsFn Try.prog 24 := ⟨Try.f24, Try.func24, by kernel_rfl, by kernel_rfl⟩
instance c25 : IsFn Try.prog 25 := ⟨Try.f25, Try.func25, by kernel_rfl, by kernel_rfl⟩
instance c26 : IsFn Try.prog 26 := ⟨Try.f26, Try.func26, by kernel_rfl, by kernel_rfl⟩
instance c27 : IsFn Try.prog 27 := ⟨Try.f27, Try.func27, by kernel_rfl, by kernel_rfl⟩
instance c28 : IsFn Try.prog 28 := ⟨Try.f28, Try.func28, by kernel_rfl, by kernel_rfl⟩
instance c29 : IsFn Try.prog 29 := ⟨Try.f29, Try.func29, by kernel_rfl, by kernel_rfl⟩
instance c30 : IsFn Try.prog 30 := ⟨Try.f30, Try.func30, by kernel_rfl, by kernel_rfl⟩
instance c31 : IsFn Try.prog 31 := ⟨Try.f31, Try.func31, by kernel_rfl, by kernel_rfl⟩
instance c32 : IsFn Try.prog 32 := ⟨Try.f32, Try.func32, by kernel_rfl, by kernel_rfl⟩
instance c33 : IsFn Try.prog 33 := ⟨Try.f33, Try.func33, by kernel_rfl, by kernel_rfl⟩
instance c34 : IsFn Try.prog 34 := ⟨Try.f34, Try.func34, by kernel_rfl, by kernel_rfl⟩
instance c35 : IsFn Try.prog 35 := ⟨Try.f35, Try.func35, by kernel_rfl, by kernel_rfl⟩
instance c36 : IsFn Try.prog 36 := ⟨Try.f36, Try.func36, by kernel_rfl, by kernel_rfl⟩
instance c37 : IsFn Try.prog 37 := ⟨Try.f37, Try.func37, by kernel_rfl, by kernel_rfl⟩
instance c38 : IsFn Try.prog 38 := ⟨Try.f38, Try.func38, by kernel_rfl, by kernel_rfl⟩
instance c39 : IsFn Try.prog 39 := ⟨Try.f39, Try.func39, by kernel_rfl, by kernel_rfl⟩
instance c40 : IsFn Try.prog 40 := ⟨Try.f40, Try.func40, by kernel_rfl, by kernel_rfl⟩
instance c41 : IsFn Try.prog 41 := ⟨Try.f41, Try.func41, by kernel_rfl, by kernel_rfl⟩
instance c42 : IsFn Try.prog 42 := ⟨Try.f42, Try.func42, by kernel_rfl, by kernel_rfl⟩
instance c43 : IsFn Try.prog 43 := ⟨Try.f43, Try.func43, by kernel_rfl, by kernel_rfl⟩
instance c44 : IsFn Try.prog 44 := ⟨Try.f44, Try.func44, by kernel_rfl, by kernel_rfl⟩
instance c45 : IsFn Try.prog 45 := ⟨Try.f45, Try.func45, by kernel_rfl, by kernel_rfl⟩
instance c46 : IsFn Try.prog 46 := ⟨Try.f46, Try.func46, by kernel_rfl, by kernel_rfl⟩
instance c47 : IsFn Try.prog 47 := ⟨Try.f47, Try.func47, by kernel_rfl, by kernel_rfl⟩
instance c48 : IsFn Try.prog 48 := ⟨Try.f48, Try.func48, by kernel_rfl, by kernel_rfl⟩
instance c49 : IsFn Try.prog 49 := ⟨Try.f49, Try.func49, by kernel_rfl, by kernel_rfl⟩
instance c50 : IsFn Try.prog 50 := ⟨Try.f50, Try.func50, by kernel_rfl, by kernel_rfl⟩
end Go.Proofs.Ytaagolhokejflaa.ZP
