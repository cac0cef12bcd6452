import Derived.Test.YteeibieaapiomaaZ
import Derived.Test.YteeibieaapiomaaProg
namespace Go.Proofs.Yteeibieaapiomaa.ZP
open Go Go.Z Go.Proofs
instance i2 : Inf Try.prog 2 1 8 (.int .i64 0) := Inf.of (by kernel_rfl)
instance i3 : Inf Try.prog 3 1 8 (.int .i64 0) := Inf.of (by kernel_rfl)
instance i4 : Inf Try.prog 4 1 1 (.bool false) := Inf.of (by kernel_rfl)
instance i5 : Inf Try.prog 5 1 1 (.int .u8 0) := Inf.of (by kernel_rfl)
instance i6 : Inf Try.prog 6 1 1 (.int .u8 0) := Inf.of (by kernel_rfl)
instance i7 : Inf Try.prog 7 4 24 (.agg #[(.int .i64 0), (.int .i64 0), (.bool false), (.int .u8 0)]) := Inf.of (by kernel_rfl)
instance i8 : Inf Try.prog 8 4 24 (.agg #[(.int .i64 0), (.int .i64 0), (.bool false), (.int .u8 0)]) := Inf.of (by kernel_rfl)
instance i9 : Inf Try.prog 9 1 16 (.string ⟨#[]⟩) := Inf.of (by kernel_rfl)
instance i10 : Inf Try.prog 10 1 16 (.string ⟨#[]⟩) := Inf.of (by kernel_rfl)
instance i11 : Inf Try.prog 11 1 16 (.string ⟨#[]⟩) := Inf.of (by kernel_rfl)
instance i12 : Inf Try.prog 12 1 8 (.int .u64 0) := Inf.of (by kernel_rfl)
instance i13 : Inf Try.prog 13 2 24 (.agg #[(.string ⟨#[]⟩), (.int .u64 0)]) := Inf.of (by kernel_rfl)
instance i14 : Inf Try.prog 14 2 24 (.agg #[(.string ⟨#[]⟩), (.int .u64 0)]) := Inf.of (by kernel_rfl)
instance i15 : Inf Try.prog 15 1 8 (.pointer none) := Inf.of (by kernel_rfl)
instance i16 : Inf Try.prog 16 1 8 (.pointer none) := Inf.of (by kernel_rfl)
instance i17 : Inf Try.prog 17 1 8 (.pointer none) := Inf.of (by kernel_rfl)
instance i18 : Inf Try.prog 18 1 8 (.agg #[(.pointer none)]) := Inf.of (by kernel_rfl)
instance i19 : Inf Try.prog 19 1 8 (.agg #[(.pointer none)]) := Inf.of (by kernel_rfl)
instance i21 : Inf Try.prog 21 1 4 (.int .i32 0) := Inf.of (by kernel_rfl)
instance i22 : Inf Try.prog 22 1 24 (.slice none 0 0) := Inf.of (by kernel_rfl)
instance i24 : Inf Try.prog 24 1 8 (.pointer none) := Inf.of (by kernel_rfl)
instance i26 : Inf Try.prog 26 1 8 (.pointer none) := Inf.of (by kernel_rfl)
instance i28 : Inf Try.prog 28 1 8 (.pointer none) := Inf.of (by kernel_rfl)
instance i29 : Inf Try.prog 29 2 32 (.agg #[(.slice none 0 0), (.int .i64 0)]) := Inf.of (by kernel_rfl)
instance i30 : Inf Try.prog 30 2 32 (.agg #[(.slice none 0 0), (.int .i64 0)]) := Inf.of (by kernel_rfl)
instance i39 : Inf Try.prog 39 1 8 (.pointer none) := Inf.of (by kernel_rfl)
instance i42 : Inf Try.prog 42 1 24 (.slice none 0 0) := Inf.of (by kernel_rfl)
instance i44 : Inf Try.prog 44 3 48 (.agg #[(.int .i64 0), (.string ⟨#[]⟩), (.slice none 0 0)]) := Inf.of (by kernel_rfl)
instance i45 : Inf Try.prog 45 3 48 (.agg #[(.int .i64 0), (.string ⟨#[]⟩), (.slice none 0 0)]) := Inf.of (by kernel_rfl)
instance i48 : Inf Try.prog 48 1 24 (.slice none 0 0) := Inf.of (by kernel_rfl)
instance i50 : Inf Try.prog 50 1 24 (.slice none 0 0) := Inf.of (by kernel_rfl)
instance i51 : Inf Try.prog 51 7 104 (.agg #[(.int .i64 0), (.int .i64 0), (.string ⟨#[]⟩), (.slice none 0 0), (.string ⟨#[]⟩), (.int .i64 0), (.slice none 0 0)]) := Inf.of (by kernel_rfl)
instance i52 : Inf Try.prog 52 7 104 (.agg #[(.int .i64 0), (.int .i64 0), (.string ⟨#[]⟩), (.slice none 0 0), (.string ⟨#[]⟩), (.int .i64 0), (.slice none 0 0)]) := Inf.of (by kernel_rfl)
instance i55 : Inf Try.prog 55 1 8 (.pointer none) := Inf.of (by kernel_rfl)
instance i58 : Inf Try.prog 58 1 24 (.slice none 0 0) := Inf.of (by kernel_rfl)
instance i65 : Inf Try.prog 65 1 24 (.slice none 0 0) := Inf.of (by kernel_rfl)
instance i68 : Inf Try.prog 68 1 24 (.slice none 0 0) := Inf.of (by kernel_rfl)
instance i69 : Inf Try.prog 69 1 8 (.map none) := Inf.of (by kernel_rfl)
instance i70 : Inf Try.prog 70 1 24 (.slice none 0 0) := Inf.of (by kernel_rfl)
instance i71 : Inf Try.prog 71 6 80 (.agg #[(.pointer none), (.pointer none), (.slice none 0 0), (.slice none 0 0), (.map none), (.bool false)]) := Inf.of (by kernel_rfl)
instance i72 : Inf Try.prog 72 6 80 (.agg #[(.pointer none), (.pointer none), (.slice none 0 0), (.slice none 0 0), (.map none), (.bool false)]) := Inf.of (by kernel_rfl)
instance i73 : Inf Try.prog 73 3 32 (.agg #[(.int .i64 0), (.int .i64 0), (.string ⟨#[]⟩)]) := Inf.of (by kernel_rfl)
instance i74 : Inf Try.prog 74 3 32 (.agg #[(.int .i64 0), (.int .i64 0), (.string ⟨#[]⟩)]) := Inf.of (by kernel_rfl)
instance i76 : Inf Try.prog 76 1 8 (.pointer none) := Inf.of (by kernel_rfl)
instance i78 : Inf Try.prog 78 1 24 (.slice none 0 0) := Inf.of (by kernel_rfl)
instance i79 : Inf Try.prog 79 7 112 (.agg #[(.int .i64 0), (.int .i64 0), (.string ⟨#[]⟩), (.slice none 0 0), (.slice none 0 0), (.int .i64 0), (.slice none 0 0)]) := Inf.of (by kernel_rfl)
instance i80 : Inf Try.prog 80 7 112 (.agg #[(.int .i64 0), (.int .i64 0), (.string ⟨#[]⟩), (.slice none 0 0), (.slice none 0 0), (.int .i64 0), (.slice none 0 0)]) := Inf.of (by kernel_rfl)
instance i88 : Inf Try.prog 88 2 32 (.agg #[(.string ⟨#[]⟩), (.string ⟨#[]⟩)]) := Inf.of (by kernel_rfl)
instance i89 : Inf Try.prog 89 2 32 (.agg #[(.string ⟨#[]⟩), (.string ⟨#[]⟩)]) := Inf.of (by kernel_rfl)
instance i90 : Inf Try.prog 90 1 24 (.agg #[(.slice none 0 0)]) := Inf.of (by kernel_rfl)
instance i91 : Inf Try.prog 91 1 24 (.agg #[(.slice none 0 0)]) := Inf.of (by kernel_rfl)
instance i92 : Inf Try.prog 92 2 24 (.agg #[(.string ⟨#[]⟩), (.int .i64 0)]) := Inf.of (by kernel_rfl)
instance i93 : Inf Try.prog 93 2 24 (.agg #[(.string ⟨#[]⟩), (.int .i64 0)]) := Inf.of (by kernel_rfl)
instance i100 : Inf Try.prog 100 1 24 (.slice none 0 0) := Inf.of (by kernel_rfl)
instance i101 : Inf Try.prog 101 1 24 (.agg #[(.slice none 0 0)]) := Inf.of (by kernel_rfl)
instance i102 : Inf Try.prog 102 1 24 (.agg #[(.slice none 0 0)]) := Inf.of (by kernel_rfl)
instance i103 : Inf Try.prog 103 1 8 (.pointer none) := Inf.of (by kernel_rfl)
instance i105 : Inf Try.prog 105 1 8 (.pointer none) := Inf.of (by kernel_rfl)
instance i107 : Inf Try.prog 107 4 48 (.agg #[(.pointer none), (.pointer none), (.slice none 0 0), (.bool false)]) := Inf.of (by kernel_rfl)
instance i108 : Inf Try.prog 108 4 48 (.agg #[(.pointer none), (.pointer none), (.slice none 0 0), (.bool false)]) := Inf.of (by kernel_rfl)
instance i121 : Inf Try.prog 121 1 24 (.slice none 0 0) := Inf.of (by kernel_rfl)
instance i122 : Inf Try.prog 122 3 72 (.agg #[(.slice none 0 0), (.slice none 0 0), (.slice none 0 0)]) := Inf.of (by kernel_rfl)
instance i123 : Inf Try.prog 123 3 72 (.agg #[(.slice none 0 0), (.slice none 0 0), (.slice none 0 0)]) := Inf.of (by kernel_rfl)
instance i124 : Inf Try.prog 124 1 24 (.agg #[(.slice none 0 0)]) := Inf.of (by kernel_rfl)
instance i125 : Inf Try.prog 125 1 24 (.agg #[(.slice none 0 0)]) := Inf.of (by kernel_rfl)
instance i133 : Inf Try.prog 133 4 40 (.agg #[(.pointer none), (.pointer none), (.pointer none), (.string ⟨#[]⟩)]) := Inf.of (by kernel_rfl)
instance i134 : Inf Try.prog 134 4 40 (.agg #[(.pointer none), (.pointer none), (.pointer none), (.string ⟨#[]⟩)]) := Inf.of (by kernel_rfl)
instance i136 : Inf Try.prog 136 0 0 (.agg #[]) := Inf.of (by kernel_rfl)
instance i137 : Inf Try.prog 137 0 0 (.agg #[]) := Inf.of (by kernel_rfl)
instance i138 : Inf Try.prog 138 1 4 (.int .u32 0) := Inf.of (by kernel_rfl)
instance i139 : Inf Try.prog 139 1 1 (.int .u8 0) := Inf.of (by kernel_rfl)
instance i140 : Inf Try.prog 140 1 1 (.int .u8 0) := Inf.of (by kernel_rfl)
instance i142 : Inf Try.prog 142 1 8 (.pointer none) := Inf.of (by kernel_rfl)
instance i143 : Inf Try.prog 143 1 4 (.int .i32 0) := Inf.of (by kernel_rfl)
instance i144 : Inf Try.prog 144 1 4 (.int .i32 0) := Inf.of (by kernel_rfl)
instance i145 : Inf Try.prog 145 11 48 (.agg #[(.int .u64 0), (.int .u64 0), (.int .u32 0), (.int .u8 0), (.int .u8 0), (.int .u8 0), (.int .u8 0), .nilFunc, (.pointer none), (.int .i32 0), (.int .i32 0)]) := Inf.of (by kernel_rfl)
instance i146 : Inf Try.prog 146 11 48 (.agg #[(.int .u64 0), (.int .u64 0), (.int .u32 0), (.int .u8 0), (.int .u8 0), (.int .u8 0), (.int .u8 0), .nilFunc, (.pointer none), (.int .i32 0), (.int .i32 0)]) := Inf.of (by kernel_rfl)
instance u2 : Und Try.prog 2 (.int .i64) := ⟨Try.underlying2⟩
instance a2 : IsA Try.prog 2 false := IsA.no Try.underlying2 rfl
instance u3 : Und Try.prog 3 (.int .i64) := ⟨Try.underlying3⟩
instance a3 : IsA Try.prog 3 false := IsA.no Try.underlying3 rfl
instance u4 : Und Try.prog 4 .bool := ⟨Try.underlying4⟩
instance a4 : IsA Try.prog 4 false := IsA.no Try.underlying4 rfl
instance u5 : Und Try.prog 5 (.int .u8) := ⟨Try.underlying5⟩
instance a5 : IsA Try.prog 5 false := IsA.no Try.underlying5 rfl
instance u6 : Und Try.prog 6 (.int .u8) := ⟨Try.underlying6⟩
instance a6 : IsA Try.prog 6 false := IsA.no Try.underlying6 rfl
instance a7 : IsA Try.prog 7 true := IsA.yes Try.underlying7
instance f7_0 : FA Try.prog 7 0 0 := ⟨fun w b o => by kernel_rfl⟩
instance f7_1 : FA Try.prog 7 1 1 := ⟨fun w b o => by kernel_rfl⟩
instance f7_2 : FA Try.prog 7 2 2 := ⟨fun w b o => by kernel_rfl⟩
instance f7_3 : FA Try.prog 7 3 3 := ⟨fun w b o => by kernel_rfl⟩
instance a8 : IsA Try.prog 8 true := IsA.yes Try.underlying8
instance f8_0 : FA Try.prog 8 0 0 := ⟨fun w b o => by kernel_rfl⟩
instance f8_1 : FA Try.prog 8 1 1 := ⟨fun w b o => by kernel_rfl⟩
instance f8_2 : FA Try.prog 8 2 2 := ⟨fun w b o => by kernel_rfl⟩
instance f8_3 : FA Try.prog 8 3 3 := ⟨fun w b o => by kernel_rfl⟩
instance u9 : Und Try.prog 9 .string := ⟨Try.underlying9⟩
instance a9 : IsA Try.prog 9 false := IsA.no Try.underlying9 rfl
instance u10 : Und Try.prog 10 .string := ⟨Try.underlying10⟩
instance a10 : IsA Try.prog 10 false := IsA.no Try.underlying10 rfl
instance u11 : Und Try.prog 11 .string := ⟨Try.underlying11⟩
instance a11 : IsA Try.prog 11 false := IsA.no Try.underlying11 rfl
instance u12 : Und Try.prog 12 (.int .u64) := ⟨Try.underlying12⟩
instance a12 : IsA Try.prog 12 false := IsA.no Try.underlying12 rfl
instance a13 : IsA Try.prog 13 true := IsA.yes Try.underlying13
instance f13_0 : FA Try.prog 13 0 0 := ⟨fun w b o => by kernel_rfl⟩
instance f13_1 : FA Try.prog 13 1 1 := ⟨fun w b o => by kernel_rfl⟩
instance a14 : IsA Try.prog 14 true := IsA.yes Try.underlying14
instance f14_0 : FA Try.prog 14 0 0 := ⟨fun w b o => by kernel_rfl⟩
instance f14_1 : FA Try.prog 14 1 1 := ⟨fun w b o => by kernel_rfl⟩
instance u15 : Und Try.prog 15 (.pointer 134) := ⟨Try.underlying15⟩
instance a15 : IsA Try.prog 15 false := IsA.no Try.underlying15 rfl
instance u16 : Und Try.prog 16 (.pointer 137) := ⟨Try.underlying16⟩
instance a16 : IsA Try.prog 16 false := IsA.no Try.underlying16 rfl
instance u17 : Und Try.prog 17 (.pointer 146) := ⟨Try.underlying17⟩
instance a17 : IsA Try.prog 17 false := IsA.no Try.underlying17 rfl
instance a18 : IsA Try.prog 18 true := IsA.yes Try.underlying18
instance f18_0 : FA Try.prog 18 0 0 := ⟨fun w b o => by kernel_rfl⟩
instance a19 : IsA Try.prog 19 true := IsA.yes Try.underlying19
instance f19_0 : FA Try.prog 19 0 0 := ⟨fun w b o => by kernel_rfl⟩
instance u21 : Und Try.prog 21 (.int .i32) := ⟨Try.underlying21⟩
instance a21 : IsA Try.prog 21 false := IsA.no Try.underlying21 rfl
instance u22 : Und Try.prog 22 (.slice 3) := ⟨Try.underlying22⟩
instance a22 : IsA Try.prog 22 false := IsA.no Try.underlying22 rfl
instance u24 : Und Try.prog 24 (.pointer 72) := ⟨Try.underlying24⟩
instance a24 : IsA Try.prog 24 false := IsA.no Try.underlying24 rfl
instance u26 : Und Try.prog 26 (.pointer 102) := ⟨Try.underlying26⟩
instance a26 : IsA Try.prog 26 false := IsA.no Try.underlying26 rfl
instance u28 : Und Try.prog 28 (.pointer 30) := ⟨Try.underlying28⟩
instance a28 : IsA Try.prog 28 false := IsA.no Try.underlying28 rfl
instance a29 : IsA Try.prog 29 true := IsA.yes Try.underlying29
instance f29_0 : FA Try.prog 29 0 0 := ⟨fun w b o => by kernel_rfl⟩
instance f29_1 : FA Try.prog 29 1 1 := ⟨fun w b o => by kernel_rfl⟩
instance a30 : IsA Try.prog 30 true := IsA.yes Try.underlying30
instance f30_0 : FA Try.prog 30 0 0 := ⟨fun w b o => by kernel_rfl⟩
instance f30_1 : FA Try.prog 30 1 1 := ⟨fun w b o => by kernel_rfl⟩
instance u39 : Und Try.prog 39 (.pointer 91) := ⟨Try.underlying39⟩
instance a39 : IsA Try.prog 39 false := IsA.no Try.underlying39 rfl
instance u42 : Und Try.prog 42 (.slice 89) := ⟨Try.underlying42⟩
instance a42 : IsA Try.prog 42 false := IsA.no Try.underlying42 rfl
instance a44 : IsA Try.prog 44 true := IsA.yes Try.underlying44
instance f44_0 : FA Try.prog 44 0 0 := ⟨fun w b o => by kernel_rfl⟩
instance f44_1 : FA Try.prog 44 1 1 := ⟨fun w b o => by kernel_rfl⟩
instance f44_2 : FA Try.prog 44 2 2 := ⟨fun w b o => by kernel_rfl⟩
instance a45 : IsA Try.prog 45 true := IsA.yes Try.underlying45
instance f45_0 : FA Try.prog 45 0 0 := ⟨fun w b o => by kernel_rfl⟩
instance f45_1 : FA Try.prog 45 1 1 := ⟨fun w b o => by kernel_rfl⟩
instance f45_2 : FA Try.prog 45 2 2 := ⟨fun w b o => by kernel_rfl⟩
instance u48 : Und Try.prog 48 (.slice 45) := ⟨Try.underlying48⟩
instance a48 : IsA Try.prog 48 false := IsA.no Try.underlying48 rfl
instance u50 : Und Try.prog 50 (.slice 52) := ⟨Try.underlying50⟩
instance a50 : IsA Try.prog 50 false := IsA.no Try.underlying50 rfl
instance a51 : IsA Try.prog 51 true := IsA.yes Try.underlying51
instance f51_0 : FA Try.prog 51 0 0 := ⟨fun w b o => by kernel_rfl⟩
instance f51_1 : FA Try.prog 51 1 1 := ⟨fun w b o => by kernel_rfl⟩
instance f51_2 : FA Try.prog 51 2 2 := ⟨fun w b o => by kernel_rfl⟩
instance f51_3 : FA Try.prog 51 3 3 := ⟨fun w b o => by kernel_rfl⟩
instance f51_4 : FA Try.prog 51 4 4 := ⟨fun w b o => by kernel_rfl⟩
instance f51_5 : FA Try.prog 51 5 5 := ⟨fun w b o => by kernel_rfl⟩
instance f51_6 : FA Try.prog 51 6 6 := ⟨fun w b o => by kernel_rfl⟩
instance a52 : IsA Try.prog 52 true := IsA.yes Try.underlying52
instance f52_0 : FA Try.prog 52 0 0 := ⟨fun w b o => by kernel_rfl⟩
instance f52_1 : FA Try.prog 52 1 1 := ⟨fun w b o => by kernel_rfl⟩
instance f52_2 : FA Try.prog 52 2 2 := ⟨fun w b o => by kernel_rfl⟩
instance f52_3 : FA Try.prog 52 3 3 := ⟨fun w b o => by kernel_rfl⟩
instance f52_4 : FA Try.prog 52 4 4 := ⟨fun w b o => by kernel_rfl⟩
instance f52_5 : FA Try.prog 52 5 5 := ⟨fun w b o => by kernel_rfl⟩
instance f52_6 : FA Try.prog 52 6 6 := ⟨fun w b o => by kernel_rfl⟩
instance u55 : Und Try.prog 55 (.pointer 108) := ⟨Try.underlying55⟩
instance a55 : IsA Try.prog 55 false := IsA.no Try.underlying55 rfl
instance u58 : Und Try.prog 58 (.slice 9) := ⟨Try.underlying58⟩
instance a58 : IsA Try.prog 58 false := IsA.no Try.underlying58 rfl
instance u65 : Und Try.prog 65 (.slice 58) := ⟨Try.underlying65⟩
instance a65 : IsA Try.prog 65 false := IsA.no Try.underlying65 rfl
instance u68 : Und Try.prog 68 (.slice 4) := ⟨Try.underlying68⟩
instance a68 : IsA Try.prog 68 false := IsA.no Try.underlying68 rfl
instance u69 : Und Try.prog 69 (.map 9 3) := ⟨Try.underlying69⟩
instance a69 : IsA Try.prog 69 false := IsA.no Try.underlying69 rfl
instance u70 : Und Try.prog 70 (.slice 74) := ⟨Try.underlying70⟩
instance a70 : IsA Try.prog 70 false := IsA.no Try.underlying70 rfl
instance a71 : IsA Try.prog 71 true := IsA.yes Try.underlying71
instance f71_0 : FA Try.prog 71 0 0 := ⟨fun w b o => by kernel_rfl⟩
instance f71_1 : FA Try.prog 71 1 1 := ⟨fun w b o => by kernel_rfl⟩
instance f71_2 : FA Try.prog 71 2 2 := ⟨fun w b o => by kernel_rfl⟩
instance f71_3 : FA Try.prog 71 3 3 := ⟨fun w b o => by kernel_rfl⟩
instance f71_4 : FA Try.prog 71 4 4 := ⟨fun w b o => by kernel_rfl⟩
instance f71_5 : FA Try.prog 71 5 5 := ⟨fun w b o => by kernel_rfl⟩
instance a72 : IsA Try.prog 72 true := IsA.yes Try.underlying72
instance f72_0 : FA Try.prog 72 0 0 := ⟨fun w b o => by kernel_rfl⟩
instance f72_1 : FA Try.prog 72 1 1 := ⟨fun w b o => by kernel_rfl⟩
instance f72_2 : FA Try.prog 72 2 2 := ⟨fun w b o => by kernel_rfl⟩
instance f72_3 : FA Try.prog 72 3 3 := ⟨fun w b o => by kernel_rfl⟩
instance f72_4 : FA Try.prog 72 4 4 := ⟨fun w b o => by kernel_rfl⟩
instance f72_5 : FA Try.prog 72 5 5 := ⟨fun w b o => by kernel_rfl⟩
instance a73 : IsA Try.prog 73 true := IsA.yes Try.underlying73
instance f73_0 : FA Try.prog 73 0 0 := ⟨fun w b o => by kernel_rfl⟩
instance f73_1 : FA Try.prog 73 1 1 := ⟨fun w b o => by kernel_rfl⟩
instance f73_2 : FA Try.prog 73 2 2 := ⟨fun w b o => by kernel_rfl⟩
instance a74 : IsA Try.prog 74 true := IsA.yes Try.underlying74
instance f74_0 : FA Try.prog 74 0 0 := ⟨fun w b o => by kernel_rfl⟩
instance f74_1 : FA Try.prog 74 1 1 := ⟨fun w b o => by kernel_rfl⟩
instance f74_2 : FA Try.prog 74 2 2 := ⟨fun w b o => by kernel_rfl⟩
instance u76 : Und Try.prog 76 (.pointer 80) := ⟨Try.underlying76⟩
instance a76 : IsA Try.prog 76 false := IsA.no Try.underlying76 rfl
instance u78 : Und Try.prog 78 (.slice 5) := ⟨Try.underlying78⟩
instance a78 : IsA Try.prog 78 false := IsA.no Try.underlying78 rfl
instance a79 : IsA Try.prog 79 true := IsA.yes Try.underlying79
instance f79_0 : FA Try.prog 79 0 0 := ⟨fun w b o => by kernel_rfl⟩
instance f79_1 : FA Try.prog 79 1 1 := ⟨fun w b o => by kernel_rfl⟩
instance f79_2 : FA Try.prog 79 2 2 := ⟨fun w b o => by kernel_rfl⟩
instance f79_3 : FA Try.prog 79 3 3 := ⟨fun w b o => by kernel_rfl⟩
instance f79_4 : FA Try.prog 79 4 4 := ⟨fun w b o => by kernel_rfl⟩
instance f79_5 : FA Try.prog 79 5 5 := ⟨fun w b o => by kernel_rfl⟩
instance f79_6 : FA Try.prog 79 6 6 := ⟨fun w b o => by kernel_rfl⟩
instance a80 : IsA Try.prog 80 true := IsA.yes Try.underlying80
instance f80_0 : FA Try.prog 80 0 0 := ⟨fun w b o => by kernel_rfl⟩
instance f80_1 : FA Try.prog 80 1 1 := ⟨fun w b o => by kernel_rfl⟩
instance f80_2 : FA Try.prog 80 2 2 := ⟨fun w b o => by kernel_rfl⟩
instance f80_3 : FA Try.prog 80 3 3 := ⟨fun w b o => by kernel_rfl⟩
instance f80_4 : FA Try.prog 80 4 4 := ⟨fun w b o => by kernel_rfl⟩
instance f80_5 : FA Try.prog 80 5 5 := ⟨fun w b o => by kernel_rfl⟩
instance f80_6 : FA Try.prog 80 6 6 := ⟨fun w b o => by kernel_rfl⟩
instance a88 : IsA Try.prog 88 true := IsA.yes Try.underlying88
instance f88_0 : FA Try.prog 88 0 0 := ⟨fun w b o => by kernel_rfl⟩
instance f88_1 : FA Try.prog 88 1 1 := ⟨fun w b o => by kernel_rfl⟩
instance a89 : IsA Try.prog 89 true := IsA.yes Try.underlying89
instance f89_0 : FA Try.prog 89 0 0 := ⟨fun w b o => by kernel_rfl⟩
instance f89_1 : FA Try.prog 89 1 1 := ⟨fun w b o => by kernel_rfl⟩
instance a90 : IsA Try.prog 90 true := IsA.yes Try.underlying90
instance f90_0 : FA Try.prog 90 0 0 := ⟨fun w b o => by kernel_rfl⟩
instance a91 : IsA Try.prog 91 true := IsA.yes Try.underlying91
instance f91_0 : FA Try.prog 91 0 0 := ⟨fun w b o => by kernel_rfl⟩
instance a92 : IsA Try.prog 92 true := IsA.yes Try.underlying92
instance f92_0 : FA Try.prog 92 0 0 := ⟨fun w b o => by kernel_rfl⟩
instance f92_1 : FA Try.prog 92 1 1 := ⟨fun w b o => by kernel_rfl⟩
instance a93 : IsA Try.prog 93 true := IsA.yes Try.underlying93
instance f93_0 : FA Try.prog 93 0 0 := ⟨fun w b o => by kernel_rfl⟩
instance f93_1 : FA Try.prog 93 1 1 := ⟨fun w b o => by kernel_rfl⟩
instance u100 : Und Try.prog 100 (.slice 76) := ⟨Try.underlying100⟩
instance a100 : IsA Try.prog 100 false := IsA.no Try.underlying100 rfl
instance a101 : IsA Try.prog 101 true := IsA.yes Try.underlying101
instance f101_0 : FA Try.prog 101 0 0 := ⟨fun w b o => by kernel_rfl⟩
instance a102 : IsA Try.prog 102 true := IsA.yes Try.underlying102
instance f102_0 : FA Try.prog 102 0 0 := ⟨fun w b o => by kernel_rfl⟩
instance u103 : Und Try.prog 103 (.pointer 123) := ⟨Try.underlying103⟩
instance a103 : IsA Try.prog 103 false := IsA.no Try.underlying103 rfl
instance u105 : Und Try.prog 105 (.pointer 125) := ⟨Try.underlying105⟩
instance a105 : IsA Try.prog 105 false := IsA.no Try.underlying105 rfl
instance a107 : IsA Try.prog 107 true := IsA.yes Try.underlying107
instance f107_0 : FA Try.prog 107 0 0 := ⟨fun w b o => by kernel_rfl⟩
instance f107_1 : FA Try.prog 107 1 1 := ⟨fun w b o => by kernel_rfl⟩
instance f107_2 : FA Try.prog 107 2 2 := ⟨fun w b o => by kernel_rfl⟩
instance f107_3 : FA Try.prog 107 3 3 := ⟨fun w b o => by kernel_rfl⟩
instance a108 : IsA Try.prog 108 true := IsA.yes Try.underlying108
instance f108_0 : FA Try.prog 108 0 0 := ⟨fun w b o => by kernel_rfl⟩
instance f108_1 : FA Try.prog 108 1 1 := ⟨fun w b o => by kernel_rfl⟩
instance f108_2 : FA Try.prog 108 2 2 := ⟨fun w b o => by kernel_rfl⟩
instance f108_3 : FA Try.prog 108 3 3 := ⟨fun w b o => by kernel_rfl⟩
instance u121 : Und Try.prog 121 (.slice 22) := ⟨Try.underlying121⟩
instance a121 : IsA Try.prog 121 false := IsA.no Try.underlying121 rfl
instance a122 : IsA Try.prog 122 true := IsA.yes Try.underlying122
instance f122_0 : FA Try.prog 122 0 0 := ⟨fun w b o => by kernel_rfl⟩
instance f122_1 : FA Try.prog 122 1 1 := ⟨fun w b o => by kernel_rfl⟩
instance f122_2 : FA Try.prog 122 2 2 := ⟨fun w b o => by kernel_rfl⟩
instance a123 : IsA Try.prog 123 true := IsA.yes Try.underlying123
instance f123_0 : FA Try.prog 123 0 0 := ⟨fun w b o => by kernel_rfl⟩
instance f123_1 : FA Try.prog 123 1 1 := ⟨fun w b o => by kernel_rfl⟩
instance f123_2 : FA Try.prog 123 2 2 := ⟨fun w b o => by kernel_rfl⟩
instance a124 : IsA Try.prog 124 true := IsA.yes Try.underlying124
instance f124_0 : FA Try.prog 124 0 0 := ⟨fun w b o => by kernel_rfl⟩
instance a125 : IsA Try.prog 125 true := IsA.yes Try.underlying125
instance f125_0 : FA Try.prog 125 0 0 := ⟨fun w b o => by kernel_rfl⟩
instance a133 : IsA Try.prog 133 true := IsA.yes Try.underlying133
instance f133_0 : FA Try.prog 133 0 0 := ⟨fun w b o => by kernel_rfl⟩
instance f133_1 : FA Try.prog 133 1 1 := ⟨fun w b o => by kernel_rfl⟩
instance f133_2 : FA Try.prog 133 2 2 := ⟨fun w b o => by kernel_rfl⟩
instance f133_3 : FA Try.prog 133 3 3 := ⟨fun w b o => by kernel_rfl⟩
instance a134 : IsA Try.prog 134 true := IsA.yes Try.underlying134
instance f134_0 : FA Try.prog 134 0 0 := ⟨fun w b o => by kernel_rfl⟩
instance f134_1 : FA Try.prog 134 1 1 := ⟨fun w b o => by kernel_rfl⟩
instance f134_2 : FA Try.prog 134 2 2 := ⟨fun w b o => by kernel_rfl⟩
instance f134_3 : FA Try.prog 134 3 3 := ⟨fun w b o => by kernel_rfl⟩
instance a136 : IsA Try.prog 136 true := IsA.yes Try.underlying136
instance a137 : IsA Try.prog 137 true := IsA.yes Try.underlying137
instance u138 : Und Try.prog 138 (.int .u32) := ⟨Try.underlying138⟩
instance a138 : IsA Try.prog 138 false := IsA.no Try.underlying138 rfl
instance u139 : Und Try.prog 139 (.int .u8) := ⟨Try.underlying139⟩
instance a139 : IsA Try.prog 139 false := IsA.no Try.underlying139 rfl
instance u140 : Und Try.prog 140 (.int .u8) := ⟨Try.underlying140⟩
instance a140 : IsA Try.prog 140 false := IsA.no Try.underlying140 rfl
instance u142 : Und Try.prog 142 (.pointer 5) := ⟨Try.underlying142⟩
instance a142 : IsA Try.prog 142 false := IsA.no Try.underlying142 rfl
instance u143 : Und Try.prog 143 (.int .i32) := ⟨Try.underlying143⟩
instance a143 : IsA Try.prog 143 false := IsA.no Try.underlying143 rfl
instance u144 : Und Try.prog 144 (.int .i32) := ⟨Try.underlying144⟩
instance a144 : IsA Try.prog 144 false := IsA.no Try.underlying144 rfl
instance a145 : IsA Try.prog 145 true := IsA.yes Try.underlying145
instance f145_0 : FA Try.prog 145 0 0 := ⟨fun w b o => by kernel_rfl⟩
instance f145_1 : FA Try.prog 145 1 1 := ⟨fun w b o => by kernel_rfl⟩
instance f145_2 : FA Try.prog 145 2 2 := ⟨fun w b o => by kernel_rfl⟩
instance f145_3 : FA Try.prog 145 3 3 := ⟨fun w b o => by kernel_rfl⟩
instance f145_4 : FA Try.prog 145 4 4 := ⟨fun w b o => by kernel_rfl⟩
instance f145_5 : FA Try.prog 145 5 5 := ⟨fun w b o => by kernel_rfl⟩
instance f145_6 : FA Try.prog 145 6 6 := ⟨fun w b o => by kernel_rfl⟩
instance f145_7 : FA Try.prog 145 7 7 := ⟨fun w b o => by kernel_rfl⟩
instance f145_8 : FA Try.prog 145 8 8 := ⟨fun w b o => by kernel_rfl⟩
instance f145_9 : FA Try.prog 145 9 9 := ⟨fun w b o => by kernel_rfl⟩
instance f145_10 : FA Try.prog 145 10 10 := ⟨fun w b o => by kernel_rfl⟩
instance a146 : IsA Try.prog 146 true := IsA.yes Try.underlying146
instance f146_0 : FA Try.prog 146 0 0 := ⟨fun w b o => by kernel_rfl⟩
instance f146_1 : FA Try.prog 146 1 1 := ⟨fun w b o => by kernel_rfl⟩
instance f146_2 : FA Try.prog 146 2 2 := ⟨fun w b o => by kernel_rfl⟩
instance f146_3 : FA Try.prog 146 3 3 := ⟨fun w b o => by kernel_rfl⟩
instance f146_4 : FA Try.prog 146 4 4 := ⟨fun w b o => by kernel_rfl⟩
instance f146_5 : FA Try.prog 146 5 5 := ⟨fun w b o => by kernel_rfl⟩
instance f146_6 : FA Try.prog 146 6 6 := ⟨fun w b o => by kernel_rfl⟩
instance f146_7 : FA Try.prog 146 7 7 := ⟨fun w b o => by kernel_rfl⟩
instance f146_8 : FA Try.prog 146 8 8 := ⟨fun w b o => by kernel_rfl⟩
instance f146_9 : FA Try.prog 146 9 9 := ⟨fun w b o => by kernel_rfl⟩
instance f146_10 : FA Try.prog 146 10 10 := ⟨fun w b o => by kernel_rfl⟩
instance c3 : IsFn Try.prog 3 := ⟨Try.f3, Try.func3, by kernel_rfl, by kernel_rfl⟩
instance c4 : IsFn Try.prog 4 := ⟨Try.f4, Try.func4, by kernel_rfl, by kernel_rfl⟩
instance c5 : IsFn Try.prog 5 := ⟨Try.f5, Try.func5, by kernel_rfl, by kernel_rfl⟩
instance c6 : IsFn Try.prog 6 := ⟨Try.f6, Try.func6, by kernel_rfl, by kernel_rfl⟩
instance c7 : IsFn Try.prog 7 := ⟨Try.f7, Try.func7, by kernel_rfl, by kernel_rfl⟩
instance c8 : IsFn Try.prog 8 := ⟨Try.f8, Try.func8, by kernel_rfl, by kernel_rfl⟩
instance c9 : IsFn Try.prog 9 := ⟨Try.f9, Try.func9, by kernel_rfl, by kernel_rfl⟩
instance c10 : IsFn Try.prog 10 := ⟨Try.f10, Try.func10, by kernel_rfl, by kernel_rfl⟩
instance c11 : IsFn Try.prog 11 := ⟨Try.f11, Try.func11, by kernel_rfl, by kernel_rfl⟩
instance c12 : IsFn Try.prog 12 := ⟨Try.f12, Try.func12, by kernel_rfl, by kernel_rfl⟩
instance c13 : IsFn Try.prog 13 := ⟨Try.f13, Try.func13, by kernel_rfl, by kernel_rfl⟩
instance c14 : IsFn Try.prog 14 := ⟨Try.f14, Try.func14, by kernel_rfl, by kernel_rfl⟩
instance c15 : IsFn Try.prog 15 := ⟨Try.f15, Try.func15, by kernel_rfl, by kernel_rfl⟩
instance c16 : IsFn Try.prog 16 := ⟨Try.f16, Try.func16, by kernel_rfl, by kernel_rfl⟩
instance c17 : IsFn Try.prog 17 := ⟨Try.f17, Try.func17, by kernel_rfl, by kernel_rfl⟩
instance c18 : IsFn Try.prog 18 := ⟨Try.f18, Try.func18, by kernel_rfl, by kernel_rfl⟩
instance c19 : IsFn Try.prog 19 := ⟨Try.f19, Try.func19, by kernel_rfl, by kernel_rfl⟩
instance c20 : IsFn Try.prog 20 := ⟨Try.f20, Try.func20, by kernel_rfl, by kernel_rfl⟩
instance c21 : IsFn Try.prog 21 := ⟨Try.f21, Try.func21, by kernel_rfl, by kernel_rfl⟩
instance c22 : IsFn Try.prog 22 := ⟨Try.f22, Try.func22, by kernel_rfl, by kernel_rfl⟩
instance c23 : IsFn Try.prog 23 := ⟨Try.f23, Try.func23, by kernel_rfl, by kernel_rfl⟩
instance c24 : IsFn Try.prog 24 := ⟨Try.f24, Try.func24, by kernel_rfl, by kernel_rfl⟩
instance c25 : IsFn Try.prog 25 := ⟨Try.f25, Try.func25, by kernel_rfl, by kernel_rfl⟩
instance c26 : IsFn Try.prog 26 := ⟨Try.f26, Try.func26, by kernel_rfl, by kernel_rfl⟩
instance c27 : IsFn Try.prog 27 := ⟨Try.f27, Try.func27, by kernel_rfl, by kernel_rfl⟩
instance c28 : IsFn Try.prog 28 := ⟨Try.f28, Try.func28, by kernel_rfl, by kernel_rfl⟩
instance c29 : IsFn Try.prog 29 := ⟨Try.f29, Try.func29, by kernel_rfl, by kernel_rfl⟩
instance c30 : IsFn Try.prog 30 := ⟨Try.f30, Try.func30, by kernel_rfl, by kernel_rfl⟩
instance c31 : IsFn Try.prog 31 := ⟨Try.f31, Try.func31, by kernel_rfl, by kernel_rfl⟩
instance c32 : IsFn Try.prog 32 := ⟨Try.f32, Try.func32, by kernel_rfl, by kernel_rfl⟩
instance c33 : IsFn Try.prog 33 := ⟨Try.f33, Try.func33, by kernel_rfl, by kernel_rfl⟩
instance c34 : IsFn Try.prog 34 := ⟨Try.f34, Try.func34, by kernel_rfl, by kernel_rfl⟩
instance c35 : IsFn Try.prog 35 := ⟨Try.f35, Try.func35, by kernel_rfl, by kernel_rfl⟩
instance c36 : IsFn Try.prog 36 := ⟨Try.f36, Try.func36, by kernel_rfl, by kernel_rfl⟩
instance c37 : IsFn Try.prog 37 := ⟨Try.f37, Try.func37, by kernel_rfl, by kernel_rfl⟩
instance c38 : IsFn Try.prog 38 := ⟨Try.f38, Try.func38, by kernel_rfl, by kernel_rfl⟩
instance c39 : IsFn Try.prog 39 := ⟨Try.f39, Try.func39, by kernel_rfl, by kernel_rfl⟩
instance c40 : IsFn Try.prog 40 := ⟨Try.f40, Try.func40, by kernel_rfl, by kernel_rfl⟩
instance c41 : IsFn Try.prog 41 := ⟨Try.f41, Try.func41, by kernel_rfl, by kernel_rfl⟩
instance c42 : IsFn Try.prog 42 := ⟨Try.f42, Try.func42, by kernel_rfl, by kernel_rfl⟩
instance c43 : IsFn Try.prog 43 := ⟨Try.f43, Try.func43, by kernel_rfl, by kernel_rfl⟩
instance c44 : IsFn Try.prog 44 := ⟨Try.f44, Try.func44, by kernel_rfl, by kernel_rfl⟩
instance c45 : IsFn Try.prog 45 := ⟨Try.f45, Try.func45, by kernel_rfl, by kernel_rfl⟩
instance c46 : IsFn Try.prog 46 := ⟨Try.f46, Try.func46, by kernel_rfl, by kernel_rfl⟩
instance c47 : IsFn Try.prog 47 := ⟨Try.f47, Try.func47, by kernel_rfl, by kernel_rfl⟩
instance c48 : IsFn Try.prog 48 := ⟨Try.f48, Try.func48, by kernel_rfl, by kernel_rfl⟩
instance c49 : IsFn Try.prog 49 := ⟨Try.f49, Try.func49, by kernel_rfl, by kernel_rfl⟩
instance c50 : IsFn Try.prog 50 := ⟨Try.f50, Try.func50, by kernel_rfl, by kernel_rfl⟩
instance c51 : IsFn Try.prog 51 := ⟨Try.f51, Try.func51, by kernel_rfl, by kernel_rfl⟩
instance c52 : IsFn Try.prog 52 := ⟨Try.f52, Try.func52, by kernel_rfl, by kernel_rfl⟩
instance c53 : IsFn Try.prog 53 := ⟨Try.f53, Try.func53, by kernel_rfl, by kernel_rfl⟩
instance c54 : IsFn Try.prog 54 := ⟨Try.f54, Try.func54, by kernel_rfl, by kernel_rfl⟩
instance c55 : IsFn Try.prog 55 := ⟨Try.f55, Try.func55, by kernel_rfl, by kernel_rfl⟩
instance c56 : IsFn Try.prog 56 := ⟨Try.f56, Try.func56, by kernel_rfl, by kernel_rfl⟩
instance c57 : IsFn Try.prog 57 := ⟨Try.f57, Try.func57, by kernel_rfl, by kernel_rfl⟩
instance c58 : IsFn Try.prog 58 := ⟨Try.f58, Try.func58, by kernel_rfl, by kernel_rfl⟩
instance c59 : IsFn Try.prog 59 := ⟨Try.f59, Try.func59, by kernel_rfl, by kernel_rfl⟩
instance c60 : IsFn Try.prog 60 := ⟨Try.f60, Try.func60, by kernel_rfl, by kernel_rfl⟩
instance c61 : IsFn Try.prog 61 := ⟨Try.f61, Try.func61, by kernel_rfl, by kernel_rfl⟩
instance c62 : IsFn Try.prog 62 := ⟨Try.f62, Try.func62, by kernel_rfl, by kernel_rfl⟩
instance c63 : IsFn Try.prog 63 := ⟨Try.f63, Try.func63, by kernel_rfl, by kernel_rfl⟩
instance c64 : IsFn Try.prog 64 := ⟨Try.f64, Try.func64, by kernel_rfl, by kernel_rfl⟩
instance c65 : IsFn Try.prog 65 := ⟨Try.f65, Try.func65, by kernel_rfl, by kernel_rfl⟩
instance c66 : IsFn Try.prog 66 := ⟨Try.f66, Try.func66, by kernel_rfl, by kernel_rfl⟩
instance c67 : IsFn Try.prog 67 := ⟨Try.f67, Try.func67, by kernel_rfl, by kernel_rfl⟩
instance c68 : IsFn Try.prog 68 := ⟨Try.f68, Try.func68, by kernel_rfl, by kernel_rfl⟩
instance c69 : IsFn Try.prog 69 := ⟨Try.f69, Try.func69, by kernel_rfl, by kernel_rfl⟩
instance c70 : IsFn Try.prog 70 := ⟨Try.f70, Try.func70, by kernel_rfl, by kernel_rfl⟩
instance c71 : IsFn Try.prog 71 := ⟨Try.f71, Try.func71, by kernel_rfl, by kernel_rfl⟩
instance c72 : IsFn Try.prog 72 := ⟨Try.f72, Try.func72, by kernel_rfl, by kernel_rfl⟩
instance c73 : IsFn Try.prog 73 := ⟨Try.f73, Try.func73, by kernel_rfl, by kernel_rfl⟩
instance c74 : IsFn Try.prog 74 := ⟨Try.f74, Try.func74, by kernel_rfl, by kernel_rfl⟩
instance c75 : IsFn Try.prog 75 := ⟨Try.f75, Try.func75, by kernel_rfl, by kernel_rfl⟩
instance c76 : IsFn Try.prog 76 := ⟨Try.f76, Try.func76, by kernel_rfl, by kernel_rfl⟩
instance c77 : IsFn Try.prog 77 := ⟨Try.f77, Try.func77, by kernel_rfl, by kernel_rfl⟩
instance c78 : IsFn Try.prog 78 := ⟨Try.f78, Try.func78, by kernel_rfl, by kernel_rfl⟩
instance c79 : IsFn Try.prog 79 := ⟨Try.f79, Try.func79, by kernel_rfl, by kernel_rfl⟩
instance c80 : IsFn Try.prog 80 := ⟨Try.f80, Try.func80, by kernel_rfl, by kernel_rfl⟩
instance c81 : IsFn Try.prog 81 := ⟨Try.f81, Try.func81, by kernel_rfl, by kernel_rfl⟩
instance c82 : IsFn Try.prog 82 := ⟨Try.f82, Try.func82, by kernel_rfl, by kernel_rfl⟩
instance c83 : IsFn Try.prog 83 := ⟨Try.f83, Try.func83, by kernel_rfl, by kernel_rfl⟩
instance c84 : IsFn Try.prog 84 := ⟨Try.f84, Try.func84, by kernel_rfl, by kernel_rfl⟩
instance c86 : IsFn Try.prog 86 := ⟨Try.f86, Try.func86, by kernel_rfl, by kernel_rfl⟩
instance c87 : IsFn Try.prog 87 := ⟨Try.f87, Try.func87, by kernel_rfl, by kernel_rfl⟩
instance c88 : IsFn Try.prog 88 := ⟨Try.f88, Try.func88, by kernel_rfl, by kernel_rfl⟩
instance c89 : IsFn Try.prog 89 := ⟨Try.f89, Try.func89, by kernel_rfl, by kernel_rfl⟩
instance c90 : IsFn Try.prog 90 := ⟨Try.f90, Try.func90, by kernel_rfl, by kernel_rfl⟩
instance c91 : IsFn Try.prog 91 := ⟨Try.f91, Try.func91, by kernel_rfl, by kernel_rfl⟩
instance c92 : IsFn Try.prog 92 := ⟨Try.f92, Try.func92, by kernel_rfl, by kernel_rfl⟩
instance c93 : IsFn Try.prog 93 := ⟨Try.f93, Try.func93, by kernel_rfl, by kernel_rfl⟩
instance c94 : IsFn Try.prog 94 := ⟨Try.f94, Try.func94, by kernel_rfl, by kernel_rfl⟩
instance c95 : IsFn Try.prog 95 := ⟨Try.f95, Try.func95, by kernel_rfl, by kernel_rfl⟩
instance c96 : IsFn Try.prog 96 := ⟨Try.f96, Try.func96, by kernel_rfl, by kernel_rfl⟩
instance c97 : IsFn Try.prog 97 := ⟨Try.f97, Try.func97, by kernel_rfl, by kernel_rfl⟩
instance c98 : IsFn Try.prog 98 := ⟨Try.f98, Try.func98, by kernel_rfl, by kernel_rfl⟩
instance c99 : IsFn Try.prog 99 := ⟨Try.f99, Try.func99, by kernel_rfl, by kernel_rfl⟩
instance c100 : IsFn Try.prog 100 := ⟨Try.f100, Try.func100, by kernel_rfl, by kernel_rfl⟩
instance c101 : IsFn Try.prog 101 := ⟨Try.f101, Try.func101, by kernel_rfl, by kernel_rfl⟩
instance c102 : IsFn Try.prog 102 := ⟨Try.f102, Try.func102, by kernel_rfl, by kernel_rfl⟩
instance c103 : IsFn Try.prog 103 := ⟨Try.f103, Try.func103, by kernel_rfl, by kernel_rfl⟩
instance c104 : IsFn Try.prog 104 := ⟨Try.f104, Try.func104, by kernel_rfl, by kernel_rfl⟩
instance c105 : IsFn Try.prog 105 := ⟨Try.f105, Try.func105, by kernel_rfl, by kernel_rfl⟩
instance c106 : IsFn Try.prog 106 := ⟨Try.f106, Try.func106, by kernel_rfl, by kernel_rfl⟩
instance c107 : IsFn Try.prog 107 := ⟨Try.f107, Try.func107, by kernel_rfl, by kernel_rfl⟩
instance c108 : IsFn Try.prog 108 := ⟨Try.f108, Try.func108, by kernel_rfl, by kernel_rfl⟩
instance c109 : IsFn Try.prog 109 := ⟨Try.f109, Try.func109, by kernel_rfl, by kernel_rfl⟩
instance c110 : IsFn Try.prog 110 := ⟨Try.f110, Try.func110, by kernel_rfl, by kernel_rfl⟩
end Go.Proofs.Yteeibieaapiomaa.ZP
