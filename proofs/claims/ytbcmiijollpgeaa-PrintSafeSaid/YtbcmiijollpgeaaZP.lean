import Derived.Test.YtbcmiijollpgeaaZ
import Derived.Test.YtbcmiijollpgeaaProg
namespace Go.Proofs.Ytbcmiijollpgeaa.ZP
open Go Go.Z Go.Proofs
instance i2 : Inf Try.prog 2 1 8 (.int .i64 0) := Inf.of (by kernel_rfl)
instance i3 : Inf Try.prog 3 1 8 (.int .i64 0) := Inf.of (by kernel_rfl)
instance i4 : Inf Try.prog 4 1 1 (.bool false) := Inf.of (by kernel_rfl)
instance i5 : Inf Try.prog 5 1 1 (.int .u8 0) := Inf.of (by kernel_rfl)
instance i6 : Inf Try.prog 6 1 1 (.int .u8 0) := Inf.of (by kernel_rfl)
instance i7 : Inf Try.prog 7 4 24 (.agg #[(.int .i64 0), (.int .i64 0), (.bool false), (.int .u8 0)]) := Inf.of (by kernel_rfl)
instance i8 : Inf Try.prog 8 4 24 (.agg #[(.int .i64 0), (.int .i64 0), (.bool false), (.int .u8 0)]) := Inf.of (by kernel_rfl)
instance i9 : Inf Try.prog 9 1 16 (.string ⟨#[]⟩) := Inf.of (by kernel_rfl)
instance i10 : Inf Try.prog 10 1 16 (.string ⟨#[]⟩) := Inf.of (by kernel_rfl)
instance i11 : Inf Try.prog 11 1 16 (.string ⟨#[]⟩) := Inf.of (by kernel_rfl)
instance i12 : Inf Try.prog 12 1 8 (.int .u64 0) := Inf.of (by kernel_rfl)
instance i13 : Inf Try.prog 13 2 24 (.agg #[(.string ⟨#[]⟩), (.int .u64 0)]) := Inf.of (by kernel_rfl)
instance i14 : Inf Try.prog 14 2 24 (.agg #[(.string ⟨#[]⟩), (.int .u64 0)]) := Inf.of (by kernel_rfl)
instance i15 : Inf Try.prog 15 1 8 (.pointer none) := Inf.of (by kernel_rfl)
instance i16 : Inf Try.prog 16 1 8 (.pointer none) := Inf.of (by kernel_rfl)
instance i17 : Inf Try.prog 17 1 8 (.pointer none) := Inf.of (by kernel_rfl)
instance i18 : Inf Try.prog 18 1 8 (.agg #[(.pointer none)]) := Inf.of (by kernel_rfl)
instance i19 : Inf Try.prog 19 1 8 (.agg #[(.pointer none)]) := Inf.of (by kernel_rfl)
instance i21 : Inf Try.prog 21 1 4 (.int .i32 0) := Inf.of (by kernel_rfl)
instance i22 : Inf Try.prog 22 1 24 (.slice none 0 0) := Inf.of (by kernel_rfl)
instance i23 : Inf Try.prog 23 1 24 (.slice none 0 0) := Inf.of (by kernel_rfl)
instance i24 : Inf Try.prog 24 1 24 (.slice none 0 0) := Inf.of (by kernel_rfl)
instance i28 : Inf Try.prog 28 1 8 (.pointer none) := Inf.of (by kernel_rfl)
instance i29 : Inf Try.prog 29 2 32 (.agg #[(.slice none 0 0), (.int .i64 0)]) := Inf.of (by kernel_rfl)
instance i30 : Inf Try.prog 30 2 32 (.agg #[(.slice none 0 0), (.int .i64 0)]) := Inf.of (by kernel_rfl)
instance i32 : Inf Try.prog 32 2 32 (.agg #[(.string ⟨#[]⟩), (.string ⟨#[]⟩)]) := Inf.of (by kernel_rfl)
instance i33 : Inf Try.prog 33 2 32 (.agg #[(.string ⟨#[]⟩), (.string ⟨#[]⟩)]) := Inf.of (by kernel_rfl)
instance i37 : Inf Try.prog 37 5 104 (.agg #[(.string ⟨#[]⟩), (.slice none 0 0), (.string ⟨#[]⟩), (.slice none 0 0), (.slice none 0 0)]) := Inf.of (by kernel_rfl)
instance i38 : Inf Try.prog 38 5 104 (.agg #[(.string ⟨#[]⟩), (.slice none 0 0), (.string ⟨#[]⟩), (.slice none 0 0), (.slice none 0 0)]) := Inf.of (by kernel_rfl)
instance i45 : Inf Try.prog 45 1 24 (.slice none 0 0) := Inf.of (by kernel_rfl)
instance i46 : Inf Try.prog 46 1 24 (.slice none 0 0) := Inf.of (by kernel_rfl)
instance i52 : Inf Try.prog 52 1 8 (.pointer none) := Inf.of (by kernel_rfl)
instance i53 : Inf Try.prog 53 1 8 (.pointer none) := Inf.of (by kernel_rfl)
instance i54 : Inf Try.prog 54 1 24 (.slice none 0 0) := Inf.of (by kernel_rfl)
instance i55 : Inf Try.prog 55 2 32 (.agg #[(.pointer none), (.slice none 0 0)]) := Inf.of (by kernel_rfl)
instance i56 : Inf Try.prog 56 2 32 (.agg #[(.pointer none), (.slice none 0 0)]) := Inf.of (by kernel_rfl)
instance i57 : Inf Try.prog 57 2 32 (.agg #[(.pointer none), (.slice none 0 0)]) := Inf.of (by kernel_rfl)
instance i58 : Inf Try.prog 58 2 32 (.agg #[(.pointer none), (.slice none 0 0)]) := Inf.of (by kernel_rfl)
instance i64 : Inf Try.prog 64 1 8 (.pointer none) := Inf.of (by kernel_rfl)
instance i72 : Inf Try.prog 72 1 8 (.pointer none) := Inf.of (by kernel_rfl)
instance i75 : Inf Try.prog 75 1 16 .nilIface := Inf.of (by kernel_rfl)
instance i89 : Inf Try.prog 89 6 88 (.agg #[(.string ⟨#[]⟩), (.string ⟨#[]⟩), (.int .i64 0), (.string ⟨#[]⟩), (.string ⟨#[]⟩), (.string ⟨#[]⟩)]) := Inf.of (by kernel_rfl)
instance i90 : Inf Try.prog 90 6 88 (.agg #[(.string ⟨#[]⟩), (.string ⟨#[]⟩), (.int .i64 0), (.string ⟨#[]⟩), (.string ⟨#[]⟩), (.string ⟨#[]⟩)]) := Inf.of (by kernel_rfl)
instance i95 : Inf Try.prog 95 1 24 (.slice none 0 0) := Inf.of (by kernel_rfl)
instance i97 : Inf Try.prog 97 2 32 (.agg #[(.string ⟨#[]⟩), (.string ⟨#[]⟩)]) := Inf.of (by kernel_rfl)
instance i98 : Inf Try.prog 98 2 32 (.agg #[(.string ⟨#[]⟩), (.string ⟨#[]⟩)]) := Inf.of (by kernel_rfl)
instance i109 : Inf Try.prog 109 1 8 (.int .u64 0) := Inf.of (by kernel_rfl)
instance i111 : Inf Try.prog 111 4 40 (.agg #[(.pointer none), (.pointer none), (.pointer none), (.string ⟨#[]⟩)]) := Inf.of (by kernel_rfl)
instance i112 : Inf Try.prog 112 4 40 (.agg #[(.pointer none), (.pointer none), (.pointer none), (.string ⟨#[]⟩)]) := Inf.of (by kernel_rfl)
instance i114 : Inf Try.prog 114 0 0 (.agg #[]) := Inf.of (by kernel_rfl)
instance i115 : Inf Try.prog 115 0 0 (.agg #[]) := Inf.of (by kernel_rfl)
instance i117 : Inf Try.prog 117 1 4 (.int .u32 0) := Inf.of (by kernel_rfl)
instance i118 : Inf Try.prog 118 1 1 (.int .u8 0) := Inf.of (by kernel_rfl)
instance i119 : Inf Try.prog 119 1 1 (.int .u8 0) := Inf.of (by kernel_rfl)
instance i121 : Inf Try.prog 121 1 4 (.int .i32 0) := Inf.of (by kernel_rfl)
instance i122 : Inf Try.prog 122 1 4 (.int .i32 0) := Inf.of (by kernel_rfl)
instance i123 : Inf Try.prog 123 11 48 (.agg #[(.int .u64 0), (.int .u64 0), (.int .u32 0), (.int .u8 0), (.int .u8 0), (.int .u8 0), (.int .u8 0), .nilFunc, (.pointer none), (.int .i32 0), (.int .i32 0)]) := Inf.of (by kernel_rfl)
instance i124 : Inf Try.prog 124 11 48 (.agg #[(.int .u64 0), (.int .u64 0), (.int .u32 0), (.int .u8 0), (.int .u8 0), (.int .u8 0), (.int .u8 0), .nilFunc, (.pointer none), (.int .i32 0), (.int .i32 0)]) := Inf.of (by kernel_rfl)
instance u2 : Und Try.prog 2 (.int .i64) := ⟨Try.underlying2⟩
instance a2 : IsA Try.prog 2 false := IsA.no Try.underlying2 rfl
instance u3 : Und Try.prog 3 (.int .i64) := ⟨Try.underlying3⟩
instance a3 : IsA Try.prog 3 false := IsA.no Try.underlying3 rfl
instance u4 : Und Try.prog 4 .bool := ⟨Try.underlying4⟩
instance a4 : IsA Try.prog 4 false := IsA.no Try.underlying4 rfl
instance u5 : Und Try.prog 5 (.int .u8) := ⟨Try.underlying5⟩
instance a5 : IsA Try.prog 5 false := IsA.no Try.underlying5 rfl
instance u6 : Und Try.prog 6 (.int .u8) := ⟨Try.underlying6⟩
instance a6 : IsA Try.prog 6 false := IsA.no Try.underlying6 rfl
instance a7 : IsA Try.prog 7 true := IsA.yes Try.underlying7
instance f7_0 : FA Try.prog 7 0 0 := ⟨fun w b o => by kernel_rfl⟩
instance f7_1 : FA Try.prog 7 1 1 := ⟨fun w b o => by kernel_rfl⟩
instance f7_2 : FA Try.prog 7 2 2 := ⟨fun w b o => by kernel_rfl⟩
instance f7_3 : FA Try.prog 7 3 3 := ⟨fun w b o => by kernel_rfl⟩
instance a8 : IsA Try.prog 8 true := IsA.yes Try.underlying8
instance f8_0 : FA Try.prog 8 0 0 := ⟨fun w b o => by kernel_rfl⟩
instance f8_1 : FA Try.prog 8 1 1 := ⟨fun w b o => by kernel_rfl⟩
instance f8_2 : FA Try.prog 8 2 2 := ⟨fun w b o => by kernel_rfl⟩
instance f8_3 : FA Try.prog 8 3 3 := ⟨fun w b o => by kernel_rfl⟩
instance u9 : Und Try.prog 9 .string := ⟨Try.underlying9⟩
instance a9 : IsA Try.prog 9 false := IsA.no Try.underlying9 rfl
instance u10 : Und Try.prog 10 .string := ⟨Try.underlying10⟩
instance a10 : IsA Try.prog 10 false := IsA.no Try.underlying10 rfl
instance u11 : Und Try.prog 11 .string := ⟨Try.underlying11⟩
instance a11 : IsA Try.prog 11 false := IsA.no Try.underlying11 rfl
instance u12 : Und Try.prog 12 (.int .u64) := ⟨Try.underlying12⟩
instance a12 : IsA Try.prog 12 false := IsA.no Try.underlying12 rfl
instance a13 : IsA Try.prog 13 true := IsA.yes Try.underlying13
instance f13_0 : FA Try.prog 13 0 0 := ⟨fun w b o => by kernel_rfl⟩
instance f13_1 : FA Try.prog 13 1 1 := ⟨fun w b o => by kernel_rfl⟩
instance a14 : IsA Try.prog 14 true := IsA.yes Try.underlying14
instance f14_0 : FA Try.prog 14 0 0 := ⟨fun w b o => by kernel_rfl⟩
instance f14_1 : FA Try.prog 14 1 1 := ⟨fun w b o => by kernel_rfl⟩
instance u15 : Und Try.prog 15 (.pointer 112) := ⟨Try.underlying15⟩
instance a15 : IsA Try.prog 15 false := IsA.no Try.underlying15 rfl
instance u16 : Und Try.prog 16 (.pointer 115) := ⟨Try.underlying16⟩
instance a16 : IsA Try.prog 16 false := IsA.no Try.underlying16 rfl
instance u17 : Und Try.prog 17 (.pointer 124) := ⟨Try.underlying17⟩
instance a17 : IsA Try.prog 17 false := IsA.no Try.underlying17 rfl
instance a18 : IsA Try.prog 18 true := IsA.yes Try.underlying18
instance f18_0 : FA Try.prog 18 0 0 := ⟨fun w b o => by kernel_rfl⟩
instance a19 : IsA Try.prog 19 true := IsA.yes Try.underlying19
instance f19_0 : FA Try.prog 19 0 0 := ⟨fun w b o => by kernel_rfl⟩
instance u21 : Und Try.prog 21 (.int .i32) := ⟨Try.underlying21⟩
instance a21 : IsA Try.prog 21 false := IsA.no Try.underlying21 rfl
instance u22 : Und Try.prog 22 (.slice 3) := ⟨Try.underlying22⟩
instance a22 : IsA Try.prog 22 false := IsA.no Try.underlying22 rfl
instance u23 : Und Try.prog 23 (.slice 38) := ⟨Try.underlying23⟩
instance a23 : IsA Try.prog 23 false := IsA.no Try.underlying23 rfl
instance u24 : Und Try.prog 24 (.slice 33) := ⟨Try.underlying24⟩
instance a24 : IsA Try.prog 24 false := IsA.no Try.underlying24 rfl
instance u28 : Und Try.prog 28 (.pointer 30) := ⟨Try.underlying28⟩
instance a28 : IsA Try.prog 28 false := IsA.no Try.underlying28 rfl
instance a29 : IsA Try.prog 29 true := IsA.yes Try.underlying29
instance f29_0 : FA Try.prog 29 0 0 := ⟨fun w b o => by kernel_rfl⟩
instance f29_1 : FA Try.prog 29 1 1 := ⟨fun w b o => by kernel_rfl⟩
instance a30 : IsA Try.prog 30 true := IsA.yes Try.underlying30
instance f30_0 : FA Try.prog 30 0 0 := ⟨fun w b o => by kernel_rfl⟩
instance f30_1 : FA Try.prog 30 1 1 := ⟨fun w b o => by kernel_rfl⟩
instance a32 : IsA Try.prog 32 true := IsA.yes Try.underlying32
instance f32_0 : FA Try.prog 32 0 0 := ⟨fun w b o => by kernel_rfl⟩
instance f32_1 : FA Try.prog 32 1 1 := ⟨fun w b o => by kernel_rfl⟩
instance a33 : IsA Try.prog 33 true := IsA.yes Try.underlying33
instance f33_0 : FA Try.prog 33 0 0 := ⟨fun w b o => by kernel_rfl⟩
instance f33_1 : FA Try.prog 33 1 1 := ⟨fun w b o => by kernel_rfl⟩
instance a37 : IsA Try.prog 37 true := IsA.yes Try.underlying37
instance f37_0 : FA Try.prog 37 0 0 := ⟨fun w b o => by kernel_rfl⟩
instance f37_1 : FA Try.prog 37 1 1 := ⟨fun w b o => by kernel_rfl⟩
instance f37_2 : FA Try.prog 37 2 2 := ⟨fun w b o => by kernel_rfl⟩
instance f37_3 : FA Try.prog 37 3 3 := ⟨fun w b o => by kernel_rfl⟩
instance f37_4 : FA Try.prog 37 4 4 := ⟨fun w b o => by kernel_rfl⟩
instance a38 : IsA Try.prog 38 true := IsA.yes Try.underlying38
instance f38_0 : FA Try.prog 38 0 0 := ⟨fun w b o => by kernel_rfl⟩
instance f38_1 : FA Try.prog 38 1 1 := ⟨fun w b o => by kernel_rfl⟩
instance f38_2 : FA Try.prog 38 2 2 := ⟨fun w b o => by kernel_rfl⟩
instance f38_3 : FA Try.prog 38 3 3 := ⟨fun w b o => by kernel_rfl⟩
instance f38_4 : FA Try.prog 38 4 4 := ⟨fun w b o => by kernel_rfl⟩
instance u45 : Und Try.prog 45 (.slice 23) := ⟨Try.underlying45⟩
instance a45 : IsA Try.prog 45 false := IsA.no Try.underlying45 rfl
instance u46 : Und Try.prog 46 (.slice 9) := ⟨Try.underlying46⟩
instance a46 : IsA Try.prog 46 false := IsA.no Try.underlying46 rfl
instance u52 : Und Try.prog 52 (.pointer 58) := ⟨Try.underlying52⟩
instance a52 : IsA Try.prog 52 false := IsA.no Try.underlying52 rfl
instance u53 : Und Try.prog 53 (.pointer 56) := ⟨Try.underlying53⟩
instance a53 : IsA Try.prog 53 false := IsA.no Try.underlying53 rfl
instance u54 : Und Try.prog 54 (.slice 5) := ⟨Try.underlying54⟩
instance a54 : IsA Try.prog 54 false := IsA.no Try.underlying54 rfl
instance a55 : IsA Try.prog 55 true := IsA.yes Try.underlying55
instance f55_0 : FA Try.prog 55 0 0 := ⟨fun w b o => by kernel_rfl⟩
instance f55_1 : FA Try.prog 55 1 1 := ⟨fun w b o => by kernel_rfl⟩
instance a56 : IsA Try.prog 56 true := IsA.yes Try.underlying56
instance f56_0 : FA Try.prog 56 0 0 := ⟨fun w b o => by kernel_rfl⟩
instance f56_1 : FA Try.prog 56 1 1 := ⟨fun w b o => by kernel_rfl⟩
instance a57 : IsA Try.prog 57 true := IsA.yes Try.underlying57
instance f57_0 : FA Try.prog 57 0 0 := ⟨fun w b o => by kernel_rfl⟩
instance a58 : IsA Try.prog 58 true := IsA.yes Try.underlying58
instance f58_0 : FA Try.prog 58 0 0 := ⟨fun w b o => by kernel_rfl⟩
instance u64 : Und Try.prog 64 (.pointer 3) := ⟨Try.underlying64⟩
instance a64 : IsA Try.prog 64 false := IsA.no Try.underlying64 rfl
instance u72 : Und Try.prog 72 (.pointer 5) := ⟨Try.underlying72⟩
instance a72 : IsA Try.prog 72 false := IsA.no Try.underlying72 rfl
instance a89 : IsA Try.prog 89 true := IsA.yes Try.underlying89
instance f89_0 : FA Try.prog 89 0 0 := ⟨fun w b o => by kernel_rfl⟩
instance f89_1 : FA Try.prog 89 1 1 := ⟨fun w b o => by kernel_rfl⟩
instance f89_2 : FA Try.prog 89 2 2 := ⟨fun w b o => by kernel_rfl⟩
instance f89_3 : FA Try.prog 89 3 3 := ⟨fun w b o => by kernel_rfl⟩
instance f89_4 : FA Try.prog 89 4 4 := ⟨fun w b o => by kernel_rfl⟩
instance f89_5 : FA Try.prog 89 5 5 := ⟨fun w b o => by kernel_rfl⟩
instance a90 : IsA Try.prog 90 true := IsA.yes Try.underlying90
instance f90_0 : FA Try.prog 90 0 0 := ⟨fun w b o => by kernel_rfl⟩
instance f90_1 : FA Try.prog 90 1 1 := ⟨fun w b o => by kernel_rfl⟩
instance f90_2 : FA Try.prog 90 2 2 := ⟨fun w b o => by kernel_rfl⟩
instance f90_3 : FA Try.prog 90 3 3 := ⟨fun w b o => by kernel_rfl⟩
instance f90_4 : FA Try.prog 90 4 4 := ⟨fun w b o => by kernel_rfl⟩
instance f90_5 : FA Try.prog 90 5 5 := ⟨fun w b o => by kernel_rfl⟩
instance u95 : Und Try.prog 95 (.slice 98) := ⟨Try.underlying95⟩
instance a95 : IsA Try.prog 95 false := IsA.no Try.underlying95 rfl
instance a97 : IsA Try.prog 97 true := IsA.yes Try.underlying97
instance f97_0 : FA Try.prog 97 0 0 := ⟨fun w b o => by kernel_rfl⟩
instance f97_1 : FA Try.prog 97 1 1 := ⟨fun w b o => by kernel_rfl⟩
instance a98 : IsA Try.prog 98 true := IsA.yes Try.underlying98
instance f98_0 : FA Try.prog 98 0 0 := ⟨fun w b o => by kernel_rfl⟩
instance f98_1 : FA Try.prog 98 1 1 := ⟨fun w b o => by kernel_rfl⟩
instance u109 : Und Try.prog 109 (.int .u64) := ⟨Try.underlying109⟩
instance a109 : IsA Try.prog 109 false := IsA.no Try.underlying109 rfl
instance a111 : IsA Try.prog 111 true := IsA.yes Try.underlying111
instance f111_0 : FA Try.prog 111 0 0 := ⟨fun w b o => by kernel_rfl⟩
instance f111_1 : FA Try.prog 111 1 1 := ⟨fun w b o => by kernel_rfl⟩
instance f111_2 : FA Try.prog 111 2 2 := ⟨fun w b o => by kernel_rfl⟩
instance f111_3 : FA Try.prog 111 3 3 := ⟨fun w b o => by kernel_rfl⟩
instance a112 : IsA Try.prog 112 true := IsA.yes Try.underlying112
instance f112_0 : FA Try.prog 112 0 0 := ⟨fun w b o => by kernel_rfl⟩
instance f112_1 : FA Try.prog 112 1 1 := ⟨fun w b o => by kernel_rfl⟩
instance f112_2 : FA Try.prog 112 2 2 := ⟨fun w b o => by kernel_rfl⟩
instance f112_3 : FA Try.prog 112 3 3 := ⟨fun w b o => by kernel_rfl⟩
instance a114 : IsA Try.prog 114 true := IsA.yes Try.underlying114
instance a115 : IsA Try.prog 115 true := IsA.yes Try.underlying115
instance u117 : Und Try.prog 117 (.int .u32) := ⟨Try.underlying117⟩
instance a117 : IsA Try.prog 117 false := IsA.no Try.underlying117 rfl
instance u118 : Und Try.prog 118 (.int .u8) := ⟨Try.underlying118⟩
instance a118 : IsA Try.prog 118 false := IsA.no Try.underlying118 rfl
instance u119 : Und Try.prog 119 (.int .u8) := ⟨Try.underlying119⟩
instance a119 : IsA Try.prog 119 false := IsA.no Try.underlying119 rfl
instance u121 : Und Try.prog 121 (.int .i32) := ⟨Try.underlying121⟩
instance a121 : IsA Try.prog 121 false := IsA.no Try.underlying121 rfl
instance u122 : Und Try.prog 122 (.int .i32) := ⟨Try.underlying122⟩
instance a122 : IsA Try.prog 122 false := IsA.no Try.underlying122 rfl
instance a123 : IsA Try.prog 123 true := IsA.yes Try.underlying123
instance f123_0 : FA Try.prog 123 0 0 := ⟨fun w b o => by kernel_rfl⟩
instance f123_1 : FA Try.prog 123 1 1 := ⟨fun w b o => by kernel_rfl⟩
instance f123_2 : FA Try.prog 123 2 2 := ⟨fun w b o => by kernel_rfl⟩
instance f123_3 : FA Try.prog 123 3 3 := ⟨fun w b o => by kernel_rfl⟩
instance f123_4 : FA Try.prog 123 4 4 := ⟨fun w b o => by kernel_rfl⟩
instance f123_5 : FA Try.prog 123 5 5 := ⟨fun w b o => by kernel_rfl⟩
instance f123_6 : FA Try.prog 123 6 6 := ⟨fun w b o => by kernel_rfl⟩
instance f123_7 : FA Try.prog 123 7 7 := ⟨fun w b o => by kernel_rfl⟩
instance f123_8 : FA Try.prog 123 8 8 := ⟨fun w b o => by kernel_rfl⟩
instance f123_9 : FA Try.prog 123 9 9 := ⟨fun w b o => by kernel_rfl⟩
instance f123_10 : FA Try.prog 123 10 10 := ⟨fun w b o => by kernel_rfl⟩
instance a124 : IsA Try.prog 124 true := IsA.yes Try.underlying124
instance f124_0 : FA Try.prog 124 0 0 := ⟨fun w b o => by kernel_rfl⟩
instance f124_1 : FA Try.prog 124 1 1 := ⟨fun w b o => by kernel_rfl⟩
instance f124_2 : FA Try.prog 124 2 2 := ⟨fun w b o => by kernel_rfl⟩
instance f124_3 : FA Try.prog 124 3 3 := ⟨fun w b o => by kernel_rfl⟩
instance f124_4 : FA Try.prog 124 4 4 := ⟨fun w b o => by kernel_rfl⟩
instance f124_5 : FA Try.prog 124 5 5 := ⟨fun w b o => by kernel_rfl⟩
instance f124_6 : FA Try.prog 124 6 6 := ⟨fun w b o => by kernel_rfl⟩
instance f124_7 : FA Try.prog 124 7 7 := ⟨fun w b o => by kernel_rfl⟩
instance f124_8 : FA Try.prog 124 8 8 := ⟨fun w b o => by kernel_rfl⟩
instance f124_9 : FA Try.prog 124 9 9 := ⟨fun w b o => by kernel_rfl⟩
instance f124_10 : FA Try.prog 124 10 10 := ⟨fun w b o => by kernel_rfl⟩
instance c3 : IsFn Try.prog 3 := ⟨Try.f3, Try.func3, by kernel_rfl, by kernel_rfl⟩
instance c4 : IsFn Try.prog 4 := ⟨Try.f4, Try.func4, by kernel_rfl, by kernel_rfl⟩
instance c5 : IsFn Try.prog 5 := ⟨Try.f5, Try.func5, by kernel_rfl, by kernel_rfl⟩
instance c6 : IsFn Try.prog 6 := ⟨Try.f6, Try.func6, by kernel_rfl, by kernel_rfl⟩
instance c7 : IsFn Try.prog 7 := ⟨Try.f7, Try.func7, by kernel_rfl, by kernel_rfl⟩
instance c8 : IsFn Try.prog 8 := ⟨Try.f8, Try.func8, by kernel_rfl, by kernel_rfl⟩
instance c9 : IsFn Try.prog 9 := ⟨Try.f9, Try.func9, by kernel_rfl, by kernel_rfl⟩
instance c10 : IsFn Try.prog 10 := ⟨Try.f10, Try.func10, by kernel_rfl, by kernel_rfl⟩
instance c11 : IsFn Try.prog 11 := ⟨Try.f11, Try.func11, by kernel_rfl, by kernel_rfl⟩
instance c12 : IsFn Try.prog 12 := ⟨Try.f12, Try.func12, by kernel_rfl, by kernel_rfl⟩
instance c13 : IsFn Try.prog 13 := ⟨Try.f13, Try.func13, by kernel_rfl, by kernel_rfl⟩
instance c14 : IsFn Try.prog 14 := ⟨Try.f14, Try.func14, by kernel_rfl, by kernel_rfl⟩
instance c15 : IsFn Try.prog 15 := ⟨Try.f15, Try.func15, by kernel_rfl, by kernel_rfl⟩
instance c16 : IsFn Try.prog 16 := ⟨Try.f16, Try.func16, by kernel_rfl, by kernel_rfl⟩
instance c17 : IsFn Try.prog 17 := ⟨Try.f17, Try.func17, by kernel_rfl, by kernel_rfl⟩
instance c18 : IsFn Try.prog 18 := ⟨Try.f18, Try.func18, by kernel_rfl, by kernel_rfl⟩
instance c19 : IsFn Try.prog 19 := ⟨Try.f19, Try.func19, by kernel_rfl, by kernel_rfl⟩
instance c20 : IsFn Try.prog 20 := ⟨Try.f20, Try.func20, by kernel_rfl, by kernel_rfl⟩
instance c21 : IsFn Try.prog 21 := ⟨Try.f21, Try.func21, by kernel_rfl, by kernel_rfl⟩
instance c22 : IsFn Try.prog 22 := ⟨Try.f22, Try.func22, by kernel_rfl, by kernel_rfl⟩
instance c23 : IsFn Try.prog 23 := ⟨Try.f23, Try.func23, by kernel_rfl, by kernel_rfl⟩
instance c24 : IsFn Try.prog 24 := ⟨Try.f24, Try.func24, by kernel_rfl, by kernel_rfl⟩
instance c25 : IsFn Try.prog 25 := ⟨Try.f25, Try.func25, by kernel_rfl, by kernel_rfl⟩
instance c26 : IsFn Try.prog 26 := ⟨Try.f26, Try.func26, by kernel_rfl, by kernel_rfl⟩
instance c27 : IsFn Try.prog 27 := ⟨Try.f27, Try.func27, by kernel_rfl, by kernel_rfl⟩
instance c28 : IsFn Try.prog 28 := ⟨Try.f28, Try.func28, by kernel_rfl, by kernel_rfl⟩
instance c29 : IsFn Try.prog 29 := ⟨Try.f29, Try.func29, by kernel_rfl, by kernel_rfl⟩
instance c30 : IsFn Try.prog 30 := ⟨Try.f30, Try.func30, by kernel_rfl, by kernel_rfl⟩
instance c31 : IsFn Try.prog 31 := ⟨Try.f31, Try.func31, by kernel_rfl, by kernel_rfl⟩
instance c32 : IsFn Try.prog 32 := ⟨Try.f32, Try.func32, by kernel_rfl, by kernel_rfl⟩
instance c33 : IsFn Try.prog 33 := ⟨Try.f33, Try.func33, by kernel_rfl, by kernel_rfl⟩
instance c34 : IsFn Try.prog 34 := ⟨Try.f34, Try.func34, by kernel_rfl, by kernel_rfl⟩
instance c35 : IsFn Try.prog 35 := ⟨Try.f35, Try.func35, by kernel_rfl, by kernel_rfl⟩
instance c36 : IsFn Try.prog 36 := ⟨Try.f36, Try.func36, by kernel_rfl, by kernel_rfl⟩
instance c37 : IsFn Try.prog 37 := ⟨Try.f37, Try.func37, by kernel_rfl, by kernel_rfl⟩
instance c38 : IsFn Try.prog 38 := ⟨Try.f38, Try.func38, by kernel_rfl, by kernel_rfl⟩
instance c39 : IsFn Try.prog 39 := ⟨Try.f39, Try.func39, by kernel_rfl, by kernel_rfl⟩
instance c40 : IsFn Try.prog 40 := ⟨Try.f40, Try.func40, by kernel_rfl, by kernel_rfl⟩
instance c41 : IsFn Try.prog 41 := ⟨Try.f41, Try.func41, by kernel_rfl, by kernel_rfl⟩
instance c42 : IsFn Try.prog 42 := ⟨Try.f42, Try.func42, by kernel_rfl, by kernel_rfl⟩
instance c43 : IsFn Try.prog 43 := ⟨Try.f43, Try.func43, by kernel_rfl, by kernel_rfl⟩
instance c44 : IsFn Try.prog 44 := ⟨Try.f44, Try.func44, by kernel_rfl, by kernel_rfl⟩
instance c45 : IsFn Try.prog 45 := ⟨Try.f45, Try.func45, by kernel_rfl, by kernel_rfl⟩
instance c46 : IsFn Try.prog 46 := ⟨Try.f46, Try.func46, by kernel_rfl, by kernel_rfl⟩
instance c47 : IsFn Try.prog 47 := ⟨Try.f47, Try.func47, by kernel_rfl, by kernel_rfl⟩
instance c48 : IsFn Try.prog 48 := ⟨Try.f48, Try.func48, by kernel_rfl, by kernel_rfl⟩
instance c49 : IsFn Try.prog 49 := ⟨Try.f49, Try.func49, by kernel_rfl, by kernel_rfl⟩
instance c50 : IsFn Try.prog 50 := ⟨Try.f50, Try.func50, by kernel_rfl, by kernel_rfl⟩
instance c51 : IsFn Try.prog 51 := ⟨Try.f51, Try.func51, by kernel_rfl, by kernel_rfl⟩
instance c52 : IsFn Try.prog 52 := ⟨Try.f52, Try.func52, by kernel_rfl, by kernel_rfl⟩
instance c53 : IsFn Try.prog 53 := ⟨Try.f53, Try.func53, by kernel_rfl, by kernel_rfl⟩
instance c54 : IsFn Try.prog 54 := ⟨Try.f54, Try.func54, by kernel_rfl, by kernel_rfl⟩
instance c55 : IsFn Try.prog 55 := ⟨Try.f55, Try.func55, by kernel_rfl, by kernel_rfl⟩
instance c56 : IsFn Try.prog 56 := ⟨Try.f56, Try.func56, by kernel_rfl, by kernel_rfl⟩
instance c57 : IsFn Try.prog 57 := ⟨Try.f57, Try.func57, by kernel_rfl, by kernel_rfl⟩
instance c58 : IsFn Try.prog 58 := ⟨Try.f58, Try.func58, by kernel_rfl, by kernel_rfl⟩
instance c59 : IsFn Try.prog 59 := ⟨Try.f59, Try.func59, by kernel_rfl, by kernel_rfl⟩
instance c61 : IsFn Try.prog 61 := ⟨Try.f61, Try.func61, by kernel_rfl, by kernel_rfl⟩
instance c62 : IsFn Try.prog 62 := ⟨Try.f62, Try.func62, by kernel_rfl, by kernel_rfl⟩
instance c63 : IsFn Try.prog 63 := ⟨Try.f63, Try.func63, by kernel_rfl, by kernel_rfl⟩
instance c64 : IsFn Try.prog 64 := ⟨Try.f64, Try.func64, by kernel_rfl, by kernel_rfl⟩
instance c65 : IsFn Try.prog 65 := ⟨Try.f65, Try.func65, by kernel_rfl, by kernel_rfl⟩
instance c66 : IsFn Try.prog 66 := ⟨Try.f66, Try.func66, by kernel_rfl, by kernel_rfl⟩
instance c67 : IsFn Try.prog 67 := ⟨Try.f67, Try.func67, by kernel_rfl, by kernel_rfl⟩
instance c68 : IsFn Try.prog 68 := ⟨Try.f68, Try.func68, by kernel_rfl, by kernel_rfl⟩
instance c69 : IsFn Try.prog 69 := ⟨Try.f69, Try.func69, by kernel_rfl, by kernel_rfl⟩
instance c70 : IsFn Try.prog 70 := ⟨Try.f70, Try.func70, by kernel_rfl, by kernel_rfl⟩
instance c71 : IsFn Try.prog 71 := ⟨Try.f71, Try.func71, by kernel_rfl, by kernel_rfl⟩
instance c72 : IsFn Try.prog 72 := ⟨Try.f72, Try.func72, by kernel_rfl, by kernel_rfl⟩
instance c73 : IsFn Try.prog 73 := ⟨Try.f73, Try.func73, by kernel_rfl, by kernel_rfl⟩
instance c74 : IsFn Try.prog 74 := ⟨Try.f74, Try.func74, by kernel_rfl, by kernel_rfl⟩
instance c75 : IsFn Try.prog 75 := ⟨Try.f75, Try.func75, by kernel_rfl, by kernel_rfl⟩
instance c76 : IsFn Try.prog 76 := ⟨Try.f76, Try.func76, by kernel_rfl, by kernel_rfl⟩
instance c77 : IsFn Try.prog 77 := ⟨Try.f77, Try.func77, by kernel_rfl, by kernel_rfl⟩
instance c78 : IsFn Try.prog 78 := ⟨Try.f78, Try.func78, by kernel_rfl, by kernel_rfl⟩
instance c79 : IsFn Try.prog 79 := ⟨Try.f79, Try.func79, by kernel_rfl, by kernel_rfl⟩
instance c80 : IsFn Try.prog 80 := ⟨Try.f80, Try.func80, by kernel_rfl, by kernel_rfl⟩
instance c81 : IsFn Try.prog 81 := ⟨Try.f81, Try.func81, by kernel_rfl, by kernel_rfl⟩
instance c82 : IsFn Try.prog 82 := ⟨Try.f82, Try.func82, by kernel_rfl, by kernel_rfl⟩
instance c83 : IsFn Try.prog 83 := ⟨Try.f83, Try.func83, by kernel_rfl, by kernel_rfl⟩
instance c84 : IsFn Try.prog 84 := ⟨Try.f84, Try.func84, by kernel_rfl, by kernel_rfl⟩
instance c85 : IsFn Try.prog 85 := ⟨Try.f85, Try.func85, by kernel_rfl, by kernel_rfl⟩
instance c86 : IsFn Try.prog 86 := ⟨Try.f86, Try.func86, by kernel_rfl, by kernel_rfl⟩
end Go.Proofs.Ytbcmiijollpgeaa.ZP
