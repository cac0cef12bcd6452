import Derived.Test.YtjiehalanklapaaZ
import Derived.Test.YtjiehalanklapaaProg
namespace Go.Proofs.Ytjiehalanklapaa.ZP
open Go Go.Z Go.Proofs
instance i2 : Inf Try.prog 2 1 8 (.int .i64 0) := Inf.of (by kernel_rfl)
instance i3 : Inf Try.prog 3 1 8 (.int .i64 0) := Inf.of (by kernel_rfl)
instance i4 : Inf Try.prog 4 1 1 (.bool false) := Inf.of (by kernel_rfl)
instance i5 : Inf Try.prog 5 1 1 (.int .u8 0) := Inf.of (by kernel_rfl)
instance i6 : Inf Try.prog 6 1 1 (.int .u8 0) := Inf.of (by kernel_rfl)
instance i7 : Inf Try.prog 7 4 24 (.agg #[(.int .i64 0), (.int .i64 0), (.bool false), (.int .u8 0)]) := Inf.of (by kernel_rfl)
instance i8 : Inf Try.prog 8 4 24 (.agg #[(.int .i64 0), (.int .i64 0), (.bool false), (.int .u8 0)]) := Inf.of (by kernel_rfl)
instance i9 : Inf Try.prog 9 1 16 (.string ⟨#[]⟩) := Inf.of (by kernel_rfl)
instance i10 : Inf Try.prog 10 1 16 (.string ⟨#[]⟩) := Inf.of (by kernel_rfl)
instance i11 : Inf Try.prog 11 1 16 (.string ⟨#[]⟩) := Inf.of (by kernel_rfl)
instance i12 : Inf Try.prog 12 1 8 (.int .u64 0) := Inf.of (by kernel_rfl)
instance i13 : Inf Try.prog 13 2 24 (.agg #[(.string ⟨#[]⟩), (.int .u64 0)]) := Inf.of (by kernel_rfl)
instance i14 : Inf Try.prog 14 2 24 (.agg #[(.string ⟨#[]⟩), (.int .u64 0)]) := Inf.of (by kernel_rfl)
instance i15 : Inf Try.prog 15 1 8 (.pointer none) := Inf.of (by kernel_rfl)
instance i16 : Inf Try.prog 16 1 8 (.pointer none) := Inf.of (by kernel_rfl)
instance i17 : Inf Try.prog 17 1 8 (.pointer none) := Inf.of (by kernel_rfl)
instance i18 : Inf Try.prog 18 1 8 (.agg #[(.pointer none)]) := Inf.of (by kernel_rfl)
instance i19 : Inf Try.prog 19 1 8 (.agg #[(.pointer none)]) := Inf.of (by kernel_rfl)
instance i21 : Inf Try.prog 21 1 4 (.int .i32 0) := Inf.of (by kernel_rfl)
instance i23 : Inf Try.prog 23 1 8 (.pointer none) := Inf.of (by kernel_rfl)
instance i29 : Inf Try.prog 29 1 24 (.slice none 0 0) := Inf.of (by kernel_rfl)
instance i31 : Inf Try.prog 31 1 24 (.slice none 0 0) := Inf.of (by kernel_rfl)
instance i35 : Inf Try.prog 35 1 24 (.slice none 0 0) := Inf.of (by kernel_rfl)
instance i44 : Inf Try.prog 44 2 32 (.agg #[(.string ⟨#[]⟩), (.string ⟨#[]⟩)]) := Inf.of (by kernel_rfl)
instance i45 : Inf Try.prog 45 2 32 (.agg #[(.string ⟨#[]⟩), (.string ⟨#[]⟩)]) := Inf.of (by kernel_rfl)
instance i46 : Inf Try.prog 46 1 24 (.slice none 0 0) := Inf.of (by kernel_rfl)
instance i47 : Inf Try.prog 47 7 104 (.agg #[(.int .i64 0), (.int .i64 0), (.string ⟨#[]⟩), (.slice none 0 0), (.string ⟨#[]⟩), (.int .i64 0), (.slice none 0 0)]) := Inf.of (by kernel_rfl)
instance i48 : Inf Try.prog 48 7 104 (.agg #[(.int .i64 0), (.int .i64 0), (.string ⟨#[]⟩), (.slice none 0 0), (.string ⟨#[]⟩), (.int .i64 0), (.slice none 0 0)]) := Inf.of (by kernel_rfl)
instance i52 : Inf Try.prog 52 1 24 (.slice none 0 0) := Inf.of (by kernel_rfl)
instance i53 : Inf Try.prog 53 1 24 (.slice none 0 0) := Inf.of (by kernel_rfl)
instance i55 : Inf Try.prog 55 1 24 (.slice none 0 0) := Inf.of (by kernel_rfl)
instance i56 : Inf Try.prog 56 1 8 (.pointer none) := Inf.of (by kernel_rfl)
instance i58 : Inf Try.prog 58 5 48 (.agg #[(.int .i64 0), (.int .i64 0), (.int .i64 0), (.int .i64 0), (.string ⟨#[]⟩)]) := Inf.of (by kernel_rfl)
instance i59 : Inf Try.prog 59 5 48 (.agg #[(.int .i64 0), (.int .i64 0), (.int .i64 0), (.int .i64 0), (.string ⟨#[]⟩)]) := Inf.of (by kernel_rfl)
instance i61 : Inf Try.prog 61 1 24 (.slice none 0 0) := Inf.of (by kernel_rfl)
instance i62 : Inf Try.prog 62 3 72 (.agg #[(.slice none 0 0), (.slice none 0 0), (.slice none 0 0)]) := Inf.of (by kernel_rfl)
instance i63 : Inf Try.prog 63 3 72 (.agg #[(.slice none 0 0), (.slice none 0 0), (.slice none 0 0)]) := Inf.of (by kernel_rfl)
instance i67 : Inf Try.prog 67 1 24 (.slice none 0 0) := Inf.of (by kernel_rfl)
instance i68 : Inf Try.prog 68 1 24 (.agg #[(.slice none 0 0)]) := Inf.of (by kernel_rfl)
instance i69 : Inf Try.prog 69 1 24 (.agg #[(.slice none 0 0)]) := Inf.of (by kernel_rfl)
instance i71 : Inf Try.prog 71 1 8 (.pointer none) := Inf.of (by kernel_rfl)
instance i73 : Inf Try.prog 73 1 24 (.slice none 0 0) := Inf.of (by kernel_rfl)
instance i74 : Inf Try.prog 74 7 112 (.agg #[(.int .i64 0), (.int .i64 0), (.string ⟨#[]⟩), (.slice none 0 0), (.slice none 0 0), (.int .i64 0), (.slice none 0 0)]) := Inf.of (by kernel_rfl)
instance i75 : Inf Try.prog 75 7 112 (.agg #[(.int .i64 0), (.int .i64 0), (.string ⟨#[]⟩), (.slice none 0 0), (.slice none 0 0), (.int .i64 0), (.slice none 0 0)]) := Inf.of (by kernel_rfl)
instance i82 : Inf Try.prog 82 1 8 (.pointer none) := Inf.of (by kernel_rfl)
instance i83 : Inf Try.prog 83 2 32 (.agg #[(.slice none 0 0), (.int .i64 0)]) := Inf.of (by kernel_rfl)
instance i84 : Inf Try.prog 84 2 32 (.agg #[(.slice none 0 0), (.int .i64 0)]) := Inf.of (by kernel_rfl)
instance i85 : Inf Try.prog 85 1 8 (.pointer none) := Inf.of (by kernel_rfl)
instance i86 : Inf Try.prog 86 1 8 (.agg #[(.int .i64 0)]) := Inf.of (by kernel_rfl)
instance i87 : Inf Try.prog 87 1 8 (.agg #[(.int .i64 0)]) := Inf.of (by kernel_rfl)
instance i91 : Inf Try.prog 91 1 8 (.pointer none) := Inf.of (by kernel_rfl)
instance i100 : Inf Try.prog 100 4 40 (.agg #[(.pointer none), (.pointer none), (.pointer none), (.string ⟨#[]⟩)]) := Inf.of (by kernel_rfl)
instance i101 : Inf Try.prog 101 4 40 (.agg #[(.pointer none), (.pointer none), (.pointer none), (.string ⟨#[]⟩)]) := Inf.of (by kernel_rfl)
instance i103 : Inf Try.prog 103 0 0 (.agg #[]) := Inf.of (by kernel_rfl)
instance i104 : Inf Try.prog 104 0 0 (.agg #[]) := Inf.of (by kernel_rfl)
instance i105 : Inf Try.prog 105 1 4 (.int .u32 0) := Inf.of (by kernel_rfl)
instance i106 : Inf Try.prog 106 1 1 (.int .u8 0) := Inf.of (by kernel_rfl)
instance i107 : Inf Try.prog 107 1 1 (.int .u8 0) := Inf.of (by kernel_rfl)
instance i109 : Inf Try.prog 109 1 8 (.pointer none) := Inf.of (by kernel_rfl)
instance i110 : Inf Try.prog 110 1 4 (.int .i32 0) := Inf.of (by kernel_rfl)
instance i111 : Inf Try.prog 111 1 4 (.int .i32 0) := Inf.of (by kernel_rfl)
instance i112 : Inf Try.prog 112 11 48 (.agg #[(.int .u64 0), (.int .u64 0), (.int .u32 0), (.int .u8 0), (.int .u8 0), (.int .u8 0), (.int .u8 0), .nilFunc, (.pointer none), (.int .i32 0), (.int .i32 0)]) := Inf.of (by kernel_rfl)
instance i113 : Inf Try.prog 113 11 48 (.agg #[(.int .u64 0), (.int .u64 0), (.int .u32 0), (.int .u8 0), (.int .u8 0), (.int .u8 0), (.int .u8 0), .nilFunc, (.pointer none), (.int .i32 0), (.int .i32 0)]) := Inf.of (by kernel_rfl)
instance u2 : Und Try.prog 2 (.int .i64) := ⟨Try.underlying2⟩
instance a2 : IsA Try.prog 2 false := IsA.no Try.underlying2 rfl
instance u3 : Und Try.prog 3 (.int .i64) := ⟨Try.underlying3⟩
instance a3 : IsA Try.prog 3 false := IsA.no Try.underlying3 rfl
instance u4 : Und Try.prog 4 .bool := ⟨Try.underlying4⟩
instance a4 : IsA Try.prog 4 false := IsA.no Try.underlying4 rfl
instance u5 : Und Try.prog 5 (.int .u8) := ⟨Try.underlying5⟩
instance a5 : IsA Try.prog 5 false := IsA.no Try.underlying5 rfl
instance u6 : Und Try.prog 6 (.int .u8) := ⟨Try.underlying6⟩
instance a6 : IsA Try.prog 6 false := IsA.no Try.underlying6 rfl
instance a7 : IsA Try.prog 7 true := IsA.yes Try.underlying7
instance f7_0 : FA Try.prog 7 0 0 := ⟨fun w b o => by kernel_rfl⟩
instance f7_1 : FA Try.prog 7 1 1 := ⟨fun w b o => by kernel_rfl⟩
instance f7_2 : FA Try.prog 7 2 2 := ⟨fun w b o => by kernel_rfl⟩
instance f7_3 : FA Try.prog 7 3 3 := ⟨fun w b o => by kernel_rfl⟩
instance a8 : IsA Try.prog 8 true := IsA.yes Try.underlying8
instance f8_0 : FA Try.prog 8 0 0 := ⟨fun w b o => by kernel_rfl⟩
instance f8_1 : FA Try.prog 8 1 1 := ⟨fun w b o => by kernel_rfl⟩
instance f8_2 : FA Try.prog 8 2 2 := ⟨fun w b o => by kernel_rfl⟩
instance f8_3 : FA Try.prog 8 3 3 := ⟨fun w b o => by kernel_rfl⟩
instance u9 : Und Try.prog 9 .string := ⟨Try.underlying9⟩
instance a9 : IsA Try.prog 9 false := IsA.no Try.underlying9 rfl
instance u10 : Und Try.prog 10 .string := ⟨Try.underlying10⟩
instance a10 : IsA Try.prog 10 false := IsA.no Try.underlying10 rfl
instance u11 : Und Try.prog 11 .string := ⟨Try.underlying11⟩
instance a11 : IsA Try.prog 11 false := IsA.no Try.underlying11 rfl
instance u12 : Und Try.prog 12 (.int .u64) := ⟨Try.underlying12⟩
instance a12 : IsA Try.prog 12 false := IsA.no Try.underlying12 rfl
instance a13 : IsA Try.prog 13 true := IsA.yes Try.underlying13
instance f13_0 : FA Try.prog 13 0 0 := ⟨fun w b o => by kernel_rfl⟩
instance f13_1 : FA Try.prog 13 1 1 := ⟨fun w b o => by kernel_rfl⟩
instance a14 : IsA Try.prog 14 true := IsA.yes Try.underlying14
instance f14_0 : FA Try.prog 14 0 0 := ⟨fun w b o => by kernel_rfl⟩
instance f14_1 : FA Try.prog 14 1 1 := ⟨fun w b o => by kernel_rfl⟩
instance u15 : Und Try.prog 15 (.pointer 101) := ⟨Try.underlying15⟩
instance a15 : IsA Try.prog 15 false := IsA.no Try.underlying15 rfl
instance u16 : Und Try.prog 16 (.pointer 104) := ⟨Try.underlying16⟩
instance a16 : IsA Try.prog 16 false := IsA.no Try.underlying16 rfl
instance u17 : Und Try.prog 17 (.pointer 113) := ⟨Try.underlying17⟩
instance a17 : IsA Try.prog 17 false := IsA.no Try.underlying17 rfl
instance a18 : IsA Try.prog 18 true := IsA.yes Try.underlying18
instance f18_0 : FA Try.prog 18 0 0 := ⟨fun w b o => by kernel_rfl⟩
instance a19 : IsA Try.prog 19 true := IsA.yes Try.underlying19
instance f19_0 : FA Try.prog 19 0 0 := ⟨fun w b o => by kernel_rfl⟩
instance u21 : Und Try.prog 21 (.int .i32) := ⟨Try.underlying21⟩
instance a21 : IsA Try.prog 21 false := IsA.no Try.underlying21 rfl
instance u23 : Und Try.prog 23 (.pointer 69) := ⟨Try.underlying23⟩
instance a23 : IsA Try.prog 23 false := IsA.no Try.underlying23 rfl
instance u29 : Und Try.prog 29 (.slice 9) := ⟨Try.underlying29⟩
instance a29 : IsA Try.prog 29 false := IsA.no Try.underlying29 rfl
instance u31 : Und Try.prog 31 (.slice 48) := ⟨Try.underlying31⟩
instance a31 : IsA Try.prog 31 false := IsA.no Try.underlying31 rfl
instance u35 : Und Try.prog 35 (.slice 3) := ⟨Try.underlying35⟩
instance a35 : IsA Try.prog 35 false := IsA.no Try.underlying35 rfl
instance a44 : IsA Try.prog 44 true := IsA.yes Try.underlying44
instance f44_0 : FA Try.prog 44 0 0 := ⟨fun w b o => by kernel_rfl⟩
instance f44_1 : FA Try.prog 44 1 1 := ⟨fun w b o => by kernel_rfl⟩
instance a45 : IsA Try.prog 45 true := IsA.yes Try.underlying45
instance f45_0 : FA Try.prog 45 0 0 := ⟨fun w b o => by kernel_rfl⟩
instance f45_1 : FA Try.prog 45 1 1 := ⟨fun w b o => by kernel_rfl⟩
instance u46 : Und Try.prog 46 (.slice 45) := ⟨Try.underlying46⟩
instance a46 : IsA Try.prog 46 false := IsA.no Try.underlying46 rfl
instance a47 : IsA Try.prog 47 true := IsA.yes Try.underlying47
instance f47_0 : FA Try.prog 47 0 0 := ⟨fun w b o => by kernel_rfl⟩
instance f47_1 : FA Try.prog 47 1 1 := ⟨fun w b o => by kernel_rfl⟩
instance f47_2 : FA Try.prog 47 2 2 := ⟨fun w b o => by kernel_rfl⟩
instance f47_3 : FA Try.prog 47 3 3 := ⟨fun w b o => by kernel_rfl⟩
instance f47_4 : FA Try.prog 47 4 4 := ⟨fun w b o => by kernel_rfl⟩
instance f47_5 : FA Try.prog 47 5 5 := ⟨fun w b o => by kernel_rfl⟩
instance f47_6 : FA Try.prog 47 6 6 := ⟨fun w b o => by kernel_rfl⟩
instance a48 : IsA Try.prog 48 true := IsA.yes Try.underlying48
instance f48_0 : FA Try.prog 48 0 0 := ⟨fun w b o => by kernel_rfl⟩
instance f48_1 : FA Try.prog 48 1 1 := ⟨fun w b o => by kernel_rfl⟩
instance f48_2 : FA Try.prog 48 2 2 := ⟨fun w b o => by kernel_rfl⟩
instance f48_3 : FA Try.prog 48 3 3 := ⟨fun w b o => by kernel_rfl⟩
instance f48_4 : FA Try.prog 48 4 4 := ⟨fun w b o => by kernel_rfl⟩
instance f48_5 : FA Try.prog 48 5 5 := ⟨fun w b o => by kernel_rfl⟩
instance f48_6 : FA Try.prog 48 6 6 := ⟨fun w b o => by kernel_rfl⟩
instance u52 : Und Try.prog 52 (.slice 31) := ⟨Try.underlying52⟩
instance a52 : IsA Try.prog 52 false := IsA.no Try.underlying52 rfl
instance u53 : Und Try.prog 53 (.slice 4) := ⟨Try.underlying53⟩
instance a53 : IsA Try.prog 53 false := IsA.no Try.underlying53 rfl
instance u55 : Und Try.prog 55 (.slice 59) := ⟨Try.underlying55⟩
instance a55 : IsA Try.prog 55 false := IsA.no Try.underlying55 rfl
instance u56 : Und Try.prog 56 (.pointer 63) := ⟨Try.underlying56⟩
instance a56 : IsA Try.prog 56 false := IsA.no Try.underlying56 rfl
instance a58 : IsA Try.prog 58 true := IsA.yes Try.underlying58
instance f58_0 : FA Try.prog 58 0 0 := ⟨fun w b o => by kernel_rfl⟩
instance f58_1 : FA Try.prog 58 1 1 := ⟨fun w b o => by kernel_rfl⟩
instance f58_2 : FA Try.prog 58 2 2 := ⟨fun w b o => by kernel_rfl⟩
instance f58_3 : FA Try.prog 58 3 3 := ⟨fun w b o => by kernel_rfl⟩
instance f58_4 : FA Try.prog 58 4 4 := ⟨fun w b o => by kernel_rfl⟩
instance a59 : IsA Try.prog 59 true := IsA.yes Try.underlying59
instance f59_0 : FA Try.prog 59 0 0 := ⟨fun w b o => by kernel_rfl⟩
instance f59_1 : FA Try.prog 59 1 1 := ⟨fun w b o => by kernel_rfl⟩
instance f59_2 : FA Try.prog 59 2 2 := ⟨fun w b o => by kernel_rfl⟩
instance f59_3 : FA Try.prog 59 3 3 := ⟨fun w b o => by kernel_rfl⟩
instance f59_4 : FA Try.prog 59 4 4 := ⟨fun w b o => by kernel_rfl⟩
instance u61 : Und Try.prog 61 (.slice 35) := ⟨Try.underlying61⟩
instance a61 : IsA Try.prog 61 false := IsA.no Try.underlying61 rfl
instance a62 : IsA Try.prog 62 true := IsA.yes Try.underlying62
instance f62_0 : FA Try.prog 62 0 0 := ⟨fun w b o => by kernel_rfl⟩
instance f62_1 : FA Try.prog 62 1 1 := ⟨fun w b o => by kernel_rfl⟩
instance f62_2 : FA Try.prog 62 2 2 := ⟨fun w b o => by kernel_rfl⟩
instance a63 : IsA Try.prog 63 true := IsA.yes Try.underlying63
instance f63_0 : FA Try.prog 63 0 0 := ⟨fun w b o => by kernel_rfl⟩
instance f63_1 : FA Try.prog 63 1 1 := ⟨fun w b o => by kernel_rfl⟩
instance f63_2 : FA Try.prog 63 2 2 := ⟨fun w b o => by kernel_rfl⟩
instance u67 : Und Try.prog 67 (.slice 71) := ⟨Try.underlying67⟩
instance a67 : IsA Try.prog 67 false := IsA.no Try.underlying67 rfl
instance a68 : IsA Try.prog 68 true := IsA.yes Try.underlying68
instance f68_0 : FA Try.prog 68 0 0 := ⟨fun w b o => by kernel_rfl⟩
instance a69 : IsA Try.prog 69 true := IsA.yes Try.underlying69
instance f69_0 : FA Try.prog 69 0 0 := ⟨fun w b o => by kernel_rfl⟩
instance u71 : Und Try.prog 71 (.pointer 75) := ⟨Try.underlying71⟩
instance a71 : IsA Try.prog 71 false := IsA.no Try.underlying71 rfl
instance u73 : Und Try.prog 73 (.slice 5) := ⟨Try.underlying73⟩
instance a73 : IsA Try.prog 73 false := IsA.no Try.underlying73 rfl
instance a74 : IsA Try.prog 74 true := IsA.yes Try.underlying74
instance f74_0 : FA Try.prog 74 0 0 := ⟨fun w b o => by kernel_rfl⟩
instance f74_1 : FA Try.prog 74 1 1 := ⟨fun w b o => by kernel_rfl⟩
instance f74_2 : FA Try.prog 74 2 2 := ⟨fun w b o => by kernel_rfl⟩
instance f74_3 : FA Try.prog 74 3 3 := ⟨fun w b o => by kernel_rfl⟩
instance f74_4 : FA Try.prog 74 4 4 := ⟨fun w b o => by kernel_rfl⟩
instance f74_5 : FA Try.prog 74 5 5 := ⟨fun w b o => by kernel_rfl⟩
instance f74_6 : FA Try.prog 74 6 6 := ⟨fun w b o => by kernel_rfl⟩
instance a75 : IsA Try.prog 75 true := IsA.yes Try.underlying75
instance f75_0 : FA Try.prog 75 0 0 := ⟨fun w b o => by kernel_rfl⟩
instance f75_1 : FA Try.prog 75 1 1 := ⟨fun w b o => by kernel_rfl⟩
instance f75_2 : FA Try.prog 75 2 2 := ⟨fun w b o => by kernel_rfl⟩
instance f75_3 : FA Try.prog 75 3 3 := ⟨fun w b o => by kernel_rfl⟩
instance f75_4 : FA Try.prog 75 4 4 := ⟨fun w b o => by kernel_rfl⟩
instance f75_5 : FA Try.prog 75 5 5 := ⟨fun w b o => by kernel_rfl⟩
instance f75_6 : FA Try.prog 75 6 6 := ⟨fun w b o => by kernel_rfl⟩
instance u82 : Und Try.prog 82 (.pointer 84) := ⟨Try.underlying82⟩
instance a82 : IsA Try.prog 82 false := IsA.no Try.underlying82 rfl
instance a83 : IsA Try.prog 83 true := IsA.yes Try.underlying83
instance f83_0 : FA Try.prog 83 0 0 := ⟨fun w b o => by kernel_rfl⟩
instance f83_1 : FA Try.prog 83 1 1 := ⟨fun w b o => by kernel_rfl⟩
instance a84 : IsA Try.prog 84 true := IsA.yes Try.underlying84
instance f84_0 : FA Try.prog 84 0 0 := ⟨fun w b o => by kernel_rfl⟩
instance f84_1 : FA Try.prog 84 1 1 := ⟨fun w b o => by kernel_rfl⟩
instance u85 : Und Try.prog 85 (.pointer 87) := ⟨Try.underlying85⟩
instance a85 : IsA Try.prog 85 false := IsA.no Try.underlying85 rfl
instance a86 : IsA Try.prog 86 true := IsA.yes Try.underlying86
instance f86_0 : FA Try.prog 86 0 0 := ⟨fun w b o => by kernel_rfl⟩
instance a87 : IsA Try.prog 87 true := IsA.yes Try.underlying87
instance f87_0 : FA Try.prog 87 0 0 := ⟨fun w b o => by kernel_rfl⟩
instance u91 : Und Try.prog 91 (.pointer 3) := ⟨Try.underlying91⟩
instance a91 : IsA Try.prog 91 false := IsA.no Try.underlying91 rfl
instance a100 : IsA Try.prog 100 true := IsA.yes Try.underlying100
instance f100_0 : FA Try.prog 100 0 0 := ⟨fun w b o => by kernel_rfl⟩
instance f100_1 : FA Try.prog 100 1 1 := ⟨fun w b o => by kernel_rfl⟩
instance f100_2 : FA Try.prog 100 2 2 := ⟨fun w b o => by kernel_rfl⟩
instance f100_3 : FA Try.prog 100 3 3 := ⟨fun w b o => by kernel_rfl⟩
instance a101 : IsA Try.prog 101 true := IsA.yes Try.underlying101
instance f101_0 : FA Try.prog 101 0 0 := ⟨fun w b o => by kernel_rfl⟩
instance f101_1 : FA Try.prog 101 1 1 := ⟨fun w b o => by kernel_rfl⟩
instance f101_2 : FA Try.prog 101 2 2 := ⟨fun w b o => by kernel_rfl⟩
instance f101_3 : FA Try.prog 101 3 3 := ⟨fun w b o => by kernel_rfl⟩
instance a103 : IsA Try.prog 103 true := IsA.yes Try.underlying103
instance a104 : IsA Try.prog 104 true := IsA.yes Try.underlying104
instance u105 : Und Try.prog 105 (.int .u32) := ⟨Try.underlying105⟩
instance a105 : IsA Try.prog 105 false := IsA.no Try.underlying105 rfl
instance u106 : Und Try.prog 106 (.int .u8) := ⟨Try.underlying106⟩
instance a106 : IsA Try.prog 106 false := IsA.no Try.underlying106 rfl
instance u107 : Und Try.prog 107 (.int .u8) := ⟨Try.underlying107⟩
instance a107 : IsA Try.prog 107 false := IsA.no Try.underlying107 rfl
instance u109 : Und Try.prog 109 (.pointer 5) := ⟨Try.underlying109⟩
instance a109 : IsA Try.prog 109 false := IsA.no Try.underlying109 rfl
instance u110 : Und Try.prog 110 (.int .i32) := ⟨Try.underlying110⟩
instance a110 : IsA Try.prog 110 false := IsA.no Try.underlying110 rfl
instance u111 : Und Try.prog 111 (.int .i32) := ⟨Try.underlying111⟩
instance a111 : IsA Try.prog 111 false := IsA.no Try.underlying111 rfl
instance a112 : IsA Try.prog 112 true := IsA.yes Try.underlying112
instance f112_0 : FA Try.prog 112 0 0 := ⟨fun w b o => by kernel_rfl⟩
instance f112_1 : FA Try.prog 112 1 1 := ⟨fun w b o => by kernel_rfl⟩
instance f112_2 : FA Try.prog 112 2 2 := ⟨fun w b o => by kernel_rfl⟩
instance f112_3 : FA Try.prog 112 3 3 := ⟨fun w b o => by kernel_rfl⟩
instance f112_4 : FA Try.prog 112 4 4 := ⟨fun w b o => by kernel_rfl⟩
instance f112_5 : FA Try.prog 112 5 5 := ⟨fun w b o => by kernel_rfl⟩
instance f112_6 : FA Try.prog 112 6 6 := ⟨fun w b o => by kernel_rfl⟩
instance f112_7 : FA Try.prog 112 7 7 := ⟨fun w b o => by kernel_rfl⟩
instance f112_8 : FA Try.prog 112 8 8 := ⟨fun w b o => by kernel_rfl⟩
instance f112_9 : FA Try.prog 112 9 9 := ⟨fun w b o => by kernel_rfl⟩
instance f112_10 : FA Try.prog 112 10 10 := ⟨fun w b o => by kernel_rfl⟩
instance a113 : IsA Try.prog 113 true := IsA.yes Try.underlying113
instance f113_0 : FA Try.prog 113 0 0 := ⟨fun w b o => by kernel_rfl⟩
instance f113_1 : FA Try.prog 113 1 1 := ⟨fun w b o => by kernel_rfl⟩
instance f113_2 : FA Try.prog 113 2 2 := ⟨fun w b o => by kernel_rfl⟩
instance f113_3 : FA Try.prog 113 3 3 := ⟨fun w b o => by kernel_rfl⟩
instance f113_4 : FA Try.prog 113 4 4 := ⟨fun w b o => by kernel_rfl⟩
instance f113_5 : FA Try.prog 113 5 5 := ⟨fun w b o => by kernel_rfl⟩
instance f113_6 : FA Try.prog 113 6 6 := ⟨fun w b o => by kernel_rfl⟩
instance f113_7 : FA Try.prog 113 7 7 := ⟨fun w b o => by kernel_rfl⟩
instance f113_8 : FA Try.prog 113 8 8 := ⟨fun w b o => by kernel_rfl⟩
instance f113_9 : FA Try.prog 113 9 9 := ⟨fun w b o => by kernel_rfl⟩
instance f113_10 : FA Try.prog 113 10 10 := ⟨fun w b o => by kernel_rfl⟩
instance c3 : IsFn Try.prog 3 := ⟨Try.f3, Try.func3, by kernel_rfl, by kernel_rfl⟩
instance c4 : IsFn Try.prog 4 := ⟨Try.f4, Try.func4, by kernel_rfl, by kernel_rfl⟩
instance c5 : IsFn Try.prog 5 := ⟨Try.f5, Try.func5, by kernel_rfl, by kernel_rfl⟩
instance c6 : IsFn Try.prog 6 := ⟨Try.f6, Try.func6, by kernel_rfl, by kernel_rfl⟩
instance c7 : IsFn Try.prog 7 := ⟨Try.f7, Try.func7, by kernel_rfl, by kernel_rfl⟩
instance c8 : IsFn Try.prog 8 := ⟨Try.f8, Try.func8, by kernel_rfl, by kernel_rfl⟩
instance c9 : IsFn Try.prog 9 := ⟨Try.f9, Try.func9, by kernel_rfl, by kernel_rfl⟩
instance c10 : IsFn Try.prog 10 := ⟨Try.f10, Try.func10, by kernel_rfl, by kernel_rfl⟩
instance c11 : IsFn Try.prog 11 := ⟨Try.f11, Try.func11, by kernel_rfl, by kernel_rfl⟩
instance c12 : IsFn Try.prog 12 := ⟨Try.f12, Try.func12, by kernel_rfl, by kernel_rfl⟩
instance c13 : IsFn Try.prog 13 := ⟨Try.f13, Try.func13, by kernel_rfl, by kernel_rfl⟩
instance c14 : IsFn Try.prog 14 := ⟨Try.f14, Try.func14, by kernel_rfl, by kernel_rfl⟩
instance c15 : IsFn Try.prog 15 := ⟨Try.f15, Try.func15, by kernel_rfl, by kernel_rfl⟩
instance c16 : IsFn Try.prog 16 := ⟨Try.f16, Try.func16, by kernel_rfl, by kernel_rfl⟩
instance c17 : IsFn Try.prog 17 := ⟨Try.f17, Try.func17, by kernel_rfl, by kernel_rfl⟩
instance c18 : IsFn Try.prog 18 := ⟨Try.f18, Try.func18, by kernel_rfl, by kernel_rfl⟩
instance c19 : IsFn Try.prog 19 := ⟨Try.f19, Try.func19, by kernel_rfl, by kernel_rfl⟩
instance c20 : IsFn Try.prog 20 := ⟨Try.f20, Try.func20, by kernel_rfl, by kernel_rfl⟩
instance c21 : IsFn Try.prog 21 := ⟨Try.f21, Try.func21, by kernel_rfl, by kernel_rfl⟩
instance c22 : IsFn Try.prog 22 := ⟨Try.f22, Try.func22, by kernel_rfl, by kernel_rfl⟩
instance c23 : IsFn Try.prog 23 := ⟨Try.f23, Try.func23, by kernel_rfl, by kernel_rfl⟩
instance c24 : IsFn Try.prog 24 := ⟨Try.f24, Try.func24, by kernel_rfl, by kernel_rfl⟩
instance c25 : IsFn Try.prog 25 := ⟨Try.f25, Try.func25, by kernel_rfl, by kernel_rfl⟩
instance c26 : IsFn Try.prog 26 := ⟨Try.f26, Try.func26, by kernel_rfl, by kernel_rfl⟩
instance c27 : IsFn Try.prog 27 := ⟨Try.f27, Try.func27, by kernel_rfl, by kernel_rfl⟩
instance c28 : IsFn Try.prog 28 := ⟨Try.f28, Try.func28, by kernel_rfl, by kernel_rfl⟩
instance c29 : IsFn Try.prog 29 := ⟨Try.f29, Try.func29, by kernel_rfl, by kernel_rfl⟩
instance c30 : IsFn Try.prog 30 := ⟨Try.f30, Try.func30, by kernel_rfl, by kernel_rfl⟩
instance c31 : IsFn Try.prog 31 := ⟨Try.f31, Try.func31, by kernel_rfl, by kernel_rfl⟩
instance c32 : IsFn Try.prog 32 := ⟨Try.f32, Try.func32, by kernel_rfl, by kernel_rfl⟩
instance c33 : IsFn Try.prog 33 := ⟨Try.f33, Try.func33, by kernel_rfl, by kernel_rfl⟩
instance c34 : IsFn Try.prog 34 := ⟨Try.f34, Try.func34, by kernel_rfl, by kernel_rfl⟩
instance c35 : IsFn Try.prog 35 := ⟨Try.f35, Try.func35, by kernel_rfl, by kernel_rfl⟩
instance c36 : IsFn Try.prog 36 := ⟨Try.f36, Try.func36, by kernel_rfl, by kernel_rfl⟩
instance c37 : IsFn Try.prog 37 := ⟨Try.f37, Try.func37, by kernel_rfl, by kernel_rfl⟩
instance c38 : IsFn Try.prog 38 := ⟨Try.f38, Try.func38, by kernel_rfl, by kernel_rfl⟩
instance c39 : IsFn Try.prog 39 := ⟨Try.f39, Try.func39, by kernel_rfl, by kernel_rfl⟩
instance c40 : IsFn Try.prog 40 := ⟨Try.f40, Try.func40, by kernel_rfl, by kernel_rfl⟩
instance c41 : IsFn Try.prog 41 := ⟨Try.f41, Try.func41, by kernel_rfl, by kernel_rfl⟩
instance c42 : IsFn Try.prog 42 := ⟨Try.f42, Try.func42, by kernel_rfl, by kernel_rfl⟩
instance c43 : IsFn Try.prog 43 := ⟨Try.f43, Try.func43, by kernel_rfl, by kernel_rfl⟩
instance c44 : IsFn Try.prog 44 := ⟨Try.f44, Try.func44, by kernel_rfl, by kernel_rfl⟩
instance c45 : IsFn Try.prog 45 := ⟨Try.f45, Try.func45, by kernel_rfl, by kernel_rfl⟩
instance c46 : IsFn Try.prog 46 := ⟨Try.f46, Try.func46, by kernel_rfl, by kernel_rfl⟩
instance c47 : IsFn Try.prog 47 := ⟨Try.f47, Try.func47, by kernel_rfl, by kernel_rfl⟩
instance c48 : IsFn Try.prog 48 := ⟨Try.f48, Try.func48, by kernel_rfl, by kernel_rfl⟩
instance c49 : IsFn Try.prog 49 := ⟨Try.f49, Try.func49, by kernel_rfl, by kernel_rfl⟩
instance c50 : IsFn Try.prog 50 := ⟨Try.f50, Try.func50, by kernel_rfl, by kernel_rfl⟩
instance c51 : IsFn Try.prog 51 := ⟨Try.f51, Try.func51, by kernel_rfl, by kernel_rfl⟩
instance c52 : IsFn Try.prog 52 := ⟨Try.f52, Try.func52, by kernel_rfl, by kernel_rfl⟩
instance c53 : IsFn Try.prog 53 := ⟨Try.f53, Try.func53, by kernel_rfl, by kernel_rfl⟩
instance c54 : IsFn Try.prog 54 := ⟨Try.f54, Try.func54, by kernel_rfl, by kernel_rfl⟩
instance c55 : IsFn Try.prog 55 := ⟨Try.f55, Try.func55, by kernel_rfl, by kernel_rfl⟩
instance c56 : IsFn Try.prog 56 := ⟨Try.f56, Try.func56, by kernel_rfl, by kernel_rfl⟩
instance c57 : IsFn Try.prog 57 := ⟨Try.f57, Try.func57, by kernel_rfl, by kernel_rfl⟩
instance c58 : IsFn Try.prog 58 := ⟨Try.f58, Try.func58, by kernel_rfl, by kernel_rfl⟩
instance c59 : IsFn Try.prog 59 := ⟨Try.f59, Try.func59, by kernel_rfl, by kernel_rfl⟩
instance c60 : IsFn Try.prog 60 := ⟨Try.f60, Try.func60, by kernel_rfl, by kernel_rfl⟩
instance c61 : IsFn Try.prog 61 := ⟨Try.f61, Try.func61, by kernel_rfl, by kernel_rfl⟩
instance c62 : IsFn Try.prog 62 := ⟨Try.f62, Try.func62, by kernel_rfl, by kernel_rfl⟩
instance c63 : IsFn Try.prog 63 := ⟨Try.f63, Try.func63, by kernel_rfl, by kernel_rfl⟩
instance c64 : IsFn Try.prog 64 := ⟨Try.f64, Try.func64, by kernel_rfl, by kernel_rfl⟩
instance c65 : IsFn Try.prog 65 := ⟨Try.f65, Try.func65, by kernel_rfl, by kernel_rfl⟩
instance c66 : IsFn Try.prog 66 := ⟨Try.f66, Try.func66, by kernel_rfl, by kernel_rfl⟩
instance c67 : IsFn Try.prog 67 := ⟨Try.f67, Try.func67, by kernel_rfl, by kernel_rfl⟩
instance c68 : IsFn Try.prog 68 := ⟨Try.f68, Try.func68, by kernel_rfl, by kernel_rfl⟩
instance c69 : IsFn Try.prog 69 := ⟨Try.f69, Try.func69, by kernel_rfl, by kernel_rfl⟩
instance c70 : IsFn Try.prog 70 := ⟨Try.f70, Try.func70, by kernel_rfl, by kernel_rfl⟩
instance c71 : IsFn Try.prog 71 := ⟨Try.f71, Try.func71, by kernel_rfl, by kernel_rfl⟩
instance c72 : IsFn Try.prog 72 := ⟨Try.f72, Try.func72, by kernel_rfl, by kernel_rfl⟩
instance c73 : IsFn Try.prog 73 := ⟨Try.f73, Try.func73, by kernel_rfl, by kernel_rfl⟩
instance c74 : IsFn Try.prog 74 := ⟨Try.f74, Try.func74, by kernel_rfl, by kernel_rfl⟩
instance c75 : IsFn Try.prog 75 := ⟨Try.f75, Try.func75, by kernel_rfl, by kernel_rfl⟩
instance c76 : IsFn Try.prog 76 := ⟨Try.f76, Try.func76, by kernel_rfl, by kernel_rfl⟩
instance c77 : IsFn Try.prog 77 := ⟨Try.f77, Try.func77, by kernel_rfl, by kernel_rfl⟩
instance c78 : IsFn Try.prog 78 := ⟨Try.f78, Try.func78, by kernel_rfl, by kernel_rfl⟩
instance c79 : IsFn Try.prog 79 := ⟨Try.f79, Try.func79, by kernel_rfl, by kernel_rfl⟩
instance c80 : IsFn Try.prog 80 := ⟨Try.f80, Try.func80, by kernel_rfl, by kernel_rfl⟩
end Go.Proofs.Ytjiehalanklapaa.ZP
