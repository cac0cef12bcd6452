import Derived.Test.YtbcmiijollpgeaaGreatWA
import Derived.Test.YtbcmiijollpgeaaGreatProg
import Derived.Lib.Builder
import Derived.Lib.AppendStr
import Derived.Lib.UnsafeStr
import Derived.Laws.Externs
import Derived.LaidEqlPtr
set_option maxHeartbeats 32000000
set_option maxRecDepth 100000
set_option linter.unusedVariables false
set_option linter.unusedSimpArgs false
namespace Go.Proofs.YtbcmiijollpgeaaGreat.ZP
open Go Go.Z Go.Proofs
instance i3:Inf Tryz.prog 3 1 8 (.int .i64 0):=Inf.of (by kernel_rfl)
instance i4:Inf Tryz.prog 4 1 1 (.bool false):=Inf.of (by kernel_rfl)
instance i5:Inf Tryz.prog 5 1 1 (.int .u8 0):=Inf.of (by kernel_rfl)
instance i9:Inf Tryz.prog 9 1 16 (.string ⟨#[]⟩):=Inf.of (by kernel_rfl)
instance i22:Inf Tryz.prog 22 1 24 (.slice none 0 0):=Inf.of (by kernel_rfl)
instance i24:Inf Tryz.prog 24 1 24 (.slice none 0 0):=Inf.of (by kernel_rfl)
instance i27:Inf Tryz.prog 27 1 24 (.slice none 0 0):=Inf.of (by kernel_rfl)
instance i41:Inf Tryz.prog 41 1 24 (.slice none 0 0):=Inf.of (by kernel_rfl)
instance i43:Inf Tryz.prog 43 5 104 (.agg #[(.string ⟨#[]⟩),(.slice none 0 0),(.string ⟨#[]⟩),(.slice none 0 0),(.slice none 0 0)]):=Inf.of (by kernel_rfl)
instance i45:Inf Tryz.prog 45 2 32 (.agg #[(.string ⟨#[]⟩),(.string ⟨#[]⟩)]):=Inf.of (by kernel_rfl)
instance i52:Inf Tryz.prog 52 1 8 (.pointer none):=Inf.of (by kernel_rfl)
instance i53:Inf Tryz.prog 53 1 24 (.slice none 0 0):=Inf.of (by kernel_rfl)
instance i55:Inf Tryz.prog 55 2 32 (.agg #[(.pointer none),(.slice none 0 0)]):=Inf.of (by kernel_rfl)
instance i66:Inf Tryz.prog 66 5 72 (.agg #[(.int .i64 0),(.string ⟨#[]⟩),(.slice none 0 0),(.bool false),(.string ⟨#[]⟩)]):=Inf.of (by kernel_rfl)
instance i80:Inf Tryz.prog 80 7 104 (.agg #[(.int .i64 0),(.int .i64 0),(.string ⟨#[]⟩),(.slice none 0 0),(.string ⟨#[]⟩),(.int .i64 0),(.slice none 0 0)]):=Inf.of (by kernel_rfl)
instance i104:Inf Tryz.prog 104 1 24 (.slice none 0 0):=Inf.of (by kernel_rfl)
instance i119:Inf Tryz.prog 119 1 24 (.slice none 0 0):=Inf.of (by kernel_rfl)
instance i153:Inf Tryz.prog 153 6 88 (.agg #[(.string ⟨#[]⟩),(.string ⟨#[]⟩),(.int .i64 0),(.string ⟨#[]⟩),(.string ⟨#[]⟩),(.string ⟨#[]⟩)]):=Inf.of (by kernel_rfl)
instance i161:Inf Tryz.prog 161 2 32 (.agg #[(.string ⟨#[]⟩),(.string ⟨#[]⟩)]):=Inf.of (by kernel_rfl)
instance i173:Inf Tryz.prog 173 3 48 (.agg #[(.int .i64 0),(.string ⟨#[]⟩),(.slice none 0 0)]):=Inf.of (by kernel_rfl)
instance u3:Und Tryz.prog 3 (.int .i64):=⟨Tryz.underlying3⟩
instance a3:IsA Tryz.prog 3 false:=IsA.no Tryz.underlying3 rfl
instance a4:IsA Tryz.prog 4 false:=IsA.no Tryz.underlying4 rfl
instance u5:Und Tryz.prog 5 (.int .u8):=⟨Tryz.underlying5⟩
instance a5:IsA Tryz.prog 5 false:=IsA.no Tryz.underlying5 rfl
instance u9:Und Tryz.prog 9 .string:=⟨Tryz.underlying9⟩
instance a9:IsA Tryz.prog 9 false:=IsA.no Tryz.underlying9 rfl
instance u21:Und Tryz.prog 21 (.int .i32):=⟨Tryz.underlying21⟩
instance u22:Und Tryz.prog 22 (.slice 3):=⟨Tryz.underlying22⟩
instance a22:IsA Tryz.prog 22 false:=IsA.no Tryz.underlying22 rfl
instance u24:Und Tryz.prog 24 (.slice 43):=⟨Tryz.underlying24⟩
instance a24:IsA Tryz.prog 24 false:=IsA.no Tryz.underlying24 rfl
instance u27:Und Tryz.prog 27 (.slice 80):=⟨Tryz.underlying27⟩
instance a27:IsA Tryz.prog 27 false:=IsA.no Tryz.underlying27 rfl
instance f36_0:FA Tryz.prog 36 0 0:=⟨fun w b o=>by kernel_rfl⟩
instance f36_1:FA Tryz.prog 36 1 1:=⟨fun w b o=>by kernel_rfl⟩
instance u41:Und Tryz.prog 41 (.slice 45):=⟨Tryz.underlying41⟩
instance a41:IsA Tryz.prog 41 false:=IsA.no Tryz.underlying41 rfl
instance a43:IsA Tryz.prog 43 true:=IsA.yes Tryz.underlying43
instance f43_0:FA Tryz.prog 43 0 0:=⟨fun w b o=>by kernel_rfl⟩
instance f43_1:FA Tryz.prog 43 1 1:=⟨fun w b o=>by kernel_rfl⟩
instance f43_2:FA Tryz.prog 43 2 2:=⟨fun w b o=>by kernel_rfl⟩
instance f43_3:FA Tryz.prog 43 3 3:=⟨fun w b o=>by kernel_rfl⟩
instance f43_4:FA Tryz.prog 43 4 4:=⟨fun w b o=>by kernel_rfl⟩
instance a45:IsA Tryz.prog 45 true:=IsA.yes Tryz.underlying45
instance f45_0:FA Tryz.prog 45 0 0:=⟨fun w b o=>by kernel_rfl⟩
instance f45_1:FA Tryz.prog 45 1 1:=⟨fun w b o=>by kernel_rfl⟩
instance u52:Und Tryz.prog 52 (.pointer 55):=⟨Tryz.underlying52⟩
instance a52:IsA Tryz.prog 52 false:=IsA.no Tryz.underlying52 rfl
instance u53:Und Tryz.prog 53 (.slice 5):=⟨Tryz.underlying53⟩
instance a53:IsA Tryz.prog 53 false:=IsA.no Tryz.underlying53 rfl
instance f55_0:FA Tryz.prog 55 0 0:=⟨fun w b o=>by kernel_rfl⟩
instance f55_1:FA Tryz.prog 55 1 1:=⟨fun w b o=>by kernel_rfl⟩
instance f57_0:FA Tryz.prog 57 0 0:=⟨fun w b o=>by kernel_rfl⟩
instance a61:IsA Tryz.prog 61 false:=IsA.no Tryz.underlying61 rfl
instance f64_0:FA Tryz.prog 64 0 0:=⟨fun w b o=>by kernel_rfl⟩
instance f64_1:FA Tryz.prog 64 1 1:=⟨fun w b o=>by kernel_rfl⟩
instance f64_2:FA Tryz.prog 64 2 2:=⟨fun w b o=>by kernel_rfl⟩
instance f64_3:FA Tryz.prog 64 3 3:=⟨fun w b o=>by kernel_rfl⟩
instance a66:IsA Tryz.prog 66 true:=IsA.yes Tryz.underlying66
instance f66_0:FA Tryz.prog 66 0 0:=⟨fun w b o=>by kernel_rfl⟩
instance f66_1:FA Tryz.prog 66 1 1:=⟨fun w b o=>by kernel_rfl⟩
instance f66_2:FA Tryz.prog 66 2 2:=⟨fun w b o=>by kernel_rfl⟩
instance f66_3:FA Tryz.prog 66 3 3:=⟨fun w b o=>by kernel_rfl⟩
instance f66_4:FA Tryz.prog 66 4 4:=⟨fun w b o=>by kernel_rfl⟩
instance a71:IsA Tryz.prog 71 false:=IsA.no Tryz.underlying71 rfl
instance a72:IsA Tryz.prog 72 false:=IsA.no Tryz.underlying72 rfl
instance f74_0:FA Tryz.prog 74 0 0:=⟨fun w b o=>by kernel_rfl⟩
instance f74_1:FA Tryz.prog 74 1 1:=⟨fun w b o=>by kernel_rfl⟩
instance f74_2:FA Tryz.prog 74 2 2:=⟨fun w b o=>by kernel_rfl⟩
instance f74_3:FA Tryz.prog 74 3 3:=⟨fun w b o=>by kernel_rfl⟩
instance a80:IsA Tryz.prog 80 true:=IsA.yes Tryz.underlying80
instance f80_0:FA Tryz.prog 80 0 0:=⟨fun w b o=>by kernel_rfl⟩
instance f80_1:FA Tryz.prog 80 1 1:=⟨fun w b o=>by kernel_rfl⟩
instance f80_2:FA Tryz.prog 80 2 2:=⟨fun w b o=>by kernel_rfl⟩
instance f80_3:FA Tryz.prog 80 3 3:=⟨fun w b o=>by kernel_rfl⟩
instance f80_4:FA Tryz.prog 80 4 4:=⟨fun w b o=>by kernel_rfl⟩
instance f80_5:FA Tryz.prog 80 5 5:=⟨fun w b o=>by kernel_rfl⟩
instance f80_6:FA Tryz.prog 80 6 6:=⟨fun w b o=>by kernel_rfl⟩
instance u82:Und Tryz.prog 82 (.slice 9):=⟨Tryz.underlying82⟩
instance u92:Und Tryz.prog 92 (.pointer 5):=⟨Tryz.underlying92⟩
instance u104:Und Tryz.prog 104 (.slice 22):=⟨Tryz.underlying104⟩
instance a104:IsA Tryz.prog 104 false:=IsA.no Tryz.underlying104 rfl
instance f106_0:FA Tryz.prog 106 0 0:=⟨fun w b o=>by kernel_rfl⟩
instance f106_1:FA Tryz.prog 106 1 1:=⟨fun w b o=>by kernel_rfl⟩
instance f106_2:FA Tryz.prog 106 2 2:=⟨fun w b o=>by kernel_rfl⟩
instance u119:Und Tryz.prog 119 (.slice 173):=⟨Tryz.underlying119⟩
instance a119:IsA Tryz.prog 119 false:=IsA.no Tryz.underlying119 rfl
instance f121_0:FA Tryz.prog 121 0 0:=⟨fun w b o=>by kernel_rfl⟩
instance a153:IsA Tryz.prog 153 true:=IsA.yes Tryz.underlying153
instance f153_0:FA Tryz.prog 153 0 0:=⟨fun w b o=>by kernel_rfl⟩
instance f153_1:FA Tryz.prog 153 1 1:=⟨fun w b o=>by kernel_rfl⟩
instance f153_2:FA Tryz.prog 153 2 2:=⟨fun w b o=>by kernel_rfl⟩
instance f153_3:FA Tryz.prog 153 3 3:=⟨fun w b o=>by kernel_rfl⟩
instance f153_4:FA Tryz.prog 153 4 4:=⟨fun w b o=>by kernel_rfl⟩
instance f153_5:FA Tryz.prog 153 5 5:=⟨fun w b o=>by kernel_rfl⟩
instance u158:Und Tryz.prog 158 (.slice 161):=⟨Tryz.underlying158⟩
instance a161:IsA Tryz.prog 161 true:=IsA.yes Tryz.underlying161
instance f161_0:FA Tryz.prog 161 0 0:=⟨fun w b o=>by kernel_rfl⟩
instance f161_1:FA Tryz.prog 161 1 1:=⟨fun w b o=>by kernel_rfl⟩
instance a173:IsA Tryz.prog 173 true:=IsA.yes Tryz.underlying173
instance f173_0:FA Tryz.prog 173 0 0:=⟨fun w b o=>by kernel_rfl⟩
instance f173_1:FA Tryz.prog 173 1 1:=⟨fun w b o=>by kernel_rfl⟩
instance c6:IsFn Tryz.prog 6:=⟨Tryz.f6,Tryz.func6,by kernel_rfl,by kernel_rfl⟩
instance c7:IsFn Tryz.prog 7:=⟨Tryz.f7,Tryz.func7,by kernel_rfl,by kernel_rfl⟩
instance c8:IsFn Tryz.prog 8:=⟨Tryz.f8,Tryz.func8,by kernel_rfl,by kernel_rfl⟩
instance c9:IsFn Tryz.prog 9:=⟨Tryz.f9,Tryz.func9,by kernel_rfl,by kernel_rfl⟩
instance c11:IsFn Tryz.prog 11:=⟨Tryz.f11,Tryz.func11,by kernel_rfl,by kernel_rfl⟩
instance c12:IsFn Tryz.prog 12:=⟨Tryz.f12,Tryz.func12,by kernel_rfl,by kernel_rfl⟩
instance c13:IsFn Tryz.prog 13:=⟨Tryz.f13,Tryz.func13,by kernel_rfl,by kernel_rfl⟩
instance c14:IsFn Tryz.prog 14:=⟨Tryz.f14,Tryz.func14,by kernel_rfl,by kernel_rfl⟩
instance c15:IsFn Tryz.prog 15:=⟨Tryz.f15,Tryz.func15,by kernel_rfl,by kernel_rfl⟩
instance c16:IsFn Tryz.prog 16:=⟨Tryz.f16,Tryz.func16,by kernel_rfl,by kernel_rfl⟩
instance c18:IsFn Tryz.prog 18:=⟨Tryz.f18,Tryz.func18,by kernel_rfl,by kernel_rfl⟩
instance c19:IsFn Tryz.prog 19:=⟨Tryz.f19,Tryz.func19,by kernel_rfl,by kernel_rfl⟩
instance c20:IsFn Tryz.prog 20:=⟨Tryz.f20,Tryz.func20,by kernel_rfl,by kernel_rfl⟩
instance c21:IsFn Tryz.prog 21:=⟨Tryz.f21,Tryz.func21,by kernel_rfl,by kernel_rfl⟩
instance c22:IsFn Tryz.prog 22:=⟨Tryz.f22,Tryz.func22,by kernel_rfl,by kernel_rfl⟩
instance c23:IsFn Tryz.prog 23:=⟨Tryz.f23,Tryz.func23,by kernel_rfl,by kernel_rfl⟩
instance c24:IsFn Tryz.prog 24:=⟨Tryz.f24,Tryz.func24,by kernel_rfl,by kernel_rfl⟩
instance c25:IsFn Tryz.prog 25:=⟨Tryz.f25,Tryz.func25,by kernel_rfl,by kernel_rfl⟩
instance c26:IsFn Tryz.prog 26:=⟨Tryz.f26,Tryz.func26,by kernel_rfl,by kernel_rfl⟩
instance c27:IsFn Tryz.prog 27:=⟨Tryz.f27,Tryz.func27,by kernel_rfl,by kernel_rfl⟩
instance c30:IsFn Tryz.prog 30:=⟨Tryz.f30,Tryz.func30,by kernel_rfl,by kernel_rfl⟩
instance c31:IsFn Tryz.prog 31:=⟨Tryz.f31,Tryz.func31,by kernel_rfl,by kernel_rfl⟩
instance c32:IsFn Tryz.prog 32:=⟨Tryz.f32,Tryz.func32,by kernel_rfl,by kernel_rfl⟩
instance c33:IsFn Tryz.prog 33:=⟨Tryz.f33,Tryz.func33,by kernel_rfl,by kernel_rfl⟩
instance c34:IsFn Tryz.prog 34:=⟨Tryz.f34,Tryz.func34,by kernel_rfl,by kernel_rfl⟩
instance c35:IsFn Tryz.prog 35:=⟨Tryz.f35,Tryz.func35,by kernel_rfl,by kernel_rfl⟩
instance c36:IsFn Tryz.prog 36:=⟨Tryz.f36,Tryz.func36,by kernel_rfl,by kernel_rfl⟩
instance c37:IsFn Tryz.prog 37:=⟨Tryz.f37,Tryz.func37,by kernel_rfl,by kernel_rfl⟩
instance c38:IsFn Tryz.prog 38:=⟨Tryz.f38,Tryz.func38,by kernel_rfl,by kernel_rfl⟩
instance c39:IsFn Tryz.prog 39:=⟨Tryz.f39,Tryz.func39,by kernel_rfl,by kernel_rfl⟩
instance c40:IsFn Tryz.prog 40:=⟨Tryz.f40,Tryz.func40,by kernel_rfl,by kernel_rfl⟩
instance c41:IsFn Tryz.prog 41:=⟨Tryz.f41,Tryz.func41,by kernel_rfl,by kernel_rfl⟩
instance c42:IsFn Tryz.prog 42:=⟨Tryz.f42,Tryz.func42,by kernel_rfl,by kernel_rfl⟩
instance c43:IsFn Tryz.prog 43:=⟨Tryz.f43,Tryz.func43,by kernel_rfl,by kernel_rfl⟩
instance c44:IsFn Tryz.prog 44:=⟨Tryz.f44,Tryz.func44,by kernel_rfl,by kernel_rfl⟩
instance c45:IsFn Tryz.prog 45:=⟨Tryz.f45,Tryz.func45,by kernel_rfl,by kernel_rfl⟩
instance c46:IsFn Tryz.prog 46:=⟨Tryz.f46,Tryz.func46,by kernel_rfl,by kernel_rfl⟩
instance c47:IsFn Tryz.prog 47:=⟨Tryz.f47,Tryz.func47,by kernel_rfl,by kernel_rfl⟩
instance c48:IsFn Tryz.prog 48:=⟨Tryz.f48,Tryz.func48,by kernel_rfl,by kernel_rfl⟩
instance c49:IsFn Tryz.prog 49:=⟨Tryz.f49,Tryz.func49,by kernel_rfl,by kernel_rfl⟩
instance c50:IsFn Tryz.prog 50:=⟨Tryz.f50,Tryz.func50,by kernel_rfl,by kernel_rfl⟩
instance c54:IsFn Tryz.prog 54:=⟨Tryz.f54,Tryz.func54,by kernel_rfl,by kernel_rfl⟩
instance c55:IsFn Tryz.prog 55:=⟨Tryz.f55,Tryz.func55,by kernel_rfl,by kernel_rfl⟩
instance c56:IsFn Tryz.prog 56:=⟨Tryz.f56,Tryz.func56,by kernel_rfl,by kernel_rfl⟩
instance c57:IsFn Tryz.prog 57:=⟨Tryz.f57,Tryz.func57,by kernel_rfl,by kernel_rfl⟩
instance c58:IsFn Tryz.prog 58:=⟨Tryz.f58,Tryz.func58,by kernel_rfl,by kernel_rfl⟩
instance c59:IsFn Tryz.prog 59:=⟨Tryz.f59,Tryz.func59,by kernel_rfl,by kernel_rfl⟩
instance c60:IsFn Tryz.prog 60:=⟨Tryz.f60,Tryz.func60,by kernel_rfl,by kernel_rfl⟩
instance c61:IsFn Tryz.prog 61:=⟨Tryz.f61,Tryz.func61,by kernel_rfl,by kernel_rfl⟩
instance c62:IsFn Tryz.prog 62:=⟨Tryz.f62,Tryz.func62,by kernel_rfl,by kernel_rfl⟩
instance c63:IsFn Tryz.prog 63:=⟨Tryz.f63,Tryz.func63,by kernel_rfl,by kernel_rfl⟩
instance c64:IsFn Tryz.prog 64:=⟨Tryz.f64,Tryz.func64,by kernel_rfl,by kernel_rfl⟩
instance c65:IsFn Tryz.prog 65:=⟨Tryz.f65,Tryz.func65,by kernel_rfl,by kernel_rfl⟩
instance c66:IsFn Tryz.prog 66:=⟨Tryz.f66,Tryz.func66,by kernel_rfl,by kernel_rfl⟩
instance c67:IsFn Tryz.prog 67:=⟨Tryz.f67,Tryz.func67,by kernel_rfl,by kernel_rfl⟩
instance c68:IsFn Tryz.prog 68:=⟨Tryz.f68,Tryz.func68,by kernel_rfl,by kernel_rfl⟩
instance c69:IsFn Tryz.prog 69:=⟨Tryz.f69,Tryz.func69,by kernel_rfl,by kernel_rfl⟩
instance c70:IsFn Tryz.prog 70:=⟨Tryz.f70,Tryz.func70,by kernel_rfl,by kernel_rfl⟩
instance c72:IsFn Tryz.prog 72:=⟨Tryz.f72,Tryz.func72,by kernel_rfl,by kernel_rfl⟩
instance c73:IsFn Tryz.prog 73:=⟨Tryz.f73,Tryz.func73,by kernel_rfl,by kernel_rfl⟩
instance c76:IsFn Tryz.prog 76:=⟨Tryz.f76,Tryz.func76,by kernel_rfl,by kernel_rfl⟩
instance c78:IsFn Tryz.prog 78:=⟨Tryz.f78,Tryz.func78,by kernel_rfl,by kernel_rfl⟩
instance c79:IsFn Tryz.prog 79:=⟨Tryz.f79,Tryz.func79,by kernel_rfl,by kernel_rfl⟩
instance c80:IsFn Tryz.prog 80:=⟨Tryz.f80,Tryz.func80,by kernel_rfl,by kernel_rfl⟩
instance c81:IsFn Tryz.prog 81:=⟨Tryz.f81,Tryz.func81,by kernel_rfl,by kernel_rfl⟩
instance c82:IsFn Tryz.prog 82:=⟨Tryz.f82,Tryz.func82,by kernel_rfl,by kernel_rfl⟩
instance c83:IsFn Tryz.prog 83:=⟨Tryz.f83,Tryz.func83,by kernel_rfl,by kernel_rfl⟩
instance c86:IsFn Tryz.prog 86:=⟨Tryz.f86,Tryz.func86,by kernel_rfl,by kernel_rfl⟩
instance c88:IsFn Tryz.prog 88:=⟨Tryz.f88,Tryz.func88,by kernel_rfl,by kernel_rfl⟩
instance c90:IsFn Tryz.prog 90:=⟨Tryz.f90,Tryz.func90,by kernel_rfl,by kernel_rfl⟩
instance c91:IsFn Tryz.prog 91:=⟨Tryz.f91,Tryz.func91,by kernel_rfl,by kernel_rfl⟩
instance c93:IsFn Tryz.prog 93:=⟨Tryz.f93,Tryz.func93,by kernel_rfl,by kernel_rfl⟩
instance c94:IsFn Tryz.prog 94:=⟨Tryz.f94,Tryz.func94,by kernel_rfl,by kernel_rfl⟩
instance c95:IsFn Tryz.prog 95:=⟨Tryz.f95,Tryz.func95,by kernel_rfl,by kernel_rfl⟩
instance c96:IsFn Tryz.prog 96:=⟨Tryz.f96,Tryz.func96,by kernel_rfl,by kernel_rfl⟩
instance c97:IsFn Tryz.prog 97:=⟨Tryz.f97,Tryz.func97,by kernel_rfl,by kernel_rfl⟩
instance c98:IsFn Tryz.prog 98:=⟨Tryz.f98,Tryz.func98,by kernel_rfl,by kernel_rfl⟩
instance c99:IsFn Tryz.prog 99:=⟨Tryz.f99,Tryz.func99,by kernel_rfl,by kernel_rfl⟩
instance c100:IsFn Tryz.prog 100:=⟨Tryz.f100,Tryz.func100,by kernel_rfl,by kernel_rfl⟩
instance c101:IsFn Tryz.prog 101:=⟨Tryz.f101,Tryz.func101,by kernel_rfl,by kernel_rfl⟩
instance c102:IsFn Tryz.prog 102:=⟨Tryz.f102,Tryz.func102,by kernel_rfl,by kernel_rfl⟩
instance c103:IsFn Tryz.prog 103:=⟨Tryz.f103,Tryz.func103,by kernel_rfl,by kernel_rfl⟩
instance c104:IsFn Tryz.prog 104:=⟨Tryz.f104,Tryz.func104,by kernel_rfl,by kernel_rfl⟩
instance c105:IsFn Tryz.prog 105:=⟨Tryz.f105,Tryz.func105,by kernel_rfl,by kernel_rfl⟩
instance c107:IsFn Tryz.prog 107:=⟨Tryz.f107,Tryz.func107,by kernel_rfl,by kernel_rfl⟩
instance c108:IsFn Tryz.prog 108:=⟨Tryz.f108,Tryz.func108,by kernel_rfl,by kernel_rfl⟩
instance c109:IsFn Tryz.prog 109:=⟨Tryz.f109,Tryz.func109,by kernel_rfl,by kernel_rfl⟩
instance c110:IsFn Tryz.prog 110:=⟨Tryz.f110,Tryz.func110,by kernel_rfl,by kernel_rfl⟩
instance c111:IsFn Tryz.prog 111:=⟨Tryz.f111,Tryz.func111,by kernel_rfl,by kernel_rfl⟩
instance c113:IsFn Tryz.prog 113:=⟨Tryz.f113,Tryz.func113,by kernel_rfl,by kernel_rfl⟩
instance c114:IsFn Tryz.prog 114:=⟨Tryz.f114,Tryz.func114,by kernel_rfl,by kernel_rfl⟩
instance c115:IsFn Tryz.prog 115:=⟨Tryz.f115,Tryz.func115,by kernel_rfl,by kernel_rfl⟩
instance c116:IsFn Tryz.prog 116:=⟨Tryz.f116,Tryz.func116,by kernel_rfl,by kernel_rfl⟩
instance c117:IsFn Tryz.prog 117:=⟨Tryz.f117,Tryz.func117,by kernel_rfl,by kernel_rfl⟩
instance c118:IsFn Tryz.prog 118:=⟨Tryz.f118,Tryz.func118,by kernel_rfl,by kernel_rfl⟩
instance c119:IsFn Tryz.prog 119:=⟨Tryz.f119,Tryz.func119,by kernel_rfl,by kernel_rfl⟩
instance c120:IsFn Tryz.prog 120:=⟨Tryz.f120,Tryz.func120,by kernel_rfl,by kernel_rfl⟩
instance c121:IsFn Tryz.prog 121:=⟨Tryz.f121,Tryz.func121,by kernel_rfl,by kernel_rfl⟩
instance c122:IsFn Tryz.prog 122:=⟨Tryz.f122,Tryz.func122,by kernel_rfl,by kernel_rfl⟩
instance c123:IsFn Tryz.prog 123:=⟨Tryz.f123,Tryz.func123,by kernel_rfl,by kernel_rfl⟩
instance c124:IsFn Tryz.prog 124:=⟨Tryz.f124,Tryz.func124,by kernel_rfl,by kernel_rfl⟩
instance c126:IsFn Tryz.prog 126:=⟨Tryz.f126,Tryz.func126,by kernel_rfl,by kernel_rfl⟩
instance c127:IsFn Tryz.prog 127:=⟨Tryz.f127,Tryz.func127,by kernel_rfl,by kernel_rfl⟩
instance c128:IsFn Tryz.prog 128:=⟨Tryz.f128,Tryz.func128,by kernel_rfl,by kernel_rfl⟩
instance c129:IsFn Tryz.prog 129:=⟨Tryz.f129,Tryz.func129,by kernel_rfl,by kernel_rfl⟩
instance c130:IsFn Tryz.prog 130:=⟨Tryz.f130,Tryz.func130,by kernel_rfl,by kernel_rfl⟩
instance c131:IsFn Tryz.prog 131:=⟨Tryz.f131,Tryz.func131,by kernel_rfl,by kernel_rfl⟩
instance c132:IsFn Tryz.prog 132:=⟨Tryz.f132,Tryz.func132,by kernel_rfl,by kernel_rfl⟩
instance c133:IsFn Tryz.prog 133:=⟨Tryz.f133,Tryz.func133,by kernel_rfl,by kernel_rfl⟩
instance c134:IsFn Tryz.prog 134:=⟨Tryz.f134,Tryz.func134,by kernel_rfl,by kernel_rfl⟩
instance c135:IsFn Tryz.prog 135:=⟨Tryz.f135,Tryz.func135,by kernel_rfl,by kernel_rfl⟩
instance c136:IsFn Tryz.prog 136:=⟨Tryz.f136,Tryz.func136,by kernel_rfl,by kernel_rfl⟩
instance c137:IsFn Tryz.prog 137:=⟨Tryz.f137,Tryz.func137,by kernel_rfl,by kernel_rfl⟩
instance c138:IsFn Tryz.prog 138:=⟨Tryz.f138,Tryz.func138,by kernel_rfl,by kernel_rfl⟩
instance c139:IsFn Tryz.prog 139:=⟨Tryz.f139,Tryz.func139,by kernel_rfl,by kernel_rfl⟩
instance c140:IsFn Tryz.prog 140:=⟨Tryz.f140,Tryz.func140,by kernel_rfl,by kernel_rfl⟩
instance c141:IsFn Tryz.prog 141:=⟨Tryz.f141,Tryz.func141,by kernel_rfl,by kernel_rfl⟩
instance c143:IsFn Tryz.prog 143:=⟨Tryz.f143,Tryz.func143,by kernel_rfl,by kernel_rfl⟩
instance c144:IsFn Tryz.prog 144:=⟨Tryz.f144,Tryz.func144,by kernel_rfl,by kernel_rfl⟩
instance c145:IsFn Tryz.prog 145:=⟨Tryz.f145,Tryz.func145,by kernel_rfl,by kernel_rfl⟩
instance c146:IsFn Tryz.prog 146:=⟨Tryz.f146,Tryz.func146,by kernel_rfl,by kernel_rfl⟩
instance c147:IsFn Tryz.prog 147:=⟨Tryz.f147,Tryz.func147,by kernel_rfl,by kernel_rfl⟩
instance c148:IsFn Tryz.prog 148:=⟨Tryz.f148,Tryz.func148,by kernel_rfl,by kernel_rfl⟩
instance c149:IsFn Tryz.prog 149:=⟨Tryz.f149,Tryz.func149,by kernel_rfl,by kernel_rfl⟩
instance c150:IsFn Tryz.prog 150:=⟨Tryz.f150,Tryz.func150,by kernel_rfl,by kernel_rfl⟩
instance c151:IsFn Tryz.prog 151:=⟨Tryz.f151,Tryz.func151,by kernel_rfl,by kernel_rfl⟩
instance c152:IsFn Tryz.prog 152:=⟨Tryz.f152,Tryz.func152,by kernel_rfl,by kernel_rfl⟩
instance c153:IsFn Tryz.prog 153:=⟨Tryz.f153,Tryz.func153,by kernel_rfl,by kernel_rfl⟩
instance c154:IsFn Tryz.prog 154:=⟨Tryz.f154,Tryz.func154,by kernel_rfl,by kernel_rfl⟩
instance c156:IsFn Tryz.prog 156:=⟨Tryz.f156,Tryz.func156,by kernel_rfl,by kernel_rfl⟩
instance c157:IsFn Tryz.prog 157:=⟨Tryz.f157,Tryz.func157,by kernel_rfl,by kernel_rfl⟩
instance c158:IsFn Tryz.prog 158:=⟨Tryz.f158,Tryz.func158,by kernel_rfl,by kernel_rfl⟩
instance c160:IsFn Tryz.prog 160:=⟨Tryz.f160,Tryz.func160,by kernel_rfl,by kernel_rfl⟩
instance c161:IsFn Tryz.prog 161:=⟨Tryz.f161,Tryz.func161,by kernel_rfl,by kernel_rfl⟩
instance c162:IsFn Tryz.prog 162:=⟨Tryz.f162,Tryz.func162,by kernel_rfl,by kernel_rfl⟩
instance c163:IsFn Tryz.prog 163:=⟨Tryz.f163,Tryz.func163,by kernel_rfl,by kernel_rfl⟩
instance c164:IsFn Tryz.prog 164:=⟨Tryz.f164,Tryz.func164,by kernel_rfl,by kernel_rfl⟩
instance c165:IsFn Tryz.prog 165:=⟨Tryz.f165,Tryz.func165,by kernel_rfl,by kernel_rfl⟩
instance c166:IsFn Tryz.prog 166:=⟨Tryz.f166,Tryz.func166,by kernel_rfl,by kernel_rfl⟩
instance c167:IsFn Tryz.prog 167:=⟨Tryz.f167,Tryz.func167,by kernel_rfl,by kernel_rfl⟩
instance c168:IsFn Tryz.prog 168:=⟨Tryz.f168,Tryz.func168,by kernel_rfl,by kernel_rfl⟩
instance c169:IsFn Tryz.prog 169:=⟨Tryz.f169,Tryz.func169,by kernel_rfl,by kernel_rfl⟩
instance c170:IsFn Tryz.prog 170:=⟨Tryz.f170,Tryz.func170,by kernel_rfl,by kernel_rfl⟩
instance c171:IsFn Tryz.prog 171:=⟨Tryz.f171,Tryz.func171,by kernel_rfl,by kernel_rfl⟩
instance c172:IsFn Tryz.prog 172:=⟨Tryz.f172,Tryz.func172,by kernel_rfl,by kernel_rfl⟩
instance c173:IsFn Tryz.prog 173:=⟨Tryz.f173,Tryz.func173,by kernel_rfl,by kernel_rfl⟩
instance c174:IsFn Tryz.prog 174:=⟨Tryz.f174,Tryz.func174,by kernel_rfl,by kernel_rfl⟩
instance c175:IsFn Tryz.prog 175:=⟨Tryz.f175,Tryz.func175,by kernel_rfl,by kernel_rfl⟩
instance c176:IsFn Tryz.prog 176:=⟨Tryz.f176,Tryz.func176,by kernel_rfl,by kernel_rfl⟩
instance c177:IsFn Tryz.prog 177:=⟨Tryz.f177,Tryz.func177,by kernel_rfl,by kernel_rfl⟩
instance c178:IsFn Tryz.prog 178:=⟨Tryz.f178,Tryz.func178,by kernel_rfl,by kernel_rfl⟩
instance c179:IsFn Tryz.prog 179:=⟨Tryz.f179,Tryz.func179,by kernel_rfl,by kernel_rfl⟩
instance c180:IsFn Tryz.prog 180:=⟨Tryz.f180,Tryz.func180,by kernel_rfl,by kernel_rfl⟩
instance c181:IsFn Tryz.prog 181:=⟨Tryz.f181,Tryz.func181,by kernel_rfl,by kernel_rfl⟩
instance c182:IsFn Tryz.prog 182:=⟨Tryz.f182,Tryz.func182,by kernel_rfl,by kernel_rfl⟩
instance c183:IsFn Tryz.prog 183:=⟨Tryz.f183,Tryz.func183,by kernel_rfl,by kernel_rfl⟩
instance c184:IsFn Tryz.prog 184:=⟨Tryz.f184,Tryz.func184,by kernel_rfl,by kernel_rfl⟩
instance c185:IsFn Tryz.prog 185:=⟨Tryz.f185,Tryz.func185,by kernel_rfl,by kernel_rfl⟩
instance c186:IsFn Tryz.prog 186:=⟨Tryz.f186,Tryz.func186,by kernel_rfl,by kernel_rfl⟩
instance c188:IsFn Tryz.prog 188:=⟨Tryz.f188,Tryz.func188,by kernel_rfl,by kernel_rfl⟩
instance c189:IsFn Tryz.prog 189:=⟨Tryz.f189,Tryz.func189,by kernel_rfl,by kernel_rfl⟩
instance c190:IsFn Tryz.prog 190:=⟨Tryz.f190,Tryz.func190,by kernel_rfl,by kernel_rfl⟩
instance c191:IsFn Tryz.prog 191:=⟨Tryz.f191,Tryz.func191,by kernel_rfl,by kernel_rfl⟩
instance c192:IsFn Tryz.prog 192:=⟨Tryz.f192,Tryz.func192,by kernel_rfl,by kernel_rfl⟩
instance c193:IsFn Tryz.prog 193:=⟨Tryz.f193,Tryz.func193,by kernel_rfl,by kernel_rfl⟩
instance c194:IsFn Tryz.prog 194:=⟨Tryz.f194,Tryz.func194,by kernel_rfl,by kernel_rfl⟩
instance c195:IsFn Tryz.prog 195:=⟨Tryz.f195,Tryz.func195,by kernel_rfl,by kernel_rfl⟩
instance c196:IsFn Tryz.prog 196:=⟨Tryz.f196,Tryz.func196,by kernel_rfl,by kernel_rfl⟩
instance c198:IsFn Tryz.prog 198:=⟨Tryz.f198,Tryz.func198,by kernel_rfl,by kernel_rfl⟩
end Go.Proofs.YtbcmiijollpgeaaGreat.ZP
namespace Go.Z
open Go Go.Proofs
section
variable {P : Program} {n : Nat} {e : Env} {w : World} {Q : Exit → Act → World → Prop} {ops : Array Oper} {rest : List Oper}
variable {d : Tmp} {ty : TypeId} {pos : String} {aft : Array Edge} {g : Option (Nat × Bool)}
theorem z_appendSt {s x:Operand} {t u el:TypeId} {m B:Nat} {v:Value} {r:List UInt8} {xs:List Value} [hu:Und P t (.slice el)] [hs':Und P u .string] [hz:Inf P el 1 1 (.int .u8 0)] (hw:Want ops e g) (hdn:d<n)
  (hs:ev e s=some v) (hx:ev e x=some (.string (bs r))) (hown:w.ownsRow B el 1 v m xs) (hby:m+r.length≤140737488355328) (hB:B≤w.heap.size)
  (h: ∀v' w',w'.ownsRow B el 1 v' (m+r.length) (xs++Lib.strCells (bs r))→Chg w w' (fun k=>v.ownBlock=some k)→ZL P n ops rest ((d,v')::e) w' Q):
  ZL P n ops (⟨some d,.call {callee:= .builtin .append,args:= #[s,x],argTypes:= #[t,u]},ty,pos,aft,g⟩::rest) e w Q:=by
 obtain ⟨i,hi1,hi2,hi3,hi4⟩:=hz.ex
 obtain ⟨v',w',hr,ho,hg,_⟩:=Lib.run_append_own_string w B t u ty el i hu.eq hs'.eq hi1 hi4 hi2 hi3 v m xs hown (bs r) (by rw [bs_size];unfold maxLen;omega) (by rw [bs_size];omega) hB
 rw [bs_size] at ho
 exact zl_run (v:=v') (w':=w') hw rfl hdn (fun A hA=>by simp [execOp,resolve,invoke,builtin,hA.ev hs,hA.ev hx,hr]) (h v' w' ho ⟨hg.os,hg.tape,hg.output,hg.size,fun k hk hn=>hg.block k hk (fun he=>hn he.symm)⟩)
theorem z_appendB {s x:Operand} {t el:TypeId} {sz k m m' B:Nat} {z v xv:Value} {xs news:List Value} [hu:Und P t (.slice el)] [hz:Inf P el sz k z] (hzs:z.cells.size=sz) (hsz:0<sz) (hw:Want ops e g) (hdn:d<n)
  (hs:ev e s=some v) (hx:ev e x=some xv) (hown:w.ownsRow B el sz v m xs) (hnews:RdS w el sz xv m' news) (h1: ∀u∈xs,u.oneCell'=true) (h63:m+m'≤9223372036854775807) (hby:(m+m')*k≤140737488355328) (hB:B≤w.heap.size)
  (h: ∀v' w',w'.ownsRow B el sz v' (m+m') (xs++news)→Chg w w' (fun k=>v.ownBlock=some k)→ZL P n ops rest ((d,v')::e) w' Q):
  ZL P n ops (⟨some d,.call {callee:= .builtin .append,args:= #[s,x],argTypes:= #[t,t]},ty,pos,aft,g⟩::rest) e w Q:=by
 have hO0:Own w el sz v m xs:=by
  refine ⟨⟨hown.1,?_⟩,h1⟩
  rcases hown.2 with h|⟨g,cap,cur,e1,e2,e3⟩
  ·exact .inl h
  ·exact .inr ⟨g,cap,cur,e1,Nat.zero_le _,e3⟩
 refine z_appendO hzs hsz hw hdn hs hx hO0 hnews h63 hby (fun v' w' hO' hC hr=>h v' w' ?_ hC)
 obtain ⟨⟨a1,a2⟩,_⟩:=hO'
 refine ⟨a1,?_⟩
 rcases a2 with h|⟨g,cap,cur,rfl,e2,e3⟩
 ·exact .inl h
 ·refine .inr ⟨g,cap,cur,rfl,?_,e3⟩
  rcases hr with hr|⟨q,hr,hq⟩
  ·rcases hown.2 with ⟨rfl,_⟩|⟨g',cap',cur',rfl,e2',_⟩
   ·cases hr
   ·simp only [Value.ownBlock,Option.some.injEq] at hr;omega
  ·simp only [Value.ownBlock,Option.some.injEq] at hr;omega
theorem run_ptr_eqGuard (op:BinOp) (t:TypeId) (x y:Operand) (p q:Option Addr):(eqGuard op t x y (.pointer p) (.pointer q)).run P w= .ok () w:=by
 cases op<;>rfl
theorem z_ptrNil {x:Operand} {q:Bool} {t el:TypeId} {p:Option Addr} [hu:Und P t (.pointer el)] (hw:Want ops e g) (hdn:d<n) (hx:ev e x=some (.pointer p)) (hq:q=p.isNone) (h:ZL P n ops rest ((d,.bool q)::e) w Q):
  ZL P n ops (⟨some d,.binOp .eql t x (.const (.pointer none)) t,ty,pos,aft,g⟩::rest) e w Q:=
 zl_run hw rfl hdn (fun A hA=>by
  have hp:P.underlying t=some (.pointer (P.pointee t)):=by simp [Program.pointee,hu.eq]
  have:=run_eql_pointer_nil (P:=P) (w:=w) t p hp
  have he:A.eval (.const (.pointer none))= .pointer none:=rfl
  cases p<;>simp [execOp,hA.ev hx,he,run_ptr_eqGuard,this,hq]) h
theorem z_ptrNe {x y:Operand} {t el:TypeId} {a:Addr} {s k:Nat} {z:Value} [hu:Und P t (.pointer el)] [hz:Inf P el s k z] (hw:Want ops e g) (hdn:d<n) (hx:ev e x=some (.pointer (some a))) (hy:ev e y=some (.pointer (some a))) (h:ZL P n ops rest ((d,.bool false)::e) w Q):
  ZL P n ops (⟨some d,.binOp .neq t x y t,ty,pos,aft,g⟩::rest) e w Q:=
 zl_run hw rfl hdn (fun A hA=>by
  obtain ⟨i,hi1,hi2,hi3,hi4⟩:=hz.ex
  have:=Lib.run_neq_ptr_same (P:=P) w a hu.eq hi1
  simp [execOp,hA.ev hx,hA.ev hy,run_ptr_eqGuard,this]) h
theorem z_noEsc {x:Operand} {f:FuncId} {fn:Func} {v:Value} {ats:Array TypeId} (hf:P.funcs[f]? =some fn) (h1:(fn.name== "runtime.NumGoroutine")=false) (h2:fn.body.isNone=true) (h3:Extern.findNext fn=none) (h4:Extern.find fn=some Extern.AbiNoEscape.same) (hw:Want ops e g) (hdn:d<n) (hx:ev e x=some v)
  (h:ZL P n ops rest ((d,v)::e) w Q):ZL P n ops (⟨some d,.call {callee:= .value (.func f),args:= #[x],argTypes:=ats},ty,pos,aft,g⟩::rest) e w Q:=
 zl_run hw rfl hdn (fun A hA=>by
  have hr:(callFunc f #[v]).run P w= .ok (.value v) w:=by
   rw [run_callFunc_extern hf h1 h2 h3 h4]
   rw [Lib.run_noEscape];rfl
  have he:A.eval (.func f)= .func (.func f) #[] #[]:=rfl
  simp [execOp,resolve,he,Deferred.ofValue,invoke,hA.ev hx,hr]) h
theorem z_toU {x:Operand} {src dst t T:TypeId} {b s k:Nat} {cs:List Value} {z:Value} [hs:Und P src (.pointer t)] [hd:Und P dst .unsafePointer] [hz:Inf P t s k z] (hs0:s≠0) (hw:Want ops e g) (hdn:d<n) (hx:ev e x=some (.pointer (some ⟨b,0,none⟩))) (hb:Blk w b T cs) (hc:0<cs.length)
  (h:ZL P n ops rest ((d,.pointer (some ⟨b,0,none⟩))::e) w Q):ZL P n ops (⟨some d,.convert src dst x,ty,pos,aft,g⟩::rest) e w Q:=
 zl_run hw rfl hdn (fun A hA=>by
  obtain ⟨i,hi1,hi2,hi3,hi4⟩:=hz.ex
  have hb':w.heap[b]? =_:=hb
  have:=Lib.run_to_unsafe (P:=P) w ⟨b,0,none⟩ hs.eq hd.eq hi1 (by rw [hi2];exact hs0) (e:=T) (cells:=cs.length) (by simp [World.shape?,hb']) hc
  simp [execOp,hA.ev hx,this]) h
theorem z_fromU {x:Operand} {src dst t T:TypeId} {b s k:Nat} {cs:List Value} {z:Value} [hs:Und P src .unsafePointer] [hd:Und P dst (.pointer t)] [hz:Inf P t s k z] (hl:liesAt P P.depth T (cs.length / P.cellsOf T) 0 t 1=true) (hw:Want ops e g) (hdn:d<n) (hx:ev e x=some (.pointer (some ⟨b,0,none⟩))) (hb:Blk w b T cs)
  (h:ZL P n ops rest ((d,.pointer (some ⟨b,0,none⟩))::e) w Q):ZL P n ops (⟨some d,.convert src dst x,ty,pos,aft,g⟩::rest) e w Q:=
 zl_run hw rfl hdn (fun A hA=>by
  obtain ⟨i,hi1,hi2,hi3,hi4⟩:=hz.ex
  have hb':w.heap[b]? =_:=hb
  have:=Lib.run_from_unsafe (P:=P) w ⟨b,0,none⟩ hs.eq hd.eq hi1 (e:=T) (cells:=cs.length) (by simp [World.shape?,hb']) hl
  simp [execOp,hA.ev hx,this]) h
end
end Go.Z
namespace Go.Proofs.YtbcmiijollpgeaaGreat.T
open Go Go.Z Go.Proofs
theorem cellsB_one (l:List UInt8): ∀u∈cellsB l,u.oneCell'=true:=by
 intro u hu
 simp only [cellsB,List.mem_map] at hu
 obtain ⟨b,_,rfl⟩:=hu
 rfl
theorem cellsB_app (l r:List UInt8):cellsB (l++r)=cellsB l++cellsB r:=by simp [cellsB]
theorem cellsB_len (l:List UInt8):(cellsB l).length=l.length:=by simp [cellsB]
theorem strCells_bs (r:List UInt8):Lib.strCells (bs r)=cellsB r:=by
 simp [Lib.strCells,cellsB,bs]
instance:Und Tryz.prog 163 .unsafePointer:=⟨by kernel_rfl⟩
class IsB (T:TypeId):Prop where
 lies:liesAt Tryz.prog Tryz.prog.depth T (2 / Tryz.prog.cellsOf T) 0 55 1=true
 ne5:T≠5
 ne9:T≠9
instance:IsB 55:=⟨by kernel_rfl,by decide,by decide⟩
instance:IsB 57:=⟨by kernel_rfl,by decide,by decide⟩
def Sb (w:World) (B b:Nat):Nat→Prop:=fun k=>k=b∨(B≤k∧ ∃cs,Blk w k 5 cs)
theorem Sb.trans {w w1 w2:World} {B b:Nat} (h:Chg w w1 (Sb w B b)) (h2:Chg w1 w2 (Sb w1 B b)):Chg w w2 (Sb w B b):=by
 refine h.trans h2 (fun i hi hs=> ?_)
 by_cases hq:Sb w B b i
 ·exact hq
 ·rcases hs with hs|⟨hs,cs,hb⟩
  ·exact .inl hs
  ·refine .inr ⟨hs,cs,?_⟩
   have:=h.same i hi hq
   unfold Blk at hb ⊢
   rw [←this];exact hb
def Bd (T:TypeId) (w:World) (B b:Nat) (l:List UInt8):Prop:=
 ∃p v,(p=none∨p=some ⟨b,0,none⟩)∧Blk w b T [.pointer p,v]∧w.ownsRow B 5 1 v l.length (cellsB l)∧ ∃A c,v= .slice A l.length c
theorem Chg.liftS {w0 w w':World} {B b:Nat} (h0:Chg w0 w No) (hB:w0.heap.size≤B) (hb:w0.heap.size≤b) (h:Chg w w' (Sb w B b)):Chg w0 w' No:=h0.trans h (fun i hi hs=>by rcases hs with hs|⟨hs,_⟩<;>omega)
theorem own_form {w:World} {B e m:Nat} {v:Value} {xs:List Value} (h:w.ownsRow B e 1 v m xs): ∃A c,v= .slice A m c:=by
 rcases h.2 with ⟨rfl,rfl⟩|⟨g,cap,cur,rfl,_⟩
 ·exact ⟨none,0,rfl⟩
 ·exact ⟨_,_,rfl⟩
theorem own_ge {w:World} {B e sz m:Nat} {v:Value} {xs:List Value} (h:w.ownsRow B e sz v m xs): ∀k,v.ownBlock=some k→B≤k∧ ∃cs,Blk w k e cs:=by
 intro k hk
 rcases h.2 with ⟨rfl,_⟩|⟨g,cap,cur,rfl,e2,e3,_⟩
 ·cases hk
 ·simp only [Value.ownBlock,Option.some.injEq] at hk;subst hk;exact ⟨e2,cur.toList,by simpa [Blk] using e3⟩
theorem own_chg {w w':World} {B e sz m:Nat} {v:Value} {xs:List Value} {S:Nat→Prop} (h:w.ownsRow B e sz v m xs) (hc:Chg w w' S) (hn: ∀k,v.ownBlock=some k→ ¬S k):w'.ownsRow B e sz v m xs:=by
 refine ⟨h.1,?_⟩
 rcases h.2 with h2|⟨g,cap,cur,rfl,e2,e3,e4⟩
 ·exact .inl h2
 ·refine .inr ⟨g,cap,cur,rfl,e2,?_,e4⟩
  have hlt:g<w.heap.size:=(Array.getElem?_eq_some_iff.1 e3).1
  rw [hc.same g hlt (hn g rfl)];exact e3
section
variable {T : TypeId} {w w' : World} {B b : Nat} {l : List UInt8}
theorem Bd.fresh (hb:Blk w b T [.pointer none,.slice none 0 0]):Bd T w B b []:=
 ⟨none,.slice none 0 0,.inl rfl,hb,World.ownsRow_nil _ _ _ _,none,0,rfl⟩
theorem Bd.chg {S:Nat→Prop} (h:Bd T w B b l) (hc:Chg w w' S) (hb': ¬S b) (hS: ∀k,k<w.heap.size→B≤k→ ¬S k):Bd T w' B b l:=by
 obtain ⟨p,v,hp,hb,ho,hv⟩:=h
 refine ⟨p,v,hp,hb.chg hc hb',own_chg ho hc (fun k hk=> ?_),hv⟩
 obtain ⟨h1,cs,h2⟩:=own_ge ho k hk
 exact hS k h2.lt h1
theorem Bd.no (h:Bd T w B b l) (hc:Chg w w' No):Bd T w' B b l:=h.chg hc id (fun _ _ _=>id)
end
section
variable {T : TypeId} [hT : IsB T] {w w' : World} {B b : Nat} {l : List UInt8}
theorem cc_calls (h:Bd T w B b l):Calls Tryz.prog 103 [.pointer (some ⟨b,0,none⟩)].toArray w fun e w'=>e= .returned (.tuple #[])∧
  (∃v,Blk w' b T [.pointer (some ⟨b,0,none⟩),v]∧w'.ownsRow B 5 1 v l.length (cellsB l)∧ ∃A c,v= .slice A l.length c)∧Chg w w' (Sb w B b):=by
 obtain ⟨p,v,hp,hb,ho,A,c,hv⟩:=h
 have hT0:=hT
 refine zCz 20 Tryz.func103 ?_
 refine zz ?_
 refine z_ptrNil (want_L rfl) (by decide) rfl rfl ?_
 rcases hp with rfl|rfl
 ·refine zz ?_
  refine z_toU (T:=T) (b:=b) (by decide) (want_L rfl) (by decide) rfl hb (by simp) ?_
  refine z_noEsc Tryz.func142 (by kernel_rfl) (by kernel_rfl) (by kernel_rfl) (by kernel_rfl) (want_L rfl) (by decide) rfl ?_
  refine z_fromU (T:=T) (b:=b) (t:=55) (cs:= [.pointer none,v]) hT.lies (want_L rfl) (by decide) rfl hb ?_
  refine zP rfl (zfa rfl ?_)
  refine z_store (want_L rfl) rfl rfl rfl (by assumption) (by first|exact Nat.le_refl _|simp [Value.cells]) (by simp [Value.cells,Value.oneCell']) (fun w2 hU=> ?_)
  refine zN ?_
  refine zk_ret0 (.inl rfl) rfl ⟨rfl,⟨v,hU.blk,own_chg ho hU.chg (fun k hk he=> ?_),A,c,hv⟩,(Chg.refl _ _).updS hU (.inr (.inl rfl))⟩
  obtain ⟨h1,cs,h2⟩:=own_ge ho k hk
  subst he
  exact h2.ne hb (Ne.symm hT.ne5) rfl
 ·refine zz ?_
  refine z_ptrNe (want_L rfl) (by decide) rfl rfl ?_
  refine zz ?_
  exact zk_ret0 (.inl rfl) rfl ⟨rfl,⟨v,hb,ho,A,c,hv⟩,Chg.refl _ _⟩
theorem own_cells {w:World} {B:Nat} {v:Value} {l:List UInt8} (h:w.ownsRow B 5 1 v l.length (cellsB l)) {g:Nat} {c:Nat} (hv:v= .slice (some ⟨g,0,none⟩) l.length c):
  ∃cur:Array Value,w.heap[g]? =some (.cells cur 5 (0,0))∧l.length≤c∧c≤maxLen∧cur.size=c∧ ∀(j:Nat) (x:UInt8),l[j]? =some x→w.cell? ⟨g,j,none⟩=some (.int .u8 x.toNat):=by
 obtain ⟨h1,h2⟩:=h
 rcases h2 with ⟨h2,_⟩|⟨g',cap,cur,h2,_,hg,h3,h4,h5,h6⟩
 ·rw [hv] at h2;cases h2
 ·rw [hv] at h2;cases h2
  refine ⟨cur,hg,h3,h4,by simpa using h5,fun j x hj=> ?_⟩
  have hlt:j<l.length:=(List.getElem?_eq_some_iff.1 hj).1
  have h7:(cellsB l)[j]? =some (.int .u8 x.toNat):=by simp [cellsB,hj]
  rw [←h6,List.getElem?_take_of_lt (by omega)] at h7
  simp [World.cell?,hg]
  simpa using h7
theorem ws_calls (r:List UInt8) (h:Bd T w B b l) (hl:l.length+r.length≤140737488355328) (hB:B≤w.heap.size):
  Calls Tryz.prog 65 [.pointer (some ⟨b,0,none⟩),.string (bs r)].toArray w fun e w'=>e= .returned (.tuple #[.int .i64 r.length,.nilIface])∧Bd T w' B b (l++r)∧Chg w w' (Sb w B b):=by
 have hT0:=hT
 refine zCz 19 Tryz.func65 ?_
 refine zz ?_
 refine zCl rfl (cc_calls h) ?_
 rintro _ w1 ⟨rfl,⟨v,hb1,hO,A,c,hv⟩,hC1⟩
 refine ⟨_,rfl,?_⟩
 have hs1:=hC1.size
 subst hv
 refine zz ?_
 refine z_appendSt (u:=9) (el:=5) (want_L rfl) (by decide) rfl rfl hO (by omega) (by omega) (fun v3 w3 hO3 hC3=> ?_)
 have hne: ∀k,(Value.slice A l.length c).ownBlock=some k→k≠b:=fun k hk he=>by
  obtain ⟨_,cs,h2⟩:=own_ge hO k hk
  exact h2.ne hb1 (Ne.symm hT.ne5) he
 have hb3:=hb1.chg hC3 (fun he=>hne b he rfl)
 obtain ⟨A3,c3,hv3⟩:=own_form hO3
 subst hv3
 refine zP rfl (zfa rfl ?_)
 refine z_store (want_L rfl) rfl rfl rfl (by assumption) (by first|exact Nat.le_refl _|simp [Value.cells]) (by simp [Value.cells,Value.oneCell']) (fun w4 hU4=> ?_)
 refine zz ?_
 have hne3: ∀k,(Value.slice A3 (l.length+r.length) c3).ownBlock=some k→k≠b:=fun k hk he=>by
  obtain ⟨_,cs,h2⟩:=own_ge hO3 k hk
  exact h2.ne hb3 (Ne.symm hT.ne5) he
 refine zk_ret2 (.inr rfl) rfl rfl rfl ⟨rfl,⟨some ⟨b,0,none⟩,_,.inr rfl,hU4.blk,?_,A3,c3,by rw [List.length_append]⟩,(Sb.trans hC1 (hC3.mono (fun i hi he=> .inr (own_ge hO i he)))).trans hU4.chg (fun i hi he=> .inl he)⟩
 have:=own_chg hO3 hU4.chg (fun k hk he=>hne3 k hk he)
 rw [strCells_bs] at this
 rw [List.length_append,cellsB_app]
 exact this
theorem wb_calls (c:UInt8) (h:Bd T w B b l) (hl:l.length+1≤140737488355328) (hB:B≤w.heap.size):
  Calls Tryz.prog 69 [.pointer (some ⟨b,0,none⟩),.int .u8 c.toNat].toArray w fun e w'=>e= .returned .nilIface∧Bd T w' B b (l++ [c])∧Chg w w' (Sb w B b):=by
 have hT0:=hT
 refine zCz 17 Tryz.func69 ?_
 refine zz ?_
 refine zCl rfl (cc_calls h) ?_
 rintro _ w1 ⟨rfl,⟨v,hb1,hO,A,c1,hv⟩,hC1⟩
 refine ⟨_,rfl,?_⟩
 have hs1:=hC1.size
 subst hv
 refine zz ?_
 refine zB1 rfl (fun w2 b2 hN2=> ?_)
 have hC2:=hC1.no hN2.chg
 have hO2:=own_chg hO hN2.chg (fun _ _=>id)
 have hb2:=hb1.no hN2.chg
 have hr2:RdS w2 5 1 (.slice (some ⟨b2,0,none⟩) 1 1) 1 [.int .u8 c.toNat]:=RdS.new hN2 rfl (fun u hu=>by simp only [List.mem_singleton] at hu;subst hu;rfl)
 refine z_appendB (B:=B) (by rfl) (by decide) (want_L rfl) (by decide) rfl rfl hO2 hr2 (cellsB_one l) (by omega) (by omega) (by have:=hC2.size;omega) (fun v3 w3 hO3 hC3=> ?_)
 have hne: ∀k,(Value.slice A l.length c1).ownBlock=some k→k≠b:=fun k hk he=>by
  obtain ⟨_,cs,h2⟩:=own_ge hO2 k hk
  exact h2.ne hb2 (Ne.symm hT.ne5) he
 have hb3:=hb2.chg hC3 (fun he=>hne b he rfl)
 obtain ⟨A3,c3,hv3⟩:=own_form hO3
 subst hv3
 refine zP rfl (zfa rfl ?_)
 refine z_store (want_L rfl) rfl rfl rfl (by assumption) (by first|exact Nat.le_refl _|simp [Value.cells]) (by simp [Value.cells,Value.oneCell']) (fun w4 hU4=> ?_)
 refine zz ?_
 have hne3: ∀k,(Value.slice A3 (l.length+1) c3).ownBlock=some k→k≠b:=fun k hk he=>by
  obtain ⟨_,cs,h2⟩:=own_ge hO3 k hk
  exact h2.ne hb3 (Ne.symm hT.ne5) he
 refine zk_ret1 (.inr rfl) rfl rfl ⟨rfl,⟨some ⟨b,0,none⟩,_,.inr rfl,hU4.blk,?_,A3,c3,by rw [List.length_append];rfl⟩,(Sb.trans hC2 (hC3.mono (fun i hi he=> .inr (own_ge hO2 i he)))).trans hU4.chg (fun i hi he=> .inl he)⟩
 have:=own_chg hO3 hU4.chg (fun k hk he=>hne3 k hk he)
 rw [List.length_append,cellsB_app]
 exact this
theorem Chg.alloc1 (w:World) (x:Obj):Chg w (w.alloc x) No:=Chg.of_below ((RowKit.Below.refl w.heap.size w).alloc (Nat.le_refl _) _)
theorem Chg.freeze1 (w:World) (g n:Nat):Chg w (w.freeze ⟨g,0,none⟩ n) (fun k=>k=g):=by
 unfold World.freeze
 split
 ·exact Chg.refl _ _
 ·refine ⟨rfl,rfl,rfl,by simp,fun k hk hn=> ?_⟩
  simp only [Array.getElem?_modify]
  rw [if_neg (fun h=>hn h.symm)]
theorem alloc_cell (w:World) (x:Obj) (a:Addr) (h:a.block<w.heap.size):(w.alloc x).cell? a=w.cell? a:=by
 have:=(Chg.alloc1 w x).same a.block h id
 simp only [World.cell?,this]
theorem freeze_cell (w:World) (g n b:Nat) (hn:b≠g) (o:Nat):(w.freeze ⟨g,0,none⟩ n).cell? ⟨b,o,none⟩=w.cell? ⟨b,o,none⟩:=by
 unfold World.freeze
 split
 ·rfl
 ·simp [World.cell?,Array.getElem?_modify,Ne.symm hn]
theorem str_calls (h:Bd T w B b l) (hB:B≤w.heap.size):Calls Tryz.prog 21 [.pointer (some ⟨b,0,none⟩)].toArray w fun e w'=>e= .returned (.string (bs l))∧Chg w w' (Sb w B b):=by
 have hT0:=hT
 obtain ⟨p,v,hp,hb,hO,A,c,hv⟩:=h
 subst hv
 refine zCz 14 Tryz.func21 ?_
 refine zz ?_
 refine zc_draw [] (fun w'=>w'.cell? ⟨b,1,none⟩=some (.slice A l.length c)) (.take 0 (.take 1 (.take 2 (.take 3 (.take 5 (.take 6 (.take 7 (.take 8 (.take 9 (.all1 4 (.all1 10 (.take 11 (.fin))))))))))))) (by rfl) (by kernel_rfl) (by kernel_rfl) (fun w1 hC1 _=>⟨?_,?_⟩)
 ·have:=(hb.no hC1).cell 1;simpa using this
 have hb1:=hb.no hC1
 have hO1:=own_chg hO hC1 (fun _ _=>id)
 have hs1:=hC1.size
 have hc1:w1.cell? ⟨b,1,none⟩=some (.slice A l.length c):=by have:=hb1.cell 1;simpa using this
 repeat (first|(show ZS _ _ _ _ _ (.take _ _) _ _ _; (first|(show ZL _ _ _ _ _ _ _;first|(show ZL _ _ _ [] _ _ _; (refine zN ?_))|(first|(show ZL _ _ _ (⟨_,(.move _),_,_,_,_⟩::_) _ _ _; (refine zP rfl ?_))|(show ZL _ _ _ (⟨_,(.assign _),_,_,_,_⟩::_) _ _ _; (refine zP rfl ?_))|(show ZL _ _ _ (⟨_,(.nilCheck _),_,_,_,_⟩::_) _ _ _; (refine zP rfl ?_))|(show ZL _ _ _ (⟨_,(.pick _ _ _),_,_,_,_⟩::_) _ _ _; (refine zP rfl ?_))|(show ZL _ _ _ (⟨_,(.extract _ _),_,_,_,_⟩::_) _ _ _; (refine zP rfl ?_))|(show ZL _ _ _ (⟨_,(.unOp .not _ _),_,_,_,_⟩::_) _ _ _; (refine zP rfl ?_))|(show ZL _ _ _ (⟨_,(.load _ _),_,_,_,_⟩::_) _ _ _;first|(refine z_loadB (by first|(exact want_none)|(exact want_L rfl)) (by decide) rfl (by assumption) (by rfl) ?_)|(refine z_load1 (by first|(exact want_none)|(exact want_L rfl)) (by decide) rfl (by assumption) ?_)|(refine z_loadAB (by first|(exact want_none)|(exact want_L rfl)) (by decide) rfl (by assumption) (by rfl) ?_))|(show ZL _ _ _ (⟨_,(.fieldAddr _ _ _),_,_,_,_⟩::_) _ _ _; (refine z_fa (by first|(exact want_none)|(exact want_L rfl)) (by decide) rfl ?_))|(show ZL _ _ _ (⟨_,(.indexAddr _ _ _),_,_,_,_⟩::_) _ _ _; (refine z_ia (by first|(exact want_none)|(exact want_L rfl)) (by decide) rfl rfl (by omega) (by omega) ?_))|(show ZL _ _ _ (⟨_,(.call ⟨.builtin .len,_,_⟩),_,_,_,_⟩::_) _ _ _;first|(refine z_len (by first|(exact want_none)|(exact want_L rfl)) (by decide) rfl ?_)|(refine z_lenL (by first|(exact want_none)|(exact want_L rfl)) (by decide) rfl ?_)|(refine z_lenS (by first|(exact want_none)|(exact want_L rfl)) (by decide) rfl ?_))|(show ZL _ _ _ (⟨_,(.binOp .add _ _ _ _),_,_,_,_⟩::_) _ _ _;first|(refine z_add (by first|(exact want_none)|(exact want_L rfl)) (by decide) rfl rfl (by omega) (by omega) ?_)|(refine z_catL (by first|(exact want_none)|(exact want_L rfl)) (by decide) rfl rfl (by omega) ?_)|(refine z_catL (by first|(exact want_none)|(exact want_L rfl)) (by decide) rfl rfl (by simp only [List.length_append,List.length_cons,List.length_nil];omega) ?_))|(show ZL _ _ _ (⟨_,(.binOp .sub _ _ _ _),_,_,_,_⟩::_) _ _ _; (refine z_sub (by first|(exact want_none)|(exact want_L rfl)) (by decide) rfl rfl (by omega) (by omega) ?_))|(show ZL _ _ _ (⟨_,(.index _ _ _),_,_,_,_⟩::_) _ _ _;first|(refine z_idxP (by first|(exact want_none)|(exact want_L rfl)) (by decide) rfl rfl (by omega) ?_)|(refine z_idxM (by first|(exact want_none)|(exact want_L rfl)) (by decide) rfl rfl (by omega) (by omega) ?_)|(refine z_idxC 0 (by first|(exact want_none)|(exact want_L rfl)) (by decide) rfl rfl rfl (by omega) ?_)|(refine z_idxC 1 (by first|(exact want_none)|(exact want_L rfl)) (by decide) rfl rfl rfl (by omega) ?_)|(refine z_idxN (by first|(exact want_none)|(exact want_L rfl)) (by decide) rfl rfl (by omega) ?_)|(refine z_idxA (by first|(exact want_none)|(exact want_L rfl)) (by decide) rfl rfl (by omega) ?_))|(show ZL _ _ _ (⟨_,(.binOp _ _ _ _ _),_,_,_,_⟩::_) _ _ _;first|(refine z_cmpB (r:=true) (by first|(exact want_none)|(exact want_L rfl)) (by decide) rfl rfl rfl (iff_of_true rfl (by omega)) ?_)|(refine z_cmpB (r:=false) (by first|(exact want_none)|(exact want_L rfl)) (by decide) rfl rfl rfl (iff_of_false Bool.false_ne_true (by omega)) ?_))|(show ZL _ _ _ (⟨_,_,_,_,_,some _⟩::_) _ _ _; (refine zJ rfl ?_))))|(show ZC _ _ _ _ _ _;first|(show ZC _ _ (.seq _ _) _ _ _; (refine zS ?_))|(show ZC _ _ (.region _ _ false) _ _ _; (refine zR ?_))|(show ZC _ _ (.block _ _) _ _ _; (refine zB ?_))|(show ZC _ _ .skip _ _ _; (refine zA ?_))|(show ZC _ _ (.exit _) _ _ _; (refine zL ?_))|(show ZC _ _ .ret _ _ _; (refine zE ?_))|(show ZC _ _ (.cond _ _ _) _ _ _;first|(refine zT rfl ?_)|(refine zF rfl ?_)))|(show ZK _ _ _ _ _;first|(refine zK ?_)|(refine zX ?_)|(refine zQ ?_)|(refine zW ?_)|(refine zM ?_)|(refine zY ?_)|(refine zY' rfl ?_))|(show ZS _ _ _ _ _ _ _ _ _;first|(show ZS _ _ _ _ _ (.take _ _) _ _ _; (refine zs_take rfl ?_;first|(show ZT _ _ _ _ _ _ _ ⟨_,(.move _),_,_,_,_⟩ _ _ _; (refine zt_pure rfl ?_))|(show ZT _ _ _ _ _ _ _ ⟨_,(.assign _),_,_,_,_⟩ _ _ _; (refine zt_pure rfl ?_))|(show ZT _ _ _ _ _ _ _ ⟨_,(.nilCheck _),_,_,_,_⟩ _ _ _; (refine zt_pure rfl ?_))|(show ZT _ _ _ _ _ _ _ ⟨_,(.pick _ _ _),_,_,_,_⟩ _ _ _; (refine zt_pure rfl ?_))|(show ZT _ _ _ _ _ _ _ ⟨_,(.extract _ _),_,_,_,_⟩ _ _ _; (refine zt_pure rfl ?_))|(show ZT _ _ _ _ _ _ _ ⟨_,(.unOp .not _ _),_,_,_,_⟩ _ _ _; (refine zt_pure rfl ?_))|(show ZT _ _ _ _ _ _ _ ⟨_,(.load _ _),_,_,_,_⟩ _ _ _;first|(refine zt_rd (by first|(exact want_none)|(exact want_L rfl)) rfl (by decide) (fun _ hS=>r_loadB rfl (by first|(exact hS)|(exact hS.1)|(exact hS.2)|(exact hS.2.1)|(exact hS.2.2)|(exact hS.2.2.1)|(exact hS.2.2.2)|(exact hS.2.2.2.1)|(exact hS.2.2.2.2)|(exact hS.2.2.2.2.1)|(exact hS.2.2.2.2.2)) (by rfl)) ?_)|(refine zt_rd (by first|(exact want_none)|(exact want_L rfl)) rfl (by decide) (fun _ hS=>r_load1 rfl (by first|(exact hS)|(exact hS.1)|(exact hS.2)|(exact hS.2.1)|(exact hS.2.2)|(exact hS.2.2.1)|(exact hS.2.2.2)|(exact hS.2.2.2.1)|(exact hS.2.2.2.2)|(exact hS.2.2.2.2.1)|(exact hS.2.2.2.2.2))) ?_)|(refine zt_rd (by first|(exact want_none)|(exact want_L rfl)) rfl (by decide) (fun _ hS=>r_loadAB rfl (by first|(exact hS)|(exact hS.1)|(exact hS.2)|(exact hS.2.1)|(exact hS.2.2)|(exact hS.2.2.1)|(exact hS.2.2.2)|(exact hS.2.2.2.1)|(exact hS.2.2.2.2)|(exact hS.2.2.2.2.1)|(exact hS.2.2.2.2.2)) (by rfl)) ?_))|(show ZT _ _ _ _ _ _ _ ⟨_,(.fieldAddr _ _ _),_,_,_,_⟩ _ _ _; (refine zt_rd (by first|(exact want_none)|(exact want_L rfl)) rfl (by decide) (fun _ hS=>r_fa rfl) ?_))|(show ZT _ _ _ _ _ _ _ ⟨_,(.indexAddr _ _ _),_,_,_,_⟩ _ _ _; (refine zt_rd (by first|(exact want_none)|(exact want_L rfl)) rfl (by decide) (fun _ hS=>r_ia rfl rfl (by omega) (by omega)) ?_))|(show ZT _ _ _ _ _ _ _ ⟨_,(.call ⟨.builtin .len,_,_⟩),_,_,_,_⟩ _ _ _;first|(refine zt_rd (by first|(exact want_none)|(exact want_L rfl)) rfl (by decide) (fun _ hS=>r_len rfl) ?_)|(refine zt_rd (by first|(exact want_none)|(exact want_L rfl)) rfl (by decide) (fun _ hS=>r_lenL rfl) ?_)|(refine zt_rd (by first|(exact want_none)|(exact want_L rfl)) rfl (by decide) (fun _ hS=>r_lenS rfl) ?_))|(show ZT _ _ _ _ _ _ _ ⟨_,(.binOp .add _ _ _ _),_,_,_,_⟩ _ _ _;first|(refine zt_rd (by first|(exact want_none)|(exact want_L rfl)) rfl (by decide) (fun _ hS=>r_add rfl rfl (by omega) (by omega)) ?_)|(refine zt_rd (by first|(exact want_none)|(exact want_L rfl)) rfl (by decide) (fun _ hS=>r_catL rfl rfl (by omega)) ?_)|(refine zt_rd (by first|(exact want_none)|(exact want_L rfl)) rfl (by decide) (fun _ hS=>r_catL rfl rfl (by simp only [List.length_append,List.length_cons,List.length_nil];omega)) ?_))|(show ZT _ _ _ _ _ _ _ ⟨_,(.binOp .sub _ _ _ _),_,_,_,_⟩ _ _ _; (refine zt_rd (by first|(exact want_none)|(exact want_L rfl)) rfl (by decide) (fun _ hS=>r_sub rfl rfl (by omega) (by omega)) ?_))|(show ZT _ _ _ _ _ _ _ ⟨_,(.index _ _ _),_,_,_,_⟩ _ _ _; (refine zt_rd (by first|(exact want_none)|(exact want_L rfl)) rfl (by decide) (fun _ hS=>r_idxN rfl rfl (by omega)) ?_))|(show ZT _ _ _ _ _ _ _ ⟨_,(.binOp _ _ _ _ _),_,_,_,_⟩ _ _ _;first|(refine zt_rd (by first|(exact want_none)|(exact want_L rfl)) rfl (by decide) (fun _ hS=>r_cmpB (r:=true) rfl rfl rfl (iff_of_true rfl (by omega))) ?_)|(refine zt_rd (by first|(exact want_none)|(exact want_L rfl)) rfl (by decide) (fun _ hS=>r_cmpB (r:=false) rfl rfl rfl (iff_of_false Bool.false_ne_true (by omega))) ?_))|(show ZT _ _ _ _ _ _ _ ⟨_,_,_,_,_,some _⟩ _ _ _; (refine zt_skip rfl ?_))))|(show ZS _ _ _ _ _ (.all1 _ _) _ _ _; (refine zs_alone rfl ?_;first|(show ZA _ _ _ _ _ _ _ ⟨_,(.move _),_,_,_,_⟩ _ _ _; (refine za_pure rfl ?_))|(show ZA _ _ _ _ _ _ _ ⟨_,(.assign _),_,_,_,_⟩ _ _ _; (refine za_pure rfl ?_))|(show ZA _ _ _ _ _ _ _ ⟨_,(.nilCheck _),_,_,_,_⟩ _ _ _; (refine za_pure rfl ?_))|(show ZA _ _ _ _ _ _ _ ⟨_,(.pick _ _ _),_,_,_,_⟩ _ _ _; (refine za_pure rfl ?_))|(show ZA _ _ _ _ _ _ _ ⟨_,(.extract _ _),_,_,_,_⟩ _ _ _; (refine za_pure rfl ?_))|(show ZA _ _ _ _ _ _ _ ⟨_,(.unOp .not _ _),_,_,_,_⟩ _ _ _; (refine za_pure rfl ?_))|(show ZA _ _ _ _ _ _ _ ⟨_,_,_,_,_,some _⟩ _ _ _; (refine za_skip rfl ?_))))|(show ZS _ _ _ _ _ (.plain _ _) _ _ _; (refine zs_plainL rfl rfl ?_))|(show ZS _ _ _ _ _ .fin _ _ _; (refine zs_fin ?_))))))
 have hlt1:=hb1.lt
 rcases A with _|ad
 ·have hl0:l= []:=by
   rcases hO.2 with ⟨hv,h0⟩|⟨g,cap,cur,hv,_⟩
   ·exact List.eq_nil_of_length_eq_zero h0
   ·cases hv
  subst hl0
  refine zs_run rfl (want_L rfl) rfl (by decide) (v:= .pointer none) (w':=w1) (fun X hX=>by simp [execOp,resolve,invoke,builtin,hX.ev (x:= .tmp 6) rfl,Lib.run_unsafeSliceData_nil]) hc1 ?_
  refine zs_run rfl (want_L rfl) rfl (by decide) (v:= .string .empty) (w':=w1) (fun X hX=>by
   have:=Lib.run_unsafeString_none (P:=Tryz.prog) w1 92 3 9 none
   simp [execOp,resolve,invoke,builtin,hX.ev (x:= .tmp 7) rfl,hX.ev (x:= .tmp 12) rfl,this]) hc1 ?_
  refine zz ?_
  exact zk_ret1 (.inr rfl) rfl rfl ⟨rfl,hC1.mono (fun k _ hk=>hk.elim)⟩
 ·have hown:=hO1
  obtain ⟨g,had⟩: ∃g,ad=⟨g,0,none⟩:=by
   rcases hO.2 with ⟨hv,h0⟩|⟨g,cap,cur,hv,_⟩
   ·cases hv
   ·cases hv;exact ⟨g,rfl⟩
  subst had
  obtain ⟨cur,hg,hlc,hcm,hcs,hcells⟩:=own_cells hO1 rfl
  obtain ⟨hBg,_⟩:=own_ge hO1 g rfl
  have hgb:b≠g:=fun he=>by
   subst he
   have h2:Blk w1 b 5 cur.toList:=by simpa [Blk] using hg
   exact h2.ne hb1 (Ne.symm hT.ne5) rfl
  by_cases hl0:l= []
  ·subst hl0
   by_cases hc0:c=0
   ·subst hc0
    have hS2:(w1.alloc (.view ⟨g,0,none⟩ 5)).cell? ⟨b,1,none⟩=some (.slice (some ⟨g,0,none⟩) 0 0):=(alloc_cell _ _ _ hlt1).trans hc1
    refine zs_run rfl (want_L rfl) rfl (by decide) (v:= .pointer (some ⟨w1.heap.size,0,none⟩)) (w':=w1.alloc (.view ⟨g,0,none⟩ 5)) (fun X hX=>by
     have:=Lib.run_unsafeSliceData_zero (P:=Tryz.prog) w1 #[53] 92 5 ZP.u92.eq ⟨g,0,none⟩ 0 (5,cur.size) (by simp [World.shape?,hg])
     simp [execOp,resolve,invoke,builtin,hX.ev (x:= .tmp 6) rfl,this]) hS2 ?_
    refine zs_run rfl (want_L rfl) rfl (by decide) (v:= .string .empty) (w':=w1.alloc (.view ⟨g,0,none⟩ 5)) (fun X hX=>by
     have:=Lib.run_unsafeString_none (P:=Tryz.prog) (w1.alloc (.view ⟨g,0,none⟩ 5)) 92 3 9 (some ⟨w1.heap.size,0,none⟩)
     simp [execOp,resolve,invoke,builtin,hX.ev (x:= .tmp 7) rfl,hX.ev (x:= .tmp 12) rfl,this]) hS2 ?_
    refine zz ?_
    exact zk_ret1 (.inr rfl) rfl rfl ⟨rfl,(hC1.mono (fun k _ hk=>hk.elim)).trans (Chg.alloc1 w1 _) (fun _ _ h=>h.elim)⟩
   ·refine zs_run rfl (want_L rfl) rfl (by decide) (v:= .pointer (some ⟨g,0,none⟩)) (w':=w1) (fun X hX=>by
     have:=Lib.run_unsafeSliceData_row (P:=Tryz.prog) w1 #[53] 92 ⟨g,0,none⟩ 0 c hc0
     simp [execOp,resolve,invoke,builtin,hX.ev (x:= .tmp 6) rfl,this]) hc1 ?_
    refine zs_run rfl (want_L rfl) rfl (by decide) (v:= .string .empty) (w':=w1) (fun X hX=>by
     have:=Lib.run_unsafeString_none (P:=Tryz.prog) w1 92 3 9 (some ⟨g,0,none⟩)
     simp [execOp,resolve,invoke,builtin,hX.ev (x:= .tmp 7) rfl,hX.ev (x:= .tmp 12) rfl,this]) hc1 ?_
    refine zz ?_
    exact zk_ret1 (.inr rfl) rfl rfl ⟨rfl,hC1.mono (fun k _ hk=>hk.elim)⟩
  ·have hln:l.length≠0:=fun h=>hl0 (List.eq_nil_of_length_eq_zero h)
   refine zs_run rfl (want_L rfl) rfl (by decide) (v:= .pointer (some ⟨g,0,none⟩)) (w':=w1) (fun X hX=>by
    have:=Lib.run_unsafeSliceData_row (P:=Tryz.prog) w1 #[53] 92 ⟨g,0,none⟩ l.length c (by omega)
    simp [execOp,resolve,invoke,builtin,hX.ev (x:= .tmp 6) rfl,this]) hc1 ?_
   have hS2:(w1.freeze ⟨g,0,none⟩ l.length).cell? ⟨b,1,none⟩=some (.slice (some ⟨g,0,none⟩) l.length c):=(freeze_cell w1 g l.length b hgb 1).trans hc1
   refine zs_run rfl (want_L rfl) rfl (by decide) (v:= .string (bs l)) (w':=w1.freeze ⟨g,0,none⟩ l.length) (fun X hX=>by
    have:=Lib.run_unsafeString_row (P:=Tryz.prog) w1 92 3 9 5 ZP.u92.eq (by kernel_rfl) g cur.size (by simp [World.shape?,hg]) l hl0 (by omega) (by unfold maxLen at hcm;omega) (fun j x hj=>by rw [addr_add,Nat.zero_add];exact hcells j x hj)
    simp [execOp,resolve,invoke,builtin,hX.ev (x:= .tmp 7) rfl,hX.ev (x:= .tmp 12) rfl,this,bs]) hS2 ?_
   refine zz ?_
   exact zk_ret1 (.inr rfl) rfl rfl ⟨rfl,(hC1.mono (fun k _ hk=>hk.elim)).trans (Chg.freeze1 w1 g _) (fun i hi h=>by subst h;exact .inr (own_ge hO i rfl))⟩
end
def byteL (s:List UInt8) (k:Nat):Nat:=(s.getD k 0).toNat
theorem byte_le (s:List UInt8) (k:Nat):byteL s k≤255:=by have:=(s.getD k 0).toNat_lt;unfold byteL;omega
theorem byte_drop (l:List UInt8) (i k:Nat):byteL (l.drop i) k=byteL l (i+k):=by
 unfold byteL
 rw [List.getD_eq_getElem?_getD,List.getD_eq_getElem?_getD,List.getElem?_drop]
theorem drop_cons0 (l:List UInt8) (i:Nat) (h:i<l.length):l.drop i=l.getD i 0::l.drop (i+1):=by
 rw [List.drop_eq_getElem_cons h,List.getD_eq_getElem?_getD,List.getElem?_eq_getElem h];rfl
def readT (L b0 b1 b2 b3:Nat):Nat×Nat:=
 if b0<128 then (b0,1)
 else if b0 / 32=6∧(1<L∧b1 / 64=2) then (if b0%32*64+b1%64≥128 then (b0%32*64+b1%64,2) else (65533,1))
 else if b0 / 16=14∧(1<L∧b1 / 64=2)∧(2<L∧b2 / 64=2) then
  (if b0%16*4096+b1%64*64+b2%64≥2048∧(b0%16*4096+b1%64*64+b2%64<55296∨57344≤b0%16*4096+b1%64*64+b2%64) then (b0%16*4096+b1%64*64+b2%64,3) else (65533,1))
 else if b0 / 8=30∧(1<L∧b1 / 64=2)∧(2<L∧b2 / 64=2)∧(3<L∧b3 / 64=2) then
  (if b0%8*262144+b1%64*4096+b2%64*64+b3%64≥65536∧b0%8*262144+b1%64*4096+b2%64*64+b3%64≤1114111 then (b0%8*262144+b1%64*4096+b2%64*64+b3%64,4) else (65533,1))
 else (65533,1)
theorem get_byte (l:List UInt8) (i:Nat):((bs l).get! i).toNat=byteL l i:=by
 unfold byteL bs ByteArray.get!
 simp [List.getD_eq_getElem?_getD]
 rfl
theorem decode_read (l:List UInt8) (i:Nat) (h:i<l.length):Utf8.decode (bs l) i=readT (l.drop i).length (byteL (l.drop i) 0) (byteL (l.drop i) 1) (byteL (l.drop i) 2) (byteL (l.drop i) 3):=by
 simp only [byte_drop,List.length_drop]
 unfold Utf8.decode readT
 simp only [get_byte,bs_size,Nat.add_zero,Utf8.runeError]
 have e1: ∀k,(decide (i+k<l.length))=decide (k<l.length - i):=fun k=>by
  rw [Bool.eq_iff_iff];simp;omega
 have b1:=byte_le l (i+1);have b2:=byte_le l (i+2);have b3:=byte_le l (i+3);have b0:=byte_le l i
 generalize byteL l i=c0 at*
 generalize byteL l (i+1)=c1 at*
 generalize byteL l (i+2)=c2 at*
 generalize byteL l (i+3)=c3 at*
 generalize hL:l.length - i=L at*
 simp only [e1]
 by_cases h1:c0<128
 ·rw [if_pos h1,if_pos h1]
 ·rw [if_neg h1,if_neg h1]
  by_cases h2:c0 / 32=6∧(1<L∧c1 / 64=2)
  ·rw [if_pos h2,if_pos (by simp [h2])]
  ·rw [if_neg h2,if_neg (by simpa using h2)]
   by_cases h3:c0 / 16=14∧(1<L∧c1 / 64=2)∧(2<L∧c2 / 64=2)
   ·rw [if_pos h3,if_pos (by simp [h3])]
    by_cases h5:c0%16*4096+c1%64*64+c2%64≥2048∧(c0%16*4096+c1%64*64+c2%64<55296∨57344≤c0%16*4096+c1%64*64+c2%64)
    ·rw [if_pos h5,if_pos]
     simp [Utf8.valid];omega
    ·rw [if_neg h5,if_neg]
     simp [Utf8.valid];omega
   ·rw [if_neg h3,if_neg (by simpa [and_assoc] using h3)]
    by_cases h4:c0 / 8=30∧(1<L∧c1 / 64=2)∧(2<L∧c2 / 64=2)∧(3<L∧c3 / 64=2)
    ·rw [if_pos h4,if_pos (by simp [h4])]
     by_cases h5:c0%8*262144+c1%64*4096+c2%64*64+c3%64≥65536∧c0%8*262144+c1%64*4096+c2%64*64+c3%64≤1114111
     ·rw [if_pos h5,if_pos]
      simp [Utf8.valid];omega
     ·rw [if_neg h5,if_neg]
      simp [Utf8.valid];omega
    ·rw [if_neg h4,if_neg (by simpa [and_assoc] using h4)]
theorem readT_law (L c0 c1 c2 c3:Nat) (hL:1≤L) (h0:c0≤255) (h1:c1≤255) (h2:c2≤255) (h3:c3≤255): ∃r n,readT L c0 c1 c2 c3=(r,n)∧r≤1114111∧
  ((c0<128∧r=c0∧n=1)∨(128≤c0∧c0=194∧1<L∧c1=160∧r=160∧n=2)∨
   (128≤c0∧ ¬(c0=194∧1<L∧c1=160)∧128≤r∧r≠160∧1≤n∧n≤L∧n≤4∧(2≤n→128≤c1∧c1<192)∧(3≤n→128≤c2∧c2<192)∧(4≤n→128≤c3∧c3<192))):=by
 unfold readT
 by_cases a1:c0<128
 ·rw [if_pos a1];exact ⟨_,_,rfl,by omega,.inl ⟨a1,rfl,rfl⟩⟩
 rw [if_neg a1]
 by_cases a2:c0 / 32=6∧(1<L∧c1 / 64=2)
 ·rw [if_pos a2]
  by_cases a3:c0%32*64+c1%64≥128
  ·rw [if_pos a3]
   refine ⟨_,_,rfl,by omega,.inr ?_⟩
   by_cases hq:c0=194∧1<L∧c1=160
   ·left;omega
   ·right;exact ⟨by omega,hq,by omega,by omega,by omega,by omega,by omega,by omega,by omega,by omega⟩
  ·rw [if_neg a3];exact ⟨_,_,rfl,by omega,.inr (.inr ⟨by omega,by omega,by omega,by omega,by omega,by omega,by omega,by omega,by omega,by omega⟩)⟩
 rw [if_neg a2]
 by_cases a4:c0 / 16=14∧(1<L∧c1 / 64=2)∧(2<L∧c2 / 64=2)
 ·rw [if_pos a4]
  split
  ·exact ⟨_,_,rfl,by omega,.inr (.inr ⟨by omega,by omega,by omega,by omega,by omega,by omega,by omega,by omega,by omega,by omega⟩)⟩
  ·exact ⟨_,_,rfl,by omega,.inr (.inr ⟨by omega,by omega,by omega,by omega,by omega,by omega,by omega,by omega,by omega,by omega⟩)⟩
 rw [if_neg a4]
 by_cases a5:c0 / 8=30∧(1<L∧c1 / 64=2)∧(2<L∧c2 / 64=2)∧(3<L∧c3 / 64=2)
 ·rw [if_pos a5]
  split
  ·exact ⟨_,_,rfl,by omega,.inr (.inr ⟨by omega,by omega,by omega,by omega,by omega,by omega,by omega,by omega,by omega,by omega⟩)⟩
  ·exact ⟨_,_,rfl,by omega,.inr (.inr ⟨by omega,by omega,by omega,by omega,by omega,by omega,by omega,by omega,by omega,by omega⟩)⟩
 rw [if_neg a5];exact ⟨_,_,rfl,by omega,.inr (.inr ⟨by omega,by omega,by omega,by omega,by omega,by omega,by omega,by omega,by omega,by omega⟩)⟩
def amp:List UInt8:= [38,97,109,112,59]
def lt4:List UInt8:= [38,108,116,59]
def gt4:List UInt8:= [38,103,116,59]
def cr5:List UInt8:= [38,35,49,51,59]
def quo:List UInt8:= [38,113,117,111,116,59]
def nbs:List UInt8:= [38,110,98,115,112,59]
def escS (v:Bool) (s:List UInt8):List UInt8:=
 if byteL s 0=38 then amp else if byteL s 0=60 then lt4 else if byteL s 0=62 then gt4 else if byteL s 0=13 then cr5
 else if byteL s 0=34∧v=true then quo else if byteL s 0=194∧byteL s 1=160 then nbs else []
def safeS (v:Bool):Bool→List UInt8→List UInt8
 |_,[]=> []
 |true,_::r=>safeS v false r
 |false,c::r=>if escS v (c::r)= [] then c::safeS v false r else escS v (c::r)++safeS v (decide (escS v (c::r)=nbs)) r
def safeN (v:Bool) (l:List UInt8):List UInt8:=safeS v false l
theorem safe_esc (v:Bool) (s:List UInt8) (hs:s≠ []) (he:escS v s≠ []) (hn:escS v s=nbs→1<s.length):safeN v s=escS v s++safeN v (s.drop (if escS v s=nbs then 2 else 1)):=by
 cases s with
 |nil=>exact absurd rfl hs
 |cons c r=>
  have e1:safeN v (c::r)=if escS v (c::r)= [] then c::safeS v false r else escS v (c::r)++safeS v (decide (escS v (c::r)=nbs)) r:=by cases v<;>rfl
  rw [e1,if_neg he]
  by_cases h2:escS v (c::r)=nbs
  ·rw [if_pos h2,h2]
   cases r with
   |nil=>exact absurd (hn h2) (by simp)
   |cons c2 r2=>simp [safeS,safeN]
  ·rw [if_neg h2,decide_eq_false h2];rfl
theorem safe_as (v:Bool) (s:List UInt8) (hs:s≠ []) (he:escS v s= []):safeN v s=s.getD 0 0::safeN v (s.drop 1):=by
 cases s with
 |nil=>exact absurd rfl hs
 |cons c r=>
  have e1:safeN v (c::r)=if escS v (c::r)= [] then c::safeS v false r else escS v (c::r)++safeS v (decide (escS v (c::r)=nbs)) r:=by cases v<;>rfl
  rw [e1,if_pos he];rfl
theorem esc_none (v:Bool) (s:List UInt8) (h:128≤byteL s 0) (hn: ¬(byteL s 0=194∧byteL s 1=160)):escS v s= []:=by
 unfold escS
 rw [if_neg (by omega),if_neg (by omega),if_neg (by omega),if_neg (by omega),if_neg (by omega),if_neg hn]
theorem safe_more (v:Bool) (l:List UInt8): ∀(n i:Nat),i+n≤l.length→(∀j,i≤j→j<i+n→escS v (l.drop j)= [])→safeN v (l.drop i)=(l.drop i).take n++safeN v (l.drop (i+n))
 |0,i,_,_=>by simp
 |n+1,i,h,hq=>by
  have hd:=drop_cons0 l i (by omega)
  rw [safe_as v (l.drop i) (by rw [hd];simp) (hq i (Nat.le_refl _) (by omega))]
  rw [List.drop_drop,safe_more v l n (i+1) (by omega) (fun j h1 h2=>hq j (by omega) (by omega))]
  rw [hd,List.take_succ_cons,List.cons_append,show i+1+n=i+(n+1) by omega]
  rfl
theorem esc_len (v:Bool) (s:List UInt8):(escS v s).length≤6:=by
 unfold escS amp lt4 gt4 cr5 quo nbs
 repeat' split
 all_goals simp
theorem safeS_len (v:Bool): ∀(l:List UInt8) (q:Bool),(safeS v q l).length≤6*l.length
 | [],q=>by cases q<;>simp [safeS]
 |c::r,true=>by have:=safeS_len v r false;simp only [safeS,List.length_cons];omega
 |c::r,false=>by
  have h1:=safeS_len v r false
  have h2:=safeS_len v r (decide (escS v (c::r)=nbs))
  have h3:=esc_len v (c::r)
  simp only [safeS]
  split
  ·simp only [List.length_cons];omega
  ·simp only [List.length_append,List.length_cons];omega
theorem safe_len (v:Bool) (l:List UInt8):(safeN v l).length≤6*l.length:=safeS_len v l false
theorem safe_law (v:Bool) (l:List UInt8) (p:Nat) (hp:p<l.length): ∃r n,Utf8.decode (bs l) p=(r,n)∧r≤1114111∧1≤n∧p+n≤l.length∧
  ((r=38∧n=1∧safeN v (l.drop p)=amp++safeN v (l.drop (p+1)))∨(r=60∧n=1∧safeN v (l.drop p)=lt4++safeN v (l.drop (p+1)))∨(r=62∧n=1∧safeN v (l.drop p)=gt4++safeN v (l.drop (p+1)))∨
   (r=13∧n=1∧safeN v (l.drop p)=cr5++safeN v (l.drop (p+1)))∨(r=34∧n=1∧v=true∧safeN v (l.drop p)=quo++safeN v (l.drop (p+1)))∨(r=160∧n=2∧safeN v (l.drop p)=nbs++safeN v (l.drop (p+2)))∨
   (r≠38∧r≠60∧r≠62∧r≠13∧(r=34→v=false)∧r≠160∧safeN v (l.drop p)=(l.drop p).take n++safeN v (l.drop (p+n)))):=by
 have hd:=drop_cons0 l p hp
 have hne:l.drop p≠ []:=by rw [hd];simp
 have hL:(l.drop p).length=l.length - p:=List.length_drop
 obtain ⟨r,n,h1,h2,h3⟩:=readT_law (l.drop p).length (byteL (l.drop p) 0) (byteL (l.drop p) 1) (byteL (l.drop p) 2) (byteL (l.drop p) 3) (by omega) (byte_le _ _) (byte_le _ _) (byte_le _ _) (byte_le _ _)
 refine ⟨r,n,by rw [decode_read l p hp,h1],h2,?_⟩
 have hes: ∀e,escS v (l.drop p)=e→e≠ []→e≠nbs→safeN v (l.drop p)=e++safeN v (l.drop (p+1)):=fun e he h0 hn=>by
  rw [safe_esc v (l.drop p) hne (by rw [he];exact h0) (fun h=>absurd (he▸h) hn),he,if_neg hn,List.drop_drop]
 rcases h3 with ⟨h4,rfl,rfl⟩|⟨h4,h5,h6,h7,rfl,rfl⟩|⟨h4,h5,h6,h7,h8,h9,h10,h11,h12,h13⟩
 ·refine ⟨Nat.le_refl _,by omega,?_⟩
  by_cases q1:byteL (l.drop p) 0=38
  ·exact .inl ⟨q1,rfl,hes amp (by unfold escS;rw [if_pos q1]) (by decide) (by decide)⟩
  by_cases q2:byteL (l.drop p) 0=60
  ·exact .inr (.inl ⟨q2,rfl,hes lt4 (by unfold escS;rw [if_neg q1,if_pos q2]) (by decide) (by decide)⟩)
  by_cases q3:byteL (l.drop p) 0=62
  ·exact .inr (.inr (.inl ⟨q3,rfl,hes gt4 (by unfold escS;rw [if_neg q1,if_neg q2,if_pos q3]) (by decide) (by decide)⟩))
  by_cases q4:byteL (l.drop p) 0=13
  ·exact .inr (.inr (.inr (.inl ⟨q4,rfl,hes cr5 (by unfold escS;rw [if_neg q1,if_neg q2,if_neg q3,if_pos q4]) (by decide) (by decide)⟩)))
  by_cases q5:byteL (l.drop p) 0=34∧v=true
  ·exact .inr (.inr (.inr (.inr (.inl ⟨q5.1,rfl,q5.2,hes quo (by unfold escS;rw [if_neg q1,if_neg q2,if_neg q3,if_neg q4,if_pos q5]) (by decide) (by decide)⟩))))
  refine .inr (.inr (.inr (.inr (.inr (.inr ⟨q1,q2,q3,q4,fun h=> ?_,by omega,?_⟩)))))
  ·cases v
   ·rfl
   ·exact absurd ⟨h,rfl⟩ q5
  ·refine safe_more v l 1 p (by omega) (fun j hj1 hj2=> ?_)
   obtain rfl:j=p:=by omega
   unfold escS
   rw [if_neg q1,if_neg q2,if_neg q3,if_neg q4,if_neg q5,if_neg (by omega)]
 ·refine ⟨by omega,by omega,?_⟩
  have he:escS v (l.drop p)=nbs:=by
   unfold escS
   rw [if_neg (by omega),if_neg (by omega),if_neg (by omega),if_neg (by omega),if_neg (by omega),if_pos ⟨h5,h7⟩]
  refine .inr (.inr (.inr (.inr (.inr (.inl ⟨rfl,rfl,?_⟩)))))
  rw [safe_esc v (l.drop p) hne (by rw [he];decide) (fun _=>h6),he,if_pos rfl,List.drop_drop]
 ·refine ⟨h8,by omega,.inr (.inr (.inr (.inr (.inr (.inr ⟨by omega,by omega,by omega,by omega,by omega,h7,?_⟩)))))⟩
  refine safe_more v l n p (by omega) (fun j hj1 hj2=> ?_)
  have hj: ∀k,byteL (l.drop j) k=byteL (l.drop p) (j - p+k):=fun k=>by rw [byte_drop,byte_drop];congr 1;omega
  refine esc_none v _ ?_ ?_
  ·rw [hj 0,Nat.add_zero]
   rcases (show j - p=0∨j - p=1∨j - p=2∨j - p=3 by omega) with e|e|e|e<;>rw [e]<;>omega
  ·rw [hj 0,hj 1,Nat.add_zero]
   rcases (show j - p=0∨j - p=1∨j - p=2∨j - p=3 by omega) with e|e|e|e<;>rw [e]
   ·intro hq
    rcases Nat.lt_or_ge 1 (l.drop p).length with h14|h14
    ·exact h5 ⟨hq.1,h14,hq.2⟩
    ·have:byteL (l.drop p) 1=0:=by
      unfold byteL
      rw [List.getD_eq_getElem?_getD,List.getElem?_eq_none h14];rfl
     have h15:byteL (l.drop p) 1=160:=hq.2
     omega
   all_goals omega
abbrev big:Nat:=1000000000000
section
variable {T : TypeId} [hT : IsB T] {w w' : World} {B b : Nat} {l : List UInt8}
theorem RdS.sb {v:Value} {m:Nat} {cs:List Value} (hr:RdS w 9 1 v m cs) (h:Bd T w B b l) (hc:Chg w w' (Sb w B b)):RdS w' 9 1 v m cs:=by
 refine hr.chg hc (fun b' cells hb' hs=> ?_)
 rcases hs with rfl|⟨_,cs',h5⟩
 ·obtain ⟨p,v,_,hb,_⟩:=h
  exact hb'.ne hb (Ne.symm hT.ne9) rfl
 ·exact hb'.ne h5 (by decide) rfl
theorem map_getE (rs:List (List UInt8)) (i:Nat) (h:i<rs.length):(rs.map fun r=>Value.string (bs r))[i*1]? =some (.string (bs (rs.getD i []))):=by
 rw [Nat.mul_one,List.getElem?_map,List.getElem?_eq_getElem h,List.getD_eq_getElem?_getD,List.getElem?_eq_getElem h];rfl
theorem flat_len (rs:List (List UInt8)) (i:Nat):(rs.take i).flatten.length≤rs.flatten.length:=by
 have:rs.flatten=(rs.take i).flatten++(rs.drop i).flatten:=by rw [←List.flatten_append,List.take_append_drop]
 rw [this,List.length_append];omega
theorem flat_succ (rs:List (List UInt8)) (i:Nat) (h:i<rs.length):(rs.take (i+1)).flatten=(rs.take i).flatten++rs.getD i []:=by
 rw [List.take_succ_eq_append_getElem h,List.flatten_append,List.getD_eq_getElem?_getD,List.getElem?_eq_getElem h];simp
theorem wall_calls {v:Value} {rs:List (List UInt8)} (hr:RdS w 9 1 v rs.length (rs.map fun r=> .string (bs r))) (h:Bd T w B b l) (hl:l.length+rs.flatten.length≤140737488355328) (hB:B≤w.heap.size) (hn:rs.length≤1000):
  Calls Tryz.prog 64 [.pointer (some ⟨b,0,none⟩),v].toArray w fun e w'=>e= .returned (.tuple #[])∧Bd T w' B b (l++rs.flatten)∧Chg w w' (Sb w B b):=by
 have hT0:=hT
 obtain ⟨A,c,rfl,hc⟩:=hr.form
 refine zCz 16 Tryz.func64 ?_
 refine zz ?_
 refine zc_loopW (ι:=Nat) (fun i u=> [(0,.pointer (some ⟨b,0,none⟩)),(6,.slice A rs.length c),(7,.int .i64 rs.length),(8,.int .i64 i)])
  (fun i u=>i≤rs.length∧Bd T u B b (l++(rs.take i).flatten)∧Chg w u (Sb w B b)) (fun i u=>rs.length - i) 0 ⟨Nat.zero_le _,by simpa using h,Chg.refl _ _⟩ ?_ ?_
 ·exact ⟨rfl,rfl,rfl,rfl,trivial⟩
 rintro i u ⟨hi,hB1,hC⟩
 have hs1:=hC.size
 by_cases hlt:i<rs.length
 ·have hfl:=flat_len rs (i+1)
  rw [flat_succ rs i hlt,List.length_append] at hfl
  obtain ⟨b1,o1,c1,hv,_,hcell⟩:=(RdS.sb hr h hC).some (by omega)
  cases hv
  have hc0:=hcell _ _ (map_getE rs i hlt)
  refine zz ?_
  refine zCl rfl (ws_calls (rs.getD i []) hB1 (by rw [List.length_append];omega) (by omega)) ?_
  rintro _ u2 ⟨rfl,hB2,hC2⟩
  refine ⟨_,rfl,?_⟩
  rw [List.append_assoc,←flat_succ rs i hlt] at hB2
  refine zz ?_
  exact zk_loopW (i+1) ⟨by omega,hB2,Sb.trans hC hC2⟩ (by omega) ⟨rfl,rfl,rfl,get_int rfl (by simp),trivial⟩
 ·obtain rfl:i=rs.length:=by omega
  rw [List.take_length] at hB1
  refine zz ?_
  exact zk_ret0 (.inl rfl) rfl ⟨rfl,hB1,hC⟩
end
theorem slice_cut {l:List UInt8} {f p:Nat} (h1:f≤p) (h2:p≤l.length) (n:Nat) (h3:p+n≤l.length):(l.drop f).take (p - f)++(l.drop p).take n=(l.drop f).take (p+n - f):=by
 have:l.drop p=(l.drop f).drop (p - f):=by rw [List.drop_drop];congr 1;omega
 rw [this,←List.take_add];congr 1;omega
theorem safe_calls {w:World} (l:List UInt8) (v:Bool) (hl:l.length≤big):Calls Tryz.prog 37 [.string (bs l),.bool v].toArray w fun e w'=>e= .returned (.string (bs (safeN v l)))∧Chg w w' No:=by
 have hbig:big=1000000000000:=rfl
 rw [hbig] at hl
 have hsl:=safe_len v l
 refine zCz 48 Tryz.func37 ?_
 refine zz ?_
 refine zAl (fun w1 b1 hN1=> ?_)
 refine zz ?_
 refine z_range (want_L rfl) (by decide) rfl (fun w2 k hk hI hC2=> ?_)
 have hb1:w.heap.size=b1:=hN1.at_.symm
 have hk1:w1.heap.size=k:=hk.symm
 have hlt1:b1<w1.heap.size:=hN1.blk.lt
 have hltk:k<w2.heap.size:=(Array.getElem?_eq_some_iff.1 hI).1
 have hB0:Bd 55 w2 (k+1) b1 []:=(Bd.fresh hN1.blk).no hC2
 refine zN (zK (zB ?_))
 refine zc_loopW (ι:=Nat×Nat×List UInt8) (fun q u=> [(0,.string (bs l)),(1,.bool v),(5,.pointer (some ⟨b1,0,none⟩)),(6,.int .i64 q.2.1),(12,.pointer (some ⟨k,0,none⟩))])
  (fun q u=>q.1≤l.length∧q.2.1≤q.1∧It u k l q.1∧Bd 55 u (k+1) b1 q.2.2∧Chg w u No∧k+1≤u.heap.size∧q.2.2++(l.drop q.2.1).take (q.1 - q.2.1)++safeN v (l.drop q.1)=safeN v l) (fun q u=>l.length - q.1) (0,0,[]) ⟨Nat.zero_le _,Nat.zero_le _,hI,hB0,hN1.chg.no hC2,hltk,by simp⟩ ?_ ?_
 ·exact ⟨rfl,rfl,rfl,rfl,rfl,trivial⟩
 rintro ⟨p,f,out⟩ u ⟨hp,hf,hI,hB,hC,hks,hd⟩
 dsimp only at hp hf hI hB hC hks hd ⊢
 have hol:out.length≤6*l.length:=by
  have:=congrArg List.length hd
  simp only [List.length_append] at this;omega
 by_cases hlt:p<l.length
 ·obtain ⟨r,n,hdec,hr,hn1,hn2,hcases⟩:=safe_law v l p hlt
  refine zS (zR ?_)
  refine z_next (want_L rfl) (by decide) rfl hI hlt (fun u1 hI1 hC1=> ?_)
  rw [hdec] at hI1 ⊢
  dsimp only at hI1 ⊢
  have hB1:Bd 55 u1 (k+1) b1 out:=hB.chg hC1 (fun h=>by omega) (fun j _ hj h=>by omega)
  have hCu:Chg w u1 No:=hC.trans hC1 (fun i hi he=>by subst he;omega)
  have hs1:=hC1.size
  refine zz ?_
  rcases hcases with ⟨rfl,rfl,hs⟩|⟨rfl,rfl,hs⟩|⟨rfl,rfl,hs⟩|⟨rfl,rfl,hs⟩|⟨rfl,rfl,rfl,hs⟩|⟨rfl,rfl,hs⟩|⟨h1,h2,h3,h4,h5,h6,hs⟩
  ·refine zz ?_
   refine z_neS (want_L rfl) (by decide) rfl rfl (fun hc=> ?_) (fun hc=> ?_)
   ·refine zz ?_
    refine z_cutN f p (want_L rfl) (by decide) rfl rfl rfl rfl rfl (by omega) (by omega) ?_
    refine zP rfl ?_
    refine z_bsE [.string (bs ((l.drop f).take (p - f))),.string (bs amp)] (want_L rfl) (by decide) rfl (by decide) (by decide) (by kernel_rfl) (fun u2 b2 hN2=> ?_)
    have hB2:=hB1.no hN2.chg
    have hr2:RdS u2 9 1 (.slice (some ⟨b2,0,none⟩) 2 2) [(l.drop f).take (p - f),amp].length ([(l.drop f).take (p - f),amp].map fun r=>Value.string (bs r)):=RdS.new hN2 rfl (fun u hu=>by simp only [List.map_cons,List.map_nil,List.mem_cons,List.not_mem_nil,or_false] at hu;rcases hu with rfl|rfl<;>rfl)
    have hs2:=hN2.chg.size
    have hfl: [(l.drop f).take (p - f),amp].flatten.length≤l.length+6:=by
     have:(amp:List UInt8).length≤6:=by decide
     simp only [List.flatten_cons,List.flatten_nil,List.append_nil,List.length_append,List.length_take,List.length_drop]
     omega
    refine zCl rfl (wall_calls hr2 hB2 (by omega) (by omega) (by simp)) ?_
    rintro _ u3 ⟨rfl,hB3,hC3⟩
    refine ⟨_,rfl,?_⟩
    have hs3:=hC3.size
    have hI3:It u3 k l (p+1):=(hC3.same k (by omega) (fun h=>by rcases h with h|⟨h,_⟩<;>omega)).trans ((hN2.chg.same k (by omega) id).trans hI1)
    have hCu3:Chg w u3 No:=Chg.liftS (hCu.no hN2.chg) (by omega) (by omega) hC3
    refine zz ?_
    refine zk_loopW (p+1,p+1,out++ [(l.drop f).take (p - f),amp].flatten) ⟨by omega,Nat.le_refl _,hI3,hB3,hCu3,by omega,?_⟩ (by show l.length - (p+1)<l.length - p;omega) ⟨rfl,rfl,rfl,get_int rfl (by simp),rfl,trivial⟩
    rw [hs] at hd
    rw [←hd]
    simp
   ·exact absurd hc (by decide)
  ·refine zz ?_
   refine z_neS (want_L rfl) (by decide) rfl rfl (fun hc=> ?_) (fun hc=> ?_)
   ·refine zz ?_
    refine z_cutN f p (want_L rfl) (by decide) rfl rfl rfl rfl rfl (by omega) (by omega) ?_
    refine zP rfl ?_
    refine z_bsE [.string (bs ((l.drop f).take (p - f))),.string (bs lt4)] (want_L rfl) (by decide) rfl (by decide) (by decide) (by kernel_rfl) (fun u2 b2 hN2=> ?_)
    have hB2:=hB1.no hN2.chg
    have hr2:RdS u2 9 1 (.slice (some ⟨b2,0,none⟩) 2 2) [(l.drop f).take (p - f),lt4].length ([(l.drop f).take (p - f),lt4].map fun r=>Value.string (bs r)):=RdS.new hN2 rfl (fun u hu=>by simp only [List.map_cons,List.map_nil,List.mem_cons,List.not_mem_nil,or_false] at hu;rcases hu with rfl|rfl<;>rfl)
    have hs2:=hN2.chg.size
    have hfl: [(l.drop f).take (p - f),lt4].flatten.length≤l.length+6:=by
     have:(lt4:List UInt8).length≤6:=by decide
     simp only [List.flatten_cons,List.flatten_nil,List.append_nil,List.length_append,List.length_take,List.length_drop]
     omega
    refine zCl rfl (wall_calls hr2 hB2 (by omega) (by omega) (by simp)) ?_
    rintro _ u3 ⟨rfl,hB3,hC3⟩
    refine ⟨_,rfl,?_⟩
    have hs3:=hC3.size
    have hI3:It u3 k l (p+1):=(hC3.same k (by omega) (fun h=>by rcases h with h|⟨h,_⟩<;>omega)).trans ((hN2.chg.same k (by omega) id).trans hI1)
    have hCu3:Chg w u3 No:=Chg.liftS (hCu.no hN2.chg) (by omega) (by omega) hC3
    refine zz ?_
    refine zk_loopW (p+1,p+1,out++ [(l.drop f).take (p - f),lt4].flatten) ⟨by omega,Nat.le_refl _,hI3,hB3,hCu3,by omega,?_⟩ (by show l.length - (p+1)<l.length - p;omega) ⟨rfl,rfl,rfl,get_int rfl (by simp),rfl,trivial⟩
    rw [hs] at hd
    rw [←hd]
    simp
   ·exact absurd hc (by decide)
  ·refine zz ?_
   refine z_neS (want_L rfl) (by decide) rfl rfl (fun hc=> ?_) (fun hc=> ?_)
   ·refine zz ?_
    refine z_cutN f p (want_L rfl) (by decide) rfl rfl rfl rfl rfl (by omega) (by omega) ?_
    refine zP rfl ?_
    refine z_bsE [.string (bs ((l.drop f).take (p - f))),.string (bs gt4)] (want_L rfl) (by decide) rfl (by decide) (by decide) (by kernel_rfl) (fun u2 b2 hN2=> ?_)
    have hB2:=hB1.no hN2.chg
    have hr2:RdS u2 9 1 (.slice (some ⟨b2,0,none⟩) 2 2) [(l.drop f).take (p - f),gt4].length ([(l.drop f).take (p - f),gt4].map fun r=>Value.string (bs r)):=RdS.new hN2 rfl (fun u hu=>by simp only [List.map_cons,List.map_nil,List.mem_cons,List.not_mem_nil,or_false] at hu;rcases hu with rfl|rfl<;>rfl)
    have hs2:=hN2.chg.size
    have hfl: [(l.drop f).take (p - f),gt4].flatten.length≤l.length+6:=by
     have:(gt4:List UInt8).length≤6:=by decide
     simp only [List.flatten_cons,List.flatten_nil,List.append_nil,List.length_append,List.length_take,List.length_drop]
     omega
    refine zCl rfl (wall_calls hr2 hB2 (by omega) (by omega) (by simp)) ?_
    rintro _ u3 ⟨rfl,hB3,hC3⟩
    refine ⟨_,rfl,?_⟩
    have hs3:=hC3.size
    have hI3:It u3 k l (p+1):=(hC3.same k (by omega) (fun h=>by rcases h with h|⟨h,_⟩<;>omega)).trans ((hN2.chg.same k (by omega) id).trans hI1)
    have hCu3:Chg w u3 No:=Chg.liftS (hCu.no hN2.chg) (by omega) (by omega) hC3
    refine zz ?_
    refine zk_loopW (p+1,p+1,out++ [(l.drop f).take (p - f),gt4].flatten) ⟨by omega,Nat.le_refl _,hI3,hB3,hCu3,by omega,?_⟩ (by show l.length - (p+1)<l.length - p;omega) ⟨rfl,rfl,rfl,get_int rfl (by simp),rfl,trivial⟩
    rw [hs] at hd
    rw [←hd]
    simp
   ·exact absurd hc (by decide)
  ·refine zz ?_
   refine z_neS (want_L rfl) (by decide) rfl rfl (fun hc=> ?_) (fun hc=> ?_)
   ·refine zz ?_
    refine z_cutN f p (want_L rfl) (by decide) rfl rfl rfl rfl rfl (by omega) (by omega) ?_
    refine zP rfl ?_
    refine z_bsE [.string (bs ((l.drop f).take (p - f))),.string (bs cr5)] (want_L rfl) (by decide) rfl (by decide) (by decide) (by kernel_rfl) (fun u2 b2 hN2=> ?_)
    have hB2:=hB1.no hN2.chg
    have hr2:RdS u2 9 1 (.slice (some ⟨b2,0,none⟩) 2 2) [(l.drop f).take (p - f),cr5].length ([(l.drop f).take (p - f),cr5].map fun r=>Value.string (bs r)):=RdS.new hN2 rfl (fun u hu=>by simp only [List.map_cons,List.map_nil,List.mem_cons,List.not_mem_nil,or_false] at hu;rcases hu with rfl|rfl<;>rfl)
    have hs2:=hN2.chg.size
    have hfl: [(l.drop f).take (p - f),cr5].flatten.length≤l.length+6:=by
     have:(cr5:List UInt8).length≤6:=by decide
     simp only [List.flatten_cons,List.flatten_nil,List.append_nil,List.length_append,List.length_take,List.length_drop]
     omega
    refine zCl rfl (wall_calls hr2 hB2 (by omega) (by omega) (by simp)) ?_
    rintro _ u3 ⟨rfl,hB3,hC3⟩
    refine ⟨_,rfl,?_⟩
    have hs3:=hC3.size
    have hI3:It u3 k l (p+1):=(hC3.same k (by omega) (fun h=>by rcases h with h|⟨h,_⟩<;>omega)).trans ((hN2.chg.same k (by omega) id).trans hI1)
    have hCu3:Chg w u3 No:=Chg.liftS (hCu.no hN2.chg) (by omega) (by omega) hC3
    refine zz ?_
    refine zk_loopW (p+1,p+1,out++ [(l.drop f).take (p - f),cr5].flatten) ⟨by omega,Nat.le_refl _,hI3,hB3,hCu3,by omega,?_⟩ (by show l.length - (p+1)<l.length - p;omega) ⟨rfl,rfl,rfl,get_int rfl (by simp),rfl,trivial⟩
    rw [hs] at hd
    rw [←hd]
    simp
   ·exact absurd hc (by decide)
  ·refine zz ?_
   refine z_neS (want_L rfl) (by decide) rfl rfl (fun hc=> ?_) (fun hc=> ?_)
   ·refine zz ?_
    refine z_cutN f p (want_L rfl) (by decide) rfl rfl rfl rfl rfl (by omega) (by omega) ?_
    refine zP rfl ?_
    refine z_bsE [.string (bs ((l.drop f).take (p - f))),.string (bs quo)] (want_L rfl) (by decide) rfl (by decide) (by decide) (by kernel_rfl) (fun u2 b2 hN2=> ?_)
    have hB2:=hB1.no hN2.chg
    have hr2:RdS u2 9 1 (.slice (some ⟨b2,0,none⟩) 2 2) [(l.drop f).take (p - f),quo].length ([(l.drop f).take (p - f),quo].map fun r=>Value.string (bs r)):=RdS.new hN2 rfl (fun u hu=>by simp only [List.map_cons,List.map_nil,List.mem_cons,List.not_mem_nil,or_false] at hu;rcases hu with rfl|rfl<;>rfl)
    have hs2:=hN2.chg.size
    have hfl: [(l.drop f).take (p - f),quo].flatten.length≤l.length+6:=by
     have:(quo:List UInt8).length≤6:=by decide
     simp only [List.flatten_cons,List.flatten_nil,List.append_nil,List.length_append,List.length_take,List.length_drop]
     omega
    refine zCl rfl (wall_calls hr2 hB2 (by omega) (by omega) (by simp)) ?_
    rintro _ u3 ⟨rfl,hB3,hC3⟩
    refine ⟨_,rfl,?_⟩
    have hs3:=hC3.size
    have hI3:It u3 k l (p+1):=(hC3.same k (by omega) (fun h=>by rcases h with h|⟨h,_⟩<;>omega)).trans ((hN2.chg.same k (by omega) id).trans hI1)
    have hCu3:Chg w u3 No:=Chg.liftS (hCu.no hN2.chg) (by omega) (by omega) hC3
    refine zz ?_
    refine zk_loopW (p+1,p+1,out++ [(l.drop f).take (p - f),quo].flatten) ⟨by omega,Nat.le_refl _,hI3,hB3,hCu3,by omega,?_⟩ (by show l.length - (p+1)<l.length - p;omega) ⟨rfl,rfl,rfl,get_int rfl (by simp),rfl,trivial⟩
    rw [hs] at hd
    rw [←hd]
    simp
   ·exact absurd hc (by decide)
  ·refine zz ?_
   refine z_neS (want_L rfl) (by decide) rfl rfl (fun hc=> ?_) (fun hc=> ?_)
   ·refine zz ?_
    refine z_cutN f p (want_L rfl) (by decide) rfl rfl rfl rfl rfl (by omega) (by omega) ?_
    refine zP rfl ?_
    refine z_bsE [.string (bs ((l.drop f).take (p - f))),.string (bs nbs)] (want_L rfl) (by decide) rfl (by decide) (by decide) (by kernel_rfl) (fun u2 b2 hN2=> ?_)
    have hB2:=hB1.no hN2.chg
    have hr2:RdS u2 9 1 (.slice (some ⟨b2,0,none⟩) 2 2) [(l.drop f).take (p - f),nbs].length ([(l.drop f).take (p - f),nbs].map fun r=>Value.string (bs r)):=RdS.new hN2 rfl (fun u hu=>by simp only [List.map_cons,List.map_nil,List.mem_cons,List.not_mem_nil,or_false] at hu;rcases hu with rfl|rfl<;>rfl)
    have hs2:=hN2.chg.size
    have hfl: [(l.drop f).take (p - f),nbs].flatten.length≤l.length+6:=by
     have:(nbs:List UInt8).length≤6:=by decide
     simp only [List.flatten_cons,List.flatten_nil,List.append_nil,List.length_append,List.length_take,List.length_drop]
     omega
    refine zCl rfl (wall_calls hr2 hB2 (by omega) (by omega) (by simp)) ?_
    rintro _ u3 ⟨rfl,hB3,hC3⟩
    refine ⟨_,rfl,?_⟩
    have hs3:=hC3.size
    have hI3:It u3 k l (p+2):=(hC3.same k (by omega) (fun h=>by rcases h with h|⟨h,_⟩<;>omega)).trans ((hN2.chg.same k (by omega) id).trans hI1)
    have hCu3:Chg w u3 No:=Chg.liftS (hCu.no hN2.chg) (by omega) (by omega) hC3
    refine zz ?_
    refine zk_loopW (p+2,p+2,out++ [(l.drop f).take (p - f),nbs].flatten) ⟨by omega,Nat.le_refl _,hI3,hB3,hCu3,by omega,?_⟩ (by show l.length - (p+2)<l.length - p;omega) ⟨rfl,rfl,rfl,get_int rfl (by simp),rfl,trivial⟩
    rw [hs] at hd
    rw [←hd]
    simp
   ·exact absurd hc (by decide)
  ·rw [hs,←List.append_assoc,List.append_assoc out,slice_cut hf hp n hn2] at hd
   by_cases h34:r=34
   ·obtain rfl:=h5 h34
    subst h34
    refine zz ?_
    refine z_neS (want_L rfl) (by decide) rfl rfl (fun hc=> ?_) (fun hc=> ?_)
    ·exact absurd rfl hc
    ·refine zz ?_
     exact zk_loopW (p+n,f,out) ⟨by omega,by show f≤p+n;omega,hI1,hB1,hCu,by omega,hd⟩ (by show l.length - (p+n)<l.length - p;omega) ⟨rfl,rfl,rfl,rfl,rfl,trivial⟩
   ·refine zz ?_
    refine z_neS (want_L rfl) (by decide) rfl rfl (fun hc=> ?_) (fun hc=> ?_)
    ·exact absurd rfl hc
    ·refine zz ?_
     exact zk_loopW (p+n,f,out) ⟨by omega,by show f≤p+n;omega,hI1,hB1,hCu,by omega,hd⟩ (by show l.length - (p+n)<l.length - p;omega) ⟨rfl,rfl,rfl,rfl,rfl,trivial⟩
 ·obtain rfl:p=l.length:=by omega
  have hnil:safeN v ([]:List UInt8)= []:=by cases v<;>rfl
  rw [List.drop_length,hnil,List.append_nil] at hd
  refine zS (zR ?_)
  refine z_nextE (want_L rfl) (by decide) rfl hI (Nat.lt_irrefl _) ?_
  refine zz ?_
  refine z_cutN f l.length (want_L rfl) (by decide) rfl rfl rfl rfl rfl (by omega) (Nat.le_refl _) ?_
  refine zCl rfl (ws_calls ((l.drop f).take (l.length - f)) hB (by simp only [List.length_take,List.length_drop];omega) (by omega)) ?_
  rintro _ u3 ⟨rfl,hB3,hC3⟩
  refine ⟨_,rfl,?_⟩
  rw [hd] at hB3
  have hs3:=hC3.size
  refine zz ?_
  refine zCr rfl (str_calls hB3 (by omega)) fun u4 hC4=> ?_
  refine zz ?_
  exact zk_ret1 (.inr rfl) rfl rfl ⟨rfl,Chg.liftS (Chg.liftS hC (by omega) (by omega) hC3) (by omega) (by omega) hC4⟩
end Go.Proofs.YtbcmiijollpgeaaGreat.T
