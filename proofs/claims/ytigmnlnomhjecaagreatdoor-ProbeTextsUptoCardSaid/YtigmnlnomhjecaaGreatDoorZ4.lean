/- Texts joined, without what is not needed. No condition. -/
import Derived.Test.YtigmnlnomhjecaaGreatDoorZ3
import Derived.Test.YtigmnlnomhjecaaGreatDoorProg
import Derived.KernelRfl
import Derived.Lib.Strings
import Derived.Lib.Slices
import Derived.Lib.Walk
import Derived.Lib.Bytealg
import Derived.Laws.RangeString
import Derived.Laws.RangeAny
set_option maxRecDepth 100000
namespace Go.Proofs.YtigmnlnomhjecaaGreatDoor
open Go.AM
theorem T1 : tinfo Tryz.prog 1 = some ⟨1, 8, [.nilfunc], .func⟩ := by kernel_rfl
theorem Z1 : tzero Tryz.prog 1 = some (.nilfunc) := by kernel_rfl
theorem T2 : tinfo Tryz.prog 2 = some ⟨1, 8, [.int .i64 0], .int .i64⟩ := by kernel_rfl
theorem Z2 : tzero Tryz.prog 2 = some (.int .i64 0) := by kernel_rfl
theorem T3 : tinfo Tryz.prog 3 = some ⟨1, 8, [.int .i64 0], .int .i64⟩ := by kernel_rfl
theorem Z3 : tzero Tryz.prog 3 = some (.int .i64 0) := by kernel_rfl
theorem T4 : tinfo Tryz.prog 4 = some ⟨1, 1, [.bool false], .bool⟩ := by kernel_rfl
theorem Z4 : tzero Tryz.prog 4 = some (.bool false) := by kernel_rfl
theorem T5 : tinfo Tryz.prog 5 = some ⟨1, 1, [.int .u8 0], .int .u8⟩ := by kernel_rfl
theorem Z5 : tzero Tryz.prog 5 = some (.int .u8 0) := by kernel_rfl
theorem T7 : tinfo Tryz.prog 7 = some ⟨4, 24, [.int .i64 0, .int .i64 0, .bool false, .int .u8 0], .struct [(0, 2), (1, 3), (2, 4), (3, 6)]⟩ := by kernel_rfl
theorem Z7 : tzero Tryz.prog 7 = some (.agg [.int .i64 0, .int .i64 0, .bool false, .int .u8 0]) := by kernel_rfl
theorem T9 : tinfo Tryz.prog 9 = some ⟨1, 16, [.str ⟨#[]⟩], .str⟩ := by kernel_rfl
theorem Z9 : tzero Tryz.prog 9 = some (.str ⟨#[]⟩) := by kernel_rfl
theorem T12 : tinfo Tryz.prog 12 = some ⟨1, 8, [.int .u64 0], .int .u64⟩ := by kernel_rfl
theorem Z12 : tzero Tryz.prog 12 = some (.int .u64 0) := by kernel_rfl
theorem T13 : tinfo Tryz.prog 13 = some ⟨2, 24, [.str ⟨#[]⟩, .int .u64 0], .struct [(0, 9), (1, 12)]⟩ := by kernel_rfl
theorem Z13 : tzero Tryz.prog 13 = some (.agg [.str ⟨#[]⟩, .int .u64 0]) := by kernel_rfl
theorem T15 : tinfo Tryz.prog 15 = some ⟨1, 8, [.nilptr], .ptr 249⟩ := by kernel_rfl
theorem Z15 : tzero Tryz.prog 15 = some (.nilptr) := by kernel_rfl
theorem T16 : tinfo Tryz.prog 16 = some ⟨1, 8, [.nilptr], .ptr 252⟩ := by kernel_rfl
theorem Z16 : tzero Tryz.prog 16 = some (.nilptr) := by kernel_rfl
theorem T20 : tinfo Tryz.prog 20 = some ⟨1, 16, [.nilif], .iface⟩ := by kernel_rfl
theorem Z20 : tzero Tryz.prog 20 = some (.nilif) := by kernel_rfl
theorem T21 : tinfo Tryz.prog 21 = some ⟨1, 4, [.int .i32 0], .int .i32⟩ := by kernel_rfl
theorem Z21 : tzero Tryz.prog 21 = some (.int .i32 0) := by kernel_rfl
theorem T22 : tinfo Tryz.prog 22 = some ⟨1, 8, [.nilfunc], .func⟩ := by kernel_rfl
theorem Z22 : tzero Tryz.prog 22 = some (.nilfunc) := by kernel_rfl
theorem T23 : tinfo Tryz.prog 23 = some ⟨1, 8, [.nilfunc], .func⟩ := by kernel_rfl
theorem Z23 : tzero Tryz.prog 23 = some (.nilfunc) := by kernel_rfl
theorem T24 : tinfo Tryz.prog 24 = some ⟨1, 8, [.nilfunc], .func⟩ := by kernel_rfl
theorem Z24 : tzero Tryz.prog 24 = some (.nilfunc) := by kernel_rfl
theorem T25 : tinfo Tryz.prog 25 = some ⟨2, 32, [.str ⟨#[]⟩, .str ⟨#[]⟩], .array 2 9⟩ := by kernel_rfl
theorem Z25 : tzero Tryz.prog 25 = some (.agg [.str ⟨#[]⟩, .str ⟨#[]⟩]) := by kernel_rfl
theorem T26 : tinfo Tryz.prog 26 = some ⟨1, 8, [.nilfunc], .func⟩ := by kernel_rfl
theorem Z26 : tzero Tryz.prog 26 = some (.nilfunc) := by kernel_rfl
theorem T27 : tinfo Tryz.prog 27 = some ⟨1, 8, [.nilfunc], .func⟩ := by kernel_rfl
theorem Z27 : tzero Tryz.prog 27 = some (.nilfunc) := by kernel_rfl
theorem T28 : tinfo Tryz.prog 28 = some ⟨1, 24, [.view true 0 []], .slice 83⟩ := by kernel_rfl
theorem Z28 : tzero Tryz.prog 28 = some (.view true 0 []) := by kernel_rfl
theorem T29 : tinfo Tryz.prog 29 = some ⟨2, 32, [.view true 0 [], .bool false], .struct [(0, 28), (1, 4)]⟩ := by kernel_rfl
theorem Z29 : tzero Tryz.prog 29 = some (.agg [.view true 0 [], .bool false]) := by kernel_rfl
theorem T30 : tinfo Tryz.prog 30 = some ⟨2, 32, [.view true 0 [], .bool false], .struct [(0, 28), (1, 4)]⟩ := by kernel_rfl
theorem Z30 : tzero Tryz.prog 30 = some (.agg [.view true 0 [], .bool false]) := by kernel_rfl
theorem T31 : tinfo Tryz.prog 31 = some ⟨1, 8, [.nilfunc], .func⟩ := by kernel_rfl
theorem Z31 : tzero Tryz.prog 31 = some (.nilfunc) := by kernel_rfl
theorem T32 : tinfo Tryz.prog 32 = some ⟨1, 8, [.nilfunc], .func⟩ := by kernel_rfl
theorem Z32 : tzero Tryz.prog 32 = some (.nilfunc) := by kernel_rfl
theorem T33 : tinfo Tryz.prog 33 = some ⟨1, 24, [.view true 0 []], .slice 124⟩ := by kernel_rfl
theorem Z33 : tzero Tryz.prog 33 = some (.view true 0 []) := by kernel_rfl
theorem T34 : tinfo Tryz.prog 34 = some ⟨1, 24, [.view true 0 []], .slice 152⟩ := by kernel_rfl
theorem Z34 : tzero Tryz.prog 34 = some (.view true 0 []) := by kernel_rfl
theorem T35 : tinfo Tryz.prog 35 = some ⟨1, 24, [.view true 0 []], .slice 122⟩ := by kernel_rfl
theorem Z35 : tzero Tryz.prog 35 = some (.view true 0 []) := by kernel_rfl
theorem T36 : tinfo Tryz.prog 36 = some ⟨1, 24, [.view true 0 []], .slice 185⟩ := by kernel_rfl
theorem Z36 : tzero Tryz.prog 36 = some (.view true 0 []) := by kernel_rfl
theorem T37 : tinfo Tryz.prog 37 = some ⟨1, 24, [.view true 0 []], .slice 173⟩ := by kernel_rfl
theorem Z37 : tzero Tryz.prog 37 = some (.view true 0 []) := by kernel_rfl
theorem T38 : tinfo Tryz.prog 38 = some ⟨3, 56, [.view true 0 [], .view true 0 [], .int .i64 0], .struct [(0, 36), (1, 37), (2, 3)]⟩ := by kernel_rfl
theorem Z38 : tzero Tryz.prog 38 = some (.agg [.view true 0 [], .view true 0 [], .int .i64 0]) := by kernel_rfl
theorem T39 : tinfo Tryz.prog 39 = some ⟨3, 56, [.view true 0 [], .view true 0 [], .int .i64 0], .struct [(0, 36), (1, 37), (2, 3)]⟩ := by kernel_rfl
theorem Z39 : tzero Tryz.prog 39 = some (.agg [.view true 0 [], .view true 0 [], .int .i64 0]) := by kernel_rfl
theorem T40 : tinfo Tryz.prog 40 = some ⟨1, 24, [.view true 0 []], .slice 97⟩ := by kernel_rfl
theorem Z40 : tzero Tryz.prog 40 = some (.view true 0 []) := by kernel_rfl
theorem T41 : tinfo Tryz.prog 41 = some ⟨1, 24, [.view true 0 []], .slice 171⟩ := by kernel_rfl
theorem Z41 : tzero Tryz.prog 41 = some (.view true 0 []) := by kernel_rfl
theorem T42 : tinfo Tryz.prog 42 = some ⟨2, 48, [.view true 0 [], .view true 0 []], .struct [(0, 40), (1, 41)]⟩ := by kernel_rfl
theorem Z42 : tzero Tryz.prog 42 = some (.agg [.view true 0 [], .view true 0 []]) := by kernel_rfl
theorem T43 : tinfo Tryz.prog 43 = some ⟨2, 48, [.view true 0 [], .view true 0 []], .struct [(0, 40), (1, 41)]⟩ := by kernel_rfl
theorem Z43 : tzero Tryz.prog 43 = some (.agg [.view true 0 [], .view true 0 []]) := by kernel_rfl
theorem T44 : tinfo Tryz.prog 44 = some ⟨8, 176, [.view true 0 [], .view true 0 [], .view true 0 [], .view true 0 [], .view true 0 [], .int .i64 0, .view true 0 [], .view true 0 []], .struct [(0, 33), (1, 34), (2, 35), (3, 39), (6, 43)]⟩ := by kernel_rfl
theorem Z44 : tzero Tryz.prog 44 = some (.agg [.view true 0 [], .view true 0 [], .view true 0 [], .view true 0 [], .view true 0 [], .int .i64 0, .view true 0 [], .view true 0 []]) := by kernel_rfl
theorem T45 : tinfo Tryz.prog 45 = some ⟨8, 176, [.view true 0 [], .view true 0 [], .view true 0 [], .view true 0 [], .view true 0 [], .int .i64 0, .view true 0 [], .view true 0 []], .struct [(0, 33), (1, 34), (2, 35), (3, 39), (6, 43)]⟩ := by kernel_rfl
theorem Z45 : tzero Tryz.prog 45 = some (.agg [.view true 0 [], .view true 0 [], .view true 0 [], .view true 0 [], .view true 0 [], .int .i64 0, .view true 0 [], .view true 0 []]) := by kernel_rfl
theorem T46 : tinfo Tryz.prog 46 = some ⟨4, 64, [.str ⟨#[]⟩, .str ⟨#[]⟩, .str ⟨#[]⟩, .str ⟨#[]⟩], .struct [(0, 9), (1, 9), (2, 9), (3, 9)]⟩ := by kernel_rfl
theorem Z46 : tzero Tryz.prog 46 = some (.agg [.str ⟨#[]⟩, .str ⟨#[]⟩, .str ⟨#[]⟩, .str ⟨#[]⟩]) := by kernel_rfl
theorem E47 : aEqTy Tryz.prog 47 = some [.s, .s, .s, .s] := by kernel_rfl
theorem T47 : tinfo Tryz.prog 47 = some ⟨4, 64, [.str ⟨#[]⟩, .str ⟨#[]⟩, .str ⟨#[]⟩, .str ⟨#[]⟩], .struct [(0, 9), (1, 9), (2, 9), (3, 9)]⟩ := by kernel_rfl
theorem Z47 : tzero Tryz.prog 47 = some (.agg [.str ⟨#[]⟩, .str ⟨#[]⟩, .str ⟨#[]⟩, .str ⟨#[]⟩]) := by kernel_rfl
theorem T48 : tinfo Tryz.prog 48 = some ⟨1, 24, [.view true 0 []], .slice 57⟩ := by kernel_rfl
theorem Z48 : tzero Tryz.prog 48 = some (.view true 0 []) := by kernel_rfl
theorem T49 : tinfo Tryz.prog 49 = some ⟨1, 8, [.int .i64 0], .int .i64⟩ := by kernel_rfl
theorem Z49 : tzero Tryz.prog 49 = some (.int .i64 0) := by kernel_rfl
theorem T51 : tinfo Tryz.prog 51 = some ⟨1, 8, [.nilfunc], .func⟩ := by kernel_rfl
theorem Z51 : tzero Tryz.prog 51 = some (.nilfunc) := by kernel_rfl
theorem T52 : tinfo Tryz.prog 52 = some ⟨1, 24, [.view true 0 []], .slice 3⟩ := by kernel_rfl
theorem Z52 : tzero Tryz.prog 52 = some (.view true 0 []) := by kernel_rfl
theorem T54 : tinfo Tryz.prog 54 = some ⟨1, 8, [.nilfunc], .func⟩ := by kernel_rfl
theorem Z54 : tzero Tryz.prog 54 = some (.nilfunc) := by kernel_rfl
theorem T55 : tinfo Tryz.prog 55 = some ⟨1, 8, [.nilfunc], .func⟩ := by kernel_rfl
theorem Z55 : tzero Tryz.prog 55 = some (.nilfunc) := by kernel_rfl
theorem T56 : tinfo Tryz.prog 56 = some ⟨6, 80, [.str ⟨#[]⟩, .str ⟨#[]⟩, .str ⟨#[]⟩, .str ⟨#[]⟩, .int .i64 0, .int .i64 0], .struct [(0, 47), (4, 3), (5, 2)]⟩ := by kernel_rfl
theorem Z56 : tzero Tryz.prog 56 = some (.agg [.str ⟨#[]⟩, .str ⟨#[]⟩, .str ⟨#[]⟩, .str ⟨#[]⟩, .int .i64 0, .int .i64 0]) := by kernel_rfl
theorem E57 : aEqTy Tryz.prog 57 = some [.s, .s, .s, .s, .i, .i] := by kernel_rfl
theorem T57 : tinfo Tryz.prog 57 = some ⟨6, 80, [.str ⟨#[]⟩, .str ⟨#[]⟩, .str ⟨#[]⟩, .str ⟨#[]⟩, .int .i64 0, .int .i64 0], .struct [(0, 47), (4, 3), (5, 2)]⟩ := by kernel_rfl
theorem Z57 : tzero Tryz.prog 57 = some (.agg [.str ⟨#[]⟩, .str ⟨#[]⟩, .str ⟨#[]⟩, .str ⟨#[]⟩, .int .i64 0, .int .i64 0]) := by kernel_rfl
theorem T58 : tinfo Tryz.prog 58 = some ⟨1, 8, [.nilfunc], .func⟩ := by kernel_rfl
theorem Z58 : tzero Tryz.prog 58 = some (.nilfunc) := by kernel_rfl
theorem T60 : tinfo Tryz.prog 60 = some ⟨1, 8, [.nilfunc], .func⟩ := by kernel_rfl
theorem Z60 : tzero Tryz.prog 60 = some (.nilfunc) := by kernel_rfl
theorem T62 : tinfo Tryz.prog 62 = some ⟨1, 8, [.nilfunc], .func⟩ := by kernel_rfl
theorem Z62 : tzero Tryz.prog 62 = some (.nilfunc) := by kernel_rfl
theorem T63 : tinfo Tryz.prog 63 = some ⟨1, 8, [.nilfunc], .func⟩ := by kernel_rfl
theorem Z63 : tzero Tryz.prog 63 = some (.nilfunc) := by kernel_rfl
theorem T64 : tinfo Tryz.prog 64 = some ⟨1, 8, [.nilfunc], .func⟩ := by kernel_rfl
theorem Z64 : tzero Tryz.prog 64 = some (.nilfunc) := by kernel_rfl
theorem T65 : tinfo Tryz.prog 65 = some ⟨1, 8, [.nilfunc], .func⟩ := by kernel_rfl
theorem Z65 : tzero Tryz.prog 65 = some (.nilfunc) := by kernel_rfl
theorem T66 : tinfo Tryz.prog 66 = some ⟨6, 48, [.int .i64 0, .int .i64 0, .int .i64 0, .int .i64 0, .int .i64 0, .int .i64 0], .array 6 2⟩ := by kernel_rfl
theorem Z66 : tzero Tryz.prog 66 = some (.agg [.int .i64 0, .int .i64 0, .int .i64 0, .int .i64 0, .int .i64 0, .int .i64 0]) := by kernel_rfl
theorem T67 : tinfo Tryz.prog 67 = some ⟨12, 96, [.int .i64 0, .int .i64 0, .int .i64 0, .int .i64 0, .int .i64 0, .int .i64 0, .int .i64 0, .int .i64 0, .int .i64 0, .int .i64 0, .int .i64 0, .int .i64 0], .struct [(0, 3), (1, 3), (2, 2), (3, 3), (4, 3), (5, 2), (6, 66)]⟩ := by kernel_rfl
theorem Z67 : tzero Tryz.prog 67 = some (.agg [.int .i64 0, .int .i64 0, .int .i64 0, .int .i64 0, .int .i64 0, .int .i64 0, .int .i64 0, .int .i64 0, .int .i64 0, .int .i64 0, .int .i64 0, .int .i64 0]) := by kernel_rfl
theorem E68 : aEqTy Tryz.prog 68 = some [.i, .i, .i, .i, .i, .i, .i, .i, .i, .i, .i, .i] := by kernel_rfl
theorem T68 : tinfo Tryz.prog 68 = some ⟨12, 96, [.int .i64 0, .int .i64 0, .int .i64 0, .int .i64 0, .int .i64 0, .int .i64 0, .int .i64 0, .int .i64 0, .int .i64 0, .int .i64 0, .int .i64 0, .int .i64 0], .struct [(0, 3), (1, 3), (2, 2), (3, 3), (4, 3), (5, 2), (6, 66)]⟩ := by kernel_rfl
theorem Z68 : tzero Tryz.prog 68 = some (.agg [.int .i64 0, .int .i64 0, .int .i64 0, .int .i64 0, .int .i64 0, .int .i64 0, .int .i64 0, .int .i64 0, .int .i64 0, .int .i64 0, .int .i64 0, .int .i64 0]) := by kernel_rfl
theorem T69 : tinfo Tryz.prog 69 = some ⟨1, 24, [.view true 0 []], .slice 77⟩ := by kernel_rfl
theorem Z69 : tzero Tryz.prog 69 = some (.view true 0 []) := by kernel_rfl
theorem T71 : tinfo Tryz.prog 71 = some ⟨1, 8, [.nilfunc], .func⟩ := by kernel_rfl
theorem Z71 : tzero Tryz.prog 71 = some (.nilfunc) := by kernel_rfl
theorem T72 : tinfo Tryz.prog 72 = some ⟨66, 66, [.bool false, .bool false, .bool false, .bool false, .bool false, .bool false, .bool false, .bool false, .bool false, .bool false, .bool false, .bool false, .bool false, .bool false, .bool false, .bool false, .bool false, .bool false, .bool false, .bool false, .bool false, .bool false, .bool false, .bool false, .bool false, .bool false, .bool false, .bool false, .bool false, .bool false, .bool false, .bool false, .bool false, .bool false, .bool false, .bool false, .bool false, .bool false, .bool false, .bool false, .bool false, .bool false, .bool false, .bool false, .bool false, .bool false, .bool false, .bool false, .bool false, .bool false, .bool false, .bool false, .bool false, .bool false, .bool false, .bool false, .bool false, .bool false, .bool false, .bool false, .bool false, .bool false, .bool false, .bool false, .bool false, .bool false], .array 66 4⟩ := by kernel_rfl
theorem Z72 : tzero Tryz.prog 72 = some (.agg [.bool false, .bool false, .bool false, .bool false, .bool false, .bool false, .bool false, .bool false, .bool false, .bool false, .bool false, .bool false, .bool false, .bool false, .bool false, .bool false, .bool false, .bool false, .bool false, .bool false, .bool false, .bool false, .bool false, .bool false, .bool false, .bool false, .bool false, .bool false, .bool false, .bool false, .bool false, .bool false, .bool false, .bool false, .bool false, .bool false, .bool false, .bool false, .bool false, .bool false, .bool false, .bool false, .bool false, .bool false, .bool false, .bool false, .bool false, .bool false, .bool false, .bool false, .bool false, .bool false, .bool false, .bool false, .bool false, .bool false, .bool false, .bool false, .bool false, .bool false, .bool false, .bool false, .bool false, .bool false, .bool false, .bool false]) := by kernel_rfl
theorem E73 : aEqTy Tryz.prog 73 = some [.b, .b, .b, .b, .b, .b, .b, .b, .b, .b, .b, .b, .b, .b, .b, .b, .b, .b, .b, .b, .b, .b, .b, .b, .b, .b, .b, .b, .b, .b, .b, .b, .b, .b, .b, .b, .b, .b, .b, .b, .b, .b, .b, .b, .b, .b, .b, .b, .b, .b, .b, .b, .b, .b, .b, .b, .b, .b, .b, .b, .b, .b, .b, .b, .b, .b] := by kernel_rfl
theorem T73 : tinfo Tryz.prog 73 = some ⟨66, 66, [.bool false, .bool false, .bool false, .bool false, .bool false, .bool false, .bool false, .bool false, .bool false, .bool false, .bool false, .bool false, .bool false, .bool false, .bool false, .bool false, .bool false, .bool false, .bool false, .bool false, .bool false, .bool false, .bool false, .bool false, .bool false, .bool false, .bool false, .bool false, .bool false, .bool false, .bool false, .bool false, .bool false, .bool false, .bool false, .bool false, .bool false, .bool false, .bool false, .bool false, .bool false, .bool false, .bool false, .bool false, .bool false, .bool false, .bool false, .bool false, .bool false, .bool false, .bool false, .bool false, .bool false, .bool false, .bool false, .bool false, .bool false, .bool false, .bool false, .bool false, .bool false, .bool false, .bool false, .bool false, .bool false, .bool false], .array 66 4⟩ := by kernel_rfl
theorem Z73 : tzero Tryz.prog 73 = some (.agg [.bool false, .bool false, .bool false, .bool false, .bool false, .bool false, .bool false, .bool false, .bool false, .bool false, .bool false, .bool false, .bool false, .bool false, .bool false, .bool false, .bool false, .bool false, .bool false, .bool false, .bool false, .bool false, .bool false, .bool false, .bool false, .bool false, .bool false, .bool false, .bool false, .bool false, .bool false, .bool false, .bool false, .bool false, .bool false, .bool false, .bool false, .bool false, .bool false, .bool false, .bool false, .bool false, .bool false, .bool false, .bool false, .bool false, .bool false, .bool false, .bool false, .bool false, .bool false, .bool false, .bool false, .bool false, .bool false, .bool false, .bool false, .bool false, .bool false, .bool false, .bool false, .bool false, .bool false, .bool false, .bool false, .bool false]) := by kernel_rfl
theorem T74 : tinfo Tryz.prog 74 = some ⟨1, 8, [.nilfunc], .func⟩ := by kernel_rfl
theorem Z74 : tzero Tryz.prog 74 = some (.nilfunc) := by kernel_rfl
theorem T75 : tinfo Tryz.prog 75 = some ⟨1, 8, [.nilfunc], .func⟩ := by kernel_rfl
theorem Z75 : tzero Tryz.prog 75 = some (.nilfunc) := by kernel_rfl
theorem T76 : tinfo Tryz.prog 76 = some ⟨2, 16, [.bool false, .nilfunc], .struct [(0, 4), (1, 75)]⟩ := by kernel_rfl
theorem Z76 : tzero Tryz.prog 76 = some (.agg [.bool false, .nilfunc]) := by kernel_rfl
theorem T77 : tinfo Tryz.prog 77 = some ⟨2, 16, [.bool false, .nilfunc], .struct [(0, 4), (1, 75)]⟩ := by kernel_rfl
theorem Z77 : tzero Tryz.prog 77 = some (.agg [.bool false, .nilfunc]) := by kernel_rfl
theorem T78 : tinfo Tryz.prog 78 = some ⟨1, 8, [.nilfunc], .func⟩ := by kernel_rfl
theorem Z78 : tzero Tryz.prog 78 = some (.nilfunc) := by kernel_rfl
theorem T79 : tinfo Tryz.prog 79 = some ⟨1, 24, [.view true 0 []], .slice 73⟩ := by kernel_rfl
theorem Z79 : tzero Tryz.prog 79 = some (.view true 0 []) := by kernel_rfl
theorem T80 : tinfo Tryz.prog 80 = some ⟨1, 8, [.nilfunc], .func⟩ := by kernel_rfl
theorem Z80 : tzero Tryz.prog 80 = some (.nilfunc) := by kernel_rfl
theorem T81 : tinfo Tryz.prog 81 = some ⟨256, 256, [.bool false, .bool false, .bool false, .bool false, .bool false, .bool false, .bool false, .bool false, .bool false, .bool false, .bool false, .bool false, .bool false, .bool false, .bool false, .bool false, .bool false, .bool false, .bool false, .bool false, .bool false, .bool false, .bool false, .bool false, .bool false, .bool false, .bool false, .bool false, .bool false, .bool false, .bool false, .bool false, .bool false, .bool false, .bool false, .bool false, .bool false, .bool false, .bool false, .bool false, .bool false, .bool false, .bool false, .bool false, .bool false, .bool false, .bool false, .bool false, .bool false, .bool false, .bool false, .bool false, .bool false, .bool false, .bool false, .bool false, .bool false, .bool false, .bool false, .bool false, .bool false, .bool false, .bool false, .bool false, .bool false, .bool false, .bool false, .bool false, .bool false, .bool false, .bool false, .bool false, .bool false, .bool false, .bool false, .bool false, .bool false, .bool false, .bool false, .bool false, .bool false, .bool false, .bool false, .bool false, .bool false, .bool false, .bool false, .bool false, .bool false, .bool false, .bool false, .bool false, .bool false, .bool false, .bool false, .bool false, .bool false, .bool false, .bool false, .bool false, .bool false, .bool false, .bool false, .bool false, .bool false, .bool false, .bool false, .bool false, .bool false, .bool false, .bool false, .bool false, .bool false, .bool false, .bool false, .bool false, .bool false, .bool false, .bool false, .bool false, .bool false, .bool false, .bool false, .bool false, .bool false, .bool false, .bool false, .bool false, .bool false, .bool false, .bool false, .bool false, .bool false, .bool false, .bool false, .bool false, .bool false, .bool false, .bool false, .bool false, .bool false, .bool false, .bool false, .bool false, .bool false, .bool false, .bool false, .bool false, .bool false, .bool false, .bool false, .bool false, .bool false, .bool false, .bool false, .bool false, .bool false, .bool false, .bool false, .bool false, .bool false, .bool false, .bool false, .bool false, .bool false, .bool false, .bool false, .bool false, .bool false, .bool false, .bool false, .bool false, .bool false, .bool false, .bool false, .bool false, .bool false, .bool false, .bool false, .bool false, .bool false, .bool false, .bool false, .bool false, .bool false, .bool false, .bool false, .bool false, .bool false, .bool false, .bool false, .bool false, .bool false, .bool false, .bool false, .bool false, .bool false, .bool false, .bool false, .bool false, .bool false, .bool false, .bool false, .bool false, .bool false, .bool false, .bool false, .bool false, .bool false, .bool false, .bool false, .bool false, .bool false, .bool false, .bool false, .bool false, .bool false, .bool false, .bool false, .bool false, .bool false, .bool false, .bool false, .bool false, .bool false, .bool false, .bool false, .bool false, .bool false, .bool false, .bool false, .bool false, .bool false, .bool false, .bool false, .bool false, .bool false, .bool false, .bool false, .bool false, .bool false, .bool false, .bool false, .bool false, .bool false, .bool false, .bool false, .bool false, .bool false, .bool false, .bool false, .bool false, .bool false, .bool false, .bool false, .bool false], .array 256 4⟩ := by kernel_rfl
theorem Z81 : tzero Tryz.prog 81 = some (.agg [.bool false, .bool false, .bool false, .bool false, .bool false, .bool false, .bool false, .bool false, .bool false, .bool false, .bool false, .bool false, .bool false, .bool false, .bool false, .bool false, .bool false, .bool false, .bool false, .bool false, .bool false, .bool false, .bool false, .bool false, .bool false, .bool false, .bool false, .bool false, .bool false, .bool false, .bool false, .bool false, .bool false, .bool false, .bool false, .bool false, .bool false, .bool false, .bool false, .bool false, .bool false, .bool false, .bool false, .bool false, .bool false, .bool false, .bool false, .bool false, .bool false, .bool false, .bool false, .bool false, .bool false, .bool false, .bool false, .bool false, .bool false, .bool false, .bool false, .bool false, .bool false, .bool false, .bool false, .bool false, .bool false, .bool false, .bool false, .bool false, .bool false, .bool false, .bool false, .bool false, .bool false, .bool false, .bool false, .bool false, .bool false, .bool false, .bool false, .bool false, .bool false, .bool false, .bool false, .bool false, .bool false, .bool false, .bool false, .bool false, .bool false, .bool false, .bool false, .bool false, .bool false, .bool false, .bool false, .bool false, .bool false, .bool false, .bool false, .bool false, .bool false, .bool false, .bool false, .bool false, .bool false, .bool false, .bool false, .bool false, .bool false, .bool false, .bool false, .bool false, .bool false, .bool false, .bool false, .bool false, .bool false, .bool false, .bool false, .bool false, .bool false, .bool false, .bool false, .bool false, .bool false, .bool false, .bool false, .bool false, .bool false, .bool false, .bool false, .bool false, .bool false, .bool false, .bool false, .bool false, .bool false, .bool false, .bool false, .bool false, .bool false, .bool false, .bool false, .bool false, .bool false, .bool false, .bool false, .bool false, .bool false, .bool false, .bool false, .bool false, .bool false, .bool false, .bool false, .bool false, .bool false, .bool false, .bool false, .bool false, .bool false, .bool false, .bool false, .bool false, .bool false, .bool false, .bool false, .bool false, .bool false, .bool false, .bool false, .bool false, .bool false, .bool false, .bool false, .bool false, .bool false, .bool false, .bool false, .bool false, .bool false, .bool false, .bool false, .bool false, .bool false, .bool false, .bool false, .bool false, .bool false, .bool false, .bool false, .bool false, .bool false, .bool false, .bool false, .bool false, .bool false, .bool false, .bool false, .bool false, .bool false, .bool false, .bool false, .bool false, .bool false, .bool false, .bool false, .bool false, .bool false, .bool false, .bool false, .bool false, .bool false, .bool false, .bool false, .bool false, .bool false, .bool false, .bool false, .bool false, .bool false, .bool false, .bool false, .bool false, .bool false, .bool false, .bool false, .bool false, .bool false, .bool false, .bool false, .bool false, .bool false, .bool false, .bool false, .bool false, .bool false, .bool false, .bool false, .bool false, .bool false, .bool false, .bool false, .bool false, .bool false, .bool false, .bool false, .bool false, .bool false, .bool false, .bool false, .bool false, .bool false, .bool false, .bool false, .bool false]) := by kernel_rfl
theorem T82 : tinfo Tryz.prog 82 = some ⟨257, 257, [.bool false, .bool false, .bool false, .bool false, .bool false, .bool false, .bool false, .bool false, .bool false, .bool false, .bool false, .bool false, .bool false, .bool false, .bool false, .bool false, .bool false, .bool false, .bool false, .bool false, .bool false, .bool false, .bool false, .bool false, .bool false, .bool false, .bool false, .bool false, .bool false, .bool false, .bool false, .bool false, .bool false, .bool false, .bool false, .bool false, .bool false, .bool false, .bool false, .bool false, .bool false, .bool false, .bool false, .bool false, .bool false, .bool false, .bool false, .bool false, .bool false, .bool false, .bool false, .bool false, .bool false, .bool false, .bool false, .bool false, .bool false, .bool false, .bool false, .bool false, .bool false, .bool false, .bool false, .bool false, .bool false, .bool false, .bool false, .bool false, .bool false, .bool false, .bool false, .bool false, .bool false, .bool false, .bool false, .bool false, .bool false, .bool false, .bool false, .bool false, .bool false, .bool false, .bool false, .bool false, .bool false, .bool false, .bool false, .bool false, .bool false, .bool false, .bool false, .bool false, .bool false, .bool false, .bool false, .bool false, .bool false, .bool false, .bool false, .bool false, .bool false, .bool false, .bool false, .bool false, .bool false, .bool false, .bool false, .bool false, .bool false, .bool false, .bool false, .bool false, .bool false, .bool false, .bool false, .bool false, .bool false, .bool false, .bool false, .bool false, .bool false, .bool false, .bool false, .bool false, .bool false, .bool false, .bool false, .bool false, .bool false, .bool false, .bool false, .bool false, .bool false, .bool false, .bool false, .bool false, .bool false, .bool false, .bool false, .bool false, .bool false, .bool false, .bool false, .bool false, .bool false, .bool false, .bool false, .bool false, .bool false, .bool false, .bool false, .bool false, .bool false, .bool false, .bool false, .bool false, .bool false, .bool false, .bool false, .bool false, .bool false, .bool false, .bool false, .bool false, .bool false, .bool false, .bool false, .bool false, .bool false, .bool false, .bool false, .bool false, .bool false, .bool false, .bool false, .bool false, .bool false, .bool false, .bool false, .bool false, .bool false, .bool false, .bool false, .bool false, .bool false, .bool false, .bool false, .bool false, .bool false, .bool false, .bool false, .bool false, .bool false, .bool false, .bool false, .bool false, .bool false, .bool false, .bool false, .bool false, .bool false, .bool false, .bool false, .bool false, .bool false, .bool false, .bool false, .bool false, .bool false, .bool false, .bool false, .bool false, .bool false, .bool false, .bool false, .bool false, .bool false, .bool false, .bool false, .bool false, .bool false, .bool false, .bool false, .bool false, .bool false, .bool false, .bool false, .bool false, .bool false, .bool false, .bool false, .bool false, .bool false, .bool false, .bool false, .bool false, .bool false, .bool false, .bool false, .bool false, .bool false, .bool false, .bool false, .bool false, .bool false, .bool false, .bool false, .bool false, .bool false, .bool false, .bool false, .bool false, .bool false, .bool false, .bool false, .bool false, .bool false], .struct [(0, 4), (1, 81)]⟩ := by kernel_rfl
theorem Z82 : tzero Tryz.prog 82 = some (.agg [.bool false, .bool false, .bool false, .bool false, .bool false, .bool false, .bool false, .bool false, .bool false, .bool false, .bool false, .bool false, .bool false, .bool false, .bool false, .bool false, .bool false, .bool false, .bool false, .bool false, .bool false, .bool false, .bool false, .bool false, .bool false, .bool false, .bool false, .bool false, .bool false, .bool false, .bool false, .bool false, .bool false, .bool false, .bool false, .bool false, .bool false, .bool false, .bool false, .bool false, .bool false, .bool false, .bool false, .bool false, .bool false, .bool false, .bool false, .bool false, .bool false, .bool false, .bool false, .bool false, .bool false, .bool false, .bool false, .bool false, .bool false, .bool false, .bool false, .bool false, .bool false, .bool false, .bool false, .bool false, .bool false, .bool false, .bool false, .bool false, .bool false, .bool false, .bool false, .bool false, .bool false, .bool false, .bool false, .bool false, .bool false, .bool false, .bool false, .bool false, .bool false, .bool false, .bool false, .bool false, .bool false, .bool false, .bool false, .bool false, .bool false, .bool false, .bool false, .bool false, .bool false, .bool false, .bool false, .bool false, .bool false, .bool false, .bool false, .bool false, .bool false, .bool false, .bool false, .bool false, .bool false, .bool false, .bool false, .bool false, .bool false, .bool false, .bool false, .bool false, .bool false, .bool false, .bool false, .bool false, .bool false, .bool false, .bool false, .bool false, .bool false, .bool false, .bool false, .bool false, .bool false, .bool false, .bool false, .bool false, .bool false, .bool false, .bool false, .bool false, .bool false, .bool false, .bool false, .bool false, .bool false, .bool false, .bool false, .bool false, .bool false, .bool false, .bool false, .bool false, .bool false, .bool false, .bool false, .bool false, .bool false, .bool false, .bool false, .bool false, .bool false, .bool false, .bool false, .bool false, .bool false, .bool false, .bool false, .bool false, .bool false, .bool false, .bool false, .bool false, .bool false, .bool false, .bool false, .bool false, .bool false, .bool false, .bool false, .bool false, .bool false, .bool false, .bool false, .bool false, .bool false, .bool false, .bool false, .bool false, .bool false, .bool false, .bool false, .bool false, .bool false, .bool false, .bool false, .bool false, .bool false, .bool false, .bool false, .bool false, .bool false, .bool false, .bool false, .bool false, .bool false, .bool false, .bool false, .bool false, .bool false, .bool false, .bool false, .bool false, .bool false, .bool false, .bool false, .bool false, .bool false, .bool false, .bool false, .bool false, .bool false, .bool false, .bool false, .bool false, .bool false, .bool false, .bool false, .bool false, .bool false, .bool false, .bool false, .bool false, .bool false, .bool false, .bool false, .bool false, .bool false, .bool false, .bool false, .bool false, .bool false, .bool false, .bool false, .bool false, .bool false, .bool false, .bool false, .bool false, .bool false, .bool false, .bool false, .bool false, .bool false, .bool false, .bool false, .bool false, .bool false, .bool false, .bool false, .bool false, .bool false, .bool false, .bool false, .bool false, .bool false]) := by kernel_rfl
theorem E83 : aEqTy Tryz.prog 83 = some [.b, .b, .b, .b, .b, .b, .b, .b, .b, .b, .b, .b, .b, .b, .b, .b, .b, .b, .b, .b, .b, .b, .b, .b, .b, .b, .b, .b, .b, .b, .b, .b, .b, .b, .b, .b, .b, .b, .b, .b, .b, .b, .b, .b, .b, .b, .b, .b, .b, .b, .b, .b, .b, .b, .b, .b, .b, .b, .b, .b, .b, .b, .b, .b, .b, .b, .b, .b, .b, .b, .b, .b, .b, .b, .b, .b, .b, .b, .b, .b, .b, .b, .b, .b, .b, .b, .b, .b, .b, .b, .b, .b, .b, .b, .b, .b, .b, .b, .b, .b, .b, .b, .b, .b, .b, .b, .b, .b, .b, .b, .b, .b, .b, .b, .b, .b, .b, .b, .b, .b, .b, .b, .b, .b, .b, .b, .b, .b, .b, .b, .b, .b, .b, .b, .b, .b, .b, .b, .b, .b, .b, .b, .b, .b, .b, .b, .b, .b, .b, .b, .b, .b, .b, .b, .b, .b, .b, .b, .b, .b, .b, .b, .b, .b, .b, .b, .b, .b, .b, .b, .b, .b, .b, .b, .b, .b, .b, .b, .b, .b, .b, .b, .b, .b, .b, .b, .b, .b, .b, .b, .b, .b, .b, .b, .b, .b, .b, .b, .b, .b, .b, .b, .b, .b, .b, .b, .b, .b, .b, .b, .b, .b, .b, .b, .b, .b, .b, .b, .b, .b, .b, .b, .b, .b, .b, .b, .b, .b, .b, .b, .b, .b, .b, .b, .b, .b, .b, .b, .b, .b, .b, .b, .b, .b, .b, .b, .b, .b, .b, .b, .b, .b, .b, .b, .b, .b, .b] := by kernel_rfl
theorem T83 : tinfo Tryz.prog 83 = some ⟨257, 257, [.bool false, .bool false, .bool false, .bool false, .bool false, .bool false, .bool false, .bool false, .bool false, .bool false, .bool false, .bool false, .bool false, .bool false, .bool false, .bool false, .bool false, .bool false, .bool false, .bool false, .bool false, .bool false, .bool false, .bool false, .bool false, .bool false, .bool false, .bool false, .bool false, .bool false, .bool false, .bool false, .bool false, .bool false, .bool false, .bool false, .bool false, .bool false, .bool false, .bool false, .bool false, .bool false, .bool false, .bool false, .bool false, .bool false, .bool false, .bool false, .bool false, .bool false, .bool false, .bool false, .bool false, .bool false, .bool false, .bool false, .bool false, .bool false, .bool false, .bool false, .bool false, .bool false, .bool false, .bool false, .bool false, .bool false, .bool false, .bool false, .bool false, .bool false, .bool false, .bool false, .bool false, .bool false, .bool false, .bool false, .bool false, .bool false, .bool false, .bool false, .bool false, .bool false, .bool false, .bool false, .bool false, .bool false, .bool false, .bool false, .bool false, .bool false, .bool false, .bool false, .bool false, .bool false, .bool false, .bool false, .bool false, .bool false, .bool false, .bool false, .bool false, .bool false, .bool false, .bool false, .bool false, .bool false, .bool false, .bool false, .bool false, .bool false, .bool false, .bool false, .bool false, .bool false, .bool false, .bool false, .bool false, .bool false, .bool false, .bool false, .bool false, .bool false, .bool false, .bool false, .bool false, .bool false, .bool false, .bool false, .bool false, .bool false, .bool false, .bool false, .bool false, .bool false, .bool false, .bool false, .bool false, .bool false, .bool false, .bool false, .bool false, .bool false, .bool false, .bool false, .bool false, .bool false, .bool false, .bool false, .bool false, .bool false, .bool false, .bool false, .bool false, .bool false, .bool false, .bool false, .bool false, .bool false, .bool false, .bool false, .bool false, .bool false, .bool false, .bool false, .bool false, .bool false, .bool false, .bool false, .bool false, .bool false, .bool false, .bool false, .bool false, .bool false, .bool false, .bool false, .bool false, .bool false, .bool false, .bool false, .bool false, .bool false, .bool false, .bool false, .bool false, .bool false, .bool false, .bool false, .bool false, .bool false, .bool false, .bool false, .bool false, .bool false, .bool false, .bool false, .bool false, .bool false, .bool false, .bool false, .bool false, .bool false, .bool false, .bool false, .bool false, .bool false, .bool false, .bool false, .bool false, .bool false, .bool false, .bool false, .bool false, .bool false, .bool false, .bool false, .bool false, .bool false, .bool false, .bool false, .bool false, .bool false, .bool false, .bool false, .bool false, .bool false, .bool false, .bool false, .bool false, .bool false, .bool false, .bool false, .bool false, .bool false, .bool false, .bool false, .bool false, .bool false, .bool false, .bool false, .bool false, .bool false, .bool false, .bool false, .bool false, .bool false, .bool false, .bool false, .bool false, .bool false, .bool false, .bool false, .bool false, .bool false, .bool false, .bool false, .bool false], .struct [(0, 4), (1, 81)]⟩ := by kernel_rfl
theorem Z83 : tzero Tryz.prog 83 = some (.agg [.bool false, .bool false, .bool false, .bool false, .bool false, .bool false, .bool false, .bool false, .bool false, .bool false, .bool false, .bool false, .bool false, .bool false, .bool false, .bool false, .bool false, .bool false, .bool false, .bool false, .bool false, .bool false, .bool false, .bool false, .bool false, .bool false, .bool false, .bool false, .bool false, .bool false, .bool false, .bool false, .bool false, .bool false, .bool false, .bool false, .bool false, .bool false, .bool false, .bool false, .bool false, .bool false, .bool false, .bool false, .bool false, .bool false, .bool false, .bool false, .bool false, .bool false, .bool false, .bool false, .bool false, .bool false, .bool false, .bool false, .bool false, .bool false, .bool false, .bool false, .bool false, .bool false, .bool false, .bool false, .bool false, .bool false, .bool false, .bool false, .bool false, .bool false, .bool false, .bool false, .bool false, .bool false, .bool false, .bool false, .bool false, .bool false, .bool false, .bool false, .bool false, .bool false, .bool false, .bool false, .bool false, .bool false, .bool false, .bool false, .bool false, .bool false, .bool false, .bool false, .bool false, .bool false, .bool false, .bool false, .bool false, .bool false, .bool false, .bool false, .bool false, .bool false, .bool false, .bool false, .bool false, .bool false, .bool false, .bool false, .bool false, .bool false, .bool false, .bool false, .bool false, .bool false, .bool false, .bool false, .bool false, .bool false, .bool false, .bool false, .bool false, .bool false, .bool false, .bool false, .bool false, .bool false, .bool false, .bool false, .bool false, .bool false, .bool false, .bool false, .bool false, .bool false, .bool false, .bool false, .bool false, .bool false, .bool false, .bool false, .bool false, .bool false, .bool false, .bool false, .bool false, .bool false, .bool false, .bool false, .bool false, .bool false, .bool false, .bool false, .bool false, .bool false, .bool false, .bool false, .bool false, .bool false, .bool false, .bool false, .bool false, .bool false, .bool false, .bool false, .bool false, .bool false, .bool false, .bool false, .bool false, .bool false, .bool false, .bool false, .bool false, .bool false, .bool false, .bool false, .bool false, .bool false, .bool false, .bool false, .bool false, .bool false, .bool false, .bool false, .bool false, .bool false, .bool false, .bool false, .bool false, .bool false, .bool false, .bool false, .bool false, .bool false, .bool false, .bool false, .bool false, .bool false, .bool false, .bool false, .bool false, .bool false, .bool false, .bool false, .bool false, .bool false, .bool false, .bool false, .bool false, .bool false, .bool false, .bool false, .bool false, .bool false, .bool false, .bool false, .bool false, .bool false, .bool false, .bool false, .bool false, .bool false, .bool false, .bool false, .bool false, .bool false, .bool false, .bool false, .bool false, .bool false, .bool false, .bool false, .bool false, .bool false, .bool false, .bool false, .bool false, .bool false, .bool false, .bool false, .bool false, .bool false, .bool false, .bool false, .bool false, .bool false, .bool false, .bool false, .bool false, .bool false, .bool false, .bool false, .bool false, .bool false, .bool false, .bool false, .bool false]) := by kernel_rfl
theorem T84 : tinfo Tryz.prog 84 = some ⟨1, 24, [.view true 0 []], .slice 85⟩ := by kernel_rfl
theorem Z84 : tzero Tryz.prog 84 = some (.view true 0 []) := by kernel_rfl
theorem T85 : tinfo Tryz.prog 85 = some ⟨1, 24, [.view true 0 []], .slice 4⟩ := by kernel_rfl
theorem Z85 : tzero Tryz.prog 85 = some (.view true 0 []) := by kernel_rfl
theorem T86 : tinfo Tryz.prog 86 = some ⟨1, 8, [.nilfunc], .func⟩ := by kernel_rfl
theorem Z86 : tzero Tryz.prog 86 = some (.nilfunc) := by kernel_rfl
theorem T88 : tinfo Tryz.prog 88 = some ⟨1, 8, [.nilfunc], .func⟩ := by kernel_rfl
theorem Z88 : tzero Tryz.prog 88 = some (.nilfunc) := by kernel_rfl
theorem T89 : tinfo Tryz.prog 89 = some ⟨1, 8, [.nilfunc], .func⟩ := by kernel_rfl
theorem Z89 : tzero Tryz.prog 89 = some (.nilfunc) := by kernel_rfl
theorem T90 : tinfo Tryz.prog 90 = some ⟨1, 8, [.nilfunc], .func⟩ := by kernel_rfl
theorem Z90 : tzero Tryz.prog 90 = some (.nilfunc) := by kernel_rfl
theorem T91 : tinfo Tryz.prog 91 = some ⟨1, 8, [.nilfunc], .func⟩ := by kernel_rfl
theorem Z91 : tzero Tryz.prog 91 = some (.nilfunc) := by kernel_rfl
theorem T92 : tinfo Tryz.prog 92 = some ⟨1, 8, [.nilfunc], .func⟩ := by kernel_rfl
theorem Z92 : tzero Tryz.prog 92 = some (.nilfunc) := by kernel_rfl
theorem T93 : tinfo Tryz.prog 93 = some ⟨1, 8, [.nilfunc], .func⟩ := by kernel_rfl
theorem Z93 : tzero Tryz.prog 93 = some (.nilfunc) := by kernel_rfl
theorem T94 : tinfo Tryz.prog 94 = some ⟨1, 8, [.nilfunc], .func⟩ := by kernel_rfl
theorem Z94 : tzero Tryz.prog 94 = some (.nilfunc) := by kernel_rfl
theorem T95 : tinfo Tryz.prog 95 = some ⟨1, 24, [.view true 0 []], .slice 9⟩ := by kernel_rfl
theorem Z95 : tzero Tryz.prog 95 = some (.view true 0 []) := by kernel_rfl
theorem T96 : tinfo Tryz.prog 96 = some ⟨1, 8, [.nilfunc], .func⟩ := by kernel_rfl
theorem Z96 : tzero Tryz.prog 96 = some (.nilfunc) := by kernel_rfl
theorem T97 : tinfo Tryz.prog 97 = some ⟨1, 24, [.view true 0 []], .slice 5⟩ := by kernel_rfl
theorem Z97 : tzero Tryz.prog 97 = some (.view true 0 []) := by kernel_rfl
theorem T98 : tinfo Tryz.prog 98 = some ⟨2, 48, [.view true 0 [], .view true 0 []], .struct [(0, 52), (1, 97)]⟩ := by kernel_rfl
theorem Z98 : tzero Tryz.prog 98 = some (.agg [.view true 0 [], .view true 0 []]) := by kernel_rfl
theorem T99 : tinfo Tryz.prog 99 = some ⟨2, 48, [.view true 0 [], .view true 0 []], .struct [(0, 52), (1, 97)]⟩ := by kernel_rfl
theorem Z99 : tzero Tryz.prog 99 = some (.agg [.view true 0 [], .view true 0 []]) := by kernel_rfl
theorem T100 : tinfo Tryz.prog 100 = some ⟨3, 32, [.str ⟨#[]⟩, .int .i64 0, .int .i64 0], .struct [(0, 9), (1, 2), (2, 2)]⟩ := by kernel_rfl
theorem Z100 : tzero Tryz.prog 100 = some (.agg [.str ⟨#[]⟩, .int .i64 0, .int .i64 0]) := by kernel_rfl
theorem E101 : aEqTy Tryz.prog 101 = some [.s, .i, .i] := by kernel_rfl
theorem T101 : tinfo Tryz.prog 101 = some ⟨3, 32, [.str ⟨#[]⟩, .int .i64 0, .int .i64 0], .struct [(0, 9), (1, 2), (2, 2)]⟩ := by kernel_rfl
theorem Z101 : tzero Tryz.prog 101 = some (.agg [.str ⟨#[]⟩, .int .i64 0, .int .i64 0]) := by kernel_rfl
theorem T102 : tinfo Tryz.prog 102 = some ⟨1, 24, [.view true 0 []], .slice 101⟩ := by kernel_rfl
theorem Z102 : tzero Tryz.prog 102 = some (.view true 0 []) := by kernel_rfl
theorem T103 : tinfo Tryz.prog 103 = some ⟨7, 112, [.str ⟨#[]⟩, .view true 0 [], .view true 0 [], .view true 0 [], .int .i64 0, .int .i64 0, .int .i64 0], .struct [(0, 9), (1, 99), (3, 102), (4, 2), (5, 2), (6, 3)]⟩ := by kernel_rfl
theorem Z103 : tzero Tryz.prog 103 = some (.agg [.str ⟨#[]⟩, .view true 0 [], .view true 0 [], .view true 0 [], .int .i64 0, .int .i64 0, .int .i64 0]) := by kernel_rfl
theorem T104 : tinfo Tryz.prog 104 = some ⟨7, 112, [.str ⟨#[]⟩, .view true 0 [], .view true 0 [], .view true 0 [], .int .i64 0, .int .i64 0, .int .i64 0], .struct [(0, 9), (1, 99), (3, 102), (4, 2), (5, 2), (6, 3)]⟩ := by kernel_rfl
theorem Z104 : tzero Tryz.prog 104 = some (.agg [.str ⟨#[]⟩, .view true 0 [], .view true 0 [], .view true 0 [], .int .i64 0, .int .i64 0, .int .i64 0]) := by kernel_rfl
theorem T106 : tinfo Tryz.prog 106 = some ⟨1, 8, [.nilfunc], .func⟩ := by kernel_rfl
theorem Z106 : tzero Tryz.prog 106 = some (.nilfunc) := by kernel_rfl
theorem T107 : tinfo Tryz.prog 107 = some ⟨1, 24, [.view true 0 []], .slice 104⟩ := by kernel_rfl
theorem Z107 : tzero Tryz.prog 107 = some (.view true 0 []) := by kernel_rfl
theorem T108 : tinfo Tryz.prog 108 = some ⟨1, 24, [.view true 0 []], .slice 2⟩ := by kernel_rfl
theorem Z108 : tzero Tryz.prog 108 = some (.view true 0 []) := by kernel_rfl
theorem T109 : tinfo Tryz.prog 109 = some ⟨4, 64, [.view true 0 [], .view true 0 [], .int .i64 0, .int .i64 0], .struct [(0, 107), (1, 108), (2, 3), (3, 3)]⟩ := by kernel_rfl
theorem Z109 : tzero Tryz.prog 109 = some (.agg [.view true 0 [], .view true 0 [], .int .i64 0, .int .i64 0]) := by kernel_rfl
theorem T110 : tinfo Tryz.prog 110 = some ⟨4, 64, [.view true 0 [], .view true 0 [], .int .i64 0, .int .i64 0], .struct [(0, 107), (1, 108), (2, 3), (3, 3)]⟩ := by kernel_rfl
theorem Z110 : tzero Tryz.prog 110 = some (.agg [.view true 0 [], .view true 0 [], .int .i64 0, .int .i64 0]) := by kernel_rfl
theorem T111 : tinfo Tryz.prog 111 = some ⟨21, 296, [.view true 0 [], .view true 0 [], .view true 0 [], .view true 0 [], .view true 0 [], .int .i64 0, .view true 0 [], .view true 0 [], .int .i64 0, .int .i64 0, .int .i64 0, .int .i64 0, .int .i64 0, .int .i64 0, .int .i64 0, .int .i64 0, .int .i64 0, .int .i64 0, .int .i64 0, .int .i64 0, .view true 0 []], .struct [(0, 45), (8, 68), (20, 48)]⟩ := by kernel_rfl
theorem Z111 : tzero Tryz.prog 111 = some (.agg [.view true 0 [], .view true 0 [], .view true 0 [], .view true 0 [], .view true 0 [], .int .i64 0, .view true 0 [], .view true 0 [], .int .i64 0, .int .i64 0, .int .i64 0, .int .i64 0, .int .i64 0, .int .i64 0, .int .i64 0, .int .i64 0, .int .i64 0, .int .i64 0, .int .i64 0, .int .i64 0, .view true 0 []]) := by kernel_rfl
theorem T112 : tinfo Tryz.prog 112 = some ⟨21, 296, [.view true 0 [], .view true 0 [], .view true 0 [], .view true 0 [], .view true 0 [], .int .i64 0, .view true 0 [], .view true 0 [], .int .i64 0, .int .i64 0, .int .i64 0, .int .i64 0, .int .i64 0, .int .i64 0, .int .i64 0, .int .i64 0, .int .i64 0, .int .i64 0, .int .i64 0, .int .i64 0, .view true 0 []], .struct [(0, 45), (8, 68), (20, 48)]⟩ := by kernel_rfl
theorem Z112 : tzero Tryz.prog 112 = some (.agg [.view true 0 [], .view true 0 [], .view true 0 [], .view true 0 [], .view true 0 [], .int .i64 0, .view true 0 [], .view true 0 [], .int .i64 0, .int .i64 0, .int .i64 0, .int .i64 0, .int .i64 0, .int .i64 0, .int .i64 0, .int .i64 0, .int .i64 0, .int .i64 0, .int .i64 0, .int .i64 0, .view true 0 []]) := by kernel_rfl
theorem T113 : tinfo Tryz.prog 113 = some ⟨1, 8, [.nilfunc], .func⟩ := by kernel_rfl
theorem Z113 : tzero Tryz.prog 113 = some (.nilfunc) := by kernel_rfl
theorem T114 : tinfo Tryz.prog 114 = some ⟨1, 8, [.nilfunc], .func⟩ := by kernel_rfl
theorem Z114 : tzero Tryz.prog 114 = some (.nilfunc) := by kernel_rfl
theorem T115 : tinfo Tryz.prog 115 = some ⟨1, 8, [.nilfunc], .func⟩ := by kernel_rfl
theorem Z115 : tzero Tryz.prog 115 = some (.nilfunc) := by kernel_rfl
theorem T117 : tinfo Tryz.prog 117 = some ⟨1, 8, [.nilfunc], .func⟩ := by kernel_rfl
theorem Z117 : tzero Tryz.prog 117 = some (.nilfunc) := by kernel_rfl
theorem T118 : tinfo Tryz.prog 118 = some ⟨1, 8, [.nilfunc], .func⟩ := by kernel_rfl
theorem Z118 : tzero Tryz.prog 118 = some (.nilfunc) := by kernel_rfl
theorem T119 : tinfo Tryz.prog 119 = some ⟨1, 8, [.nilfunc], .func⟩ := by kernel_rfl
theorem Z119 : tzero Tryz.prog 119 = some (.nilfunc) := by kernel_rfl
theorem T120 : tinfo Tryz.prog 120 = some ⟨1, 8, [.nilfunc], .func⟩ := by kernel_rfl
theorem Z120 : tzero Tryz.prog 120 = some (.nilfunc) := by kernel_rfl
theorem T121 : tinfo Tryz.prog 121 = some ⟨2, 16, [.int .i64 0, .int .i64 0], .struct [(0, 2), (1, 2)]⟩ := by kernel_rfl
theorem Z121 : tzero Tryz.prog 121 = some (.agg [.int .i64 0, .int .i64 0]) := by kernel_rfl
theorem E122 : aEqTy Tryz.prog 122 = some [.i, .i] := by kernel_rfl
theorem T122 : tinfo Tryz.prog 122 = some ⟨2, 16, [.int .i64 0, .int .i64 0], .struct [(0, 2), (1, 2)]⟩ := by kernel_rfl
theorem Z122 : tzero Tryz.prog 122 = some (.agg [.int .i64 0, .int .i64 0]) := by kernel_rfl
theorem T123 : tinfo Tryz.prog 123 = some ⟨6, 104, [.str ⟨#[]⟩, .view true 0 [], .view true 0 [], .view true 0 [], .bool false, .int .i64 0], .struct [(0, 9), (1, 99), (3, 102), (4, 4), (5, 2)]⟩ := by kernel_rfl
theorem Z123 : tzero Tryz.prog 123 = some (.agg [.str ⟨#[]⟩, .view true 0 [], .view true 0 [], .view true 0 [], .bool false, .int .i64 0]) := by kernel_rfl
theorem T124 : tinfo Tryz.prog 124 = some ⟨6, 104, [.str ⟨#[]⟩, .view true 0 [], .view true 0 [], .view true 0 [], .bool false, .int .i64 0], .struct [(0, 9), (1, 99), (3, 102), (4, 4), (5, 2)]⟩ := by kernel_rfl
theorem Z124 : tzero Tryz.prog 124 = some (.agg [.str ⟨#[]⟩, .view true 0 [], .view true 0 [], .view true 0 [], .bool false, .int .i64 0]) := by kernel_rfl
theorem T125 : tinfo Tryz.prog 125 = some ⟨1, 8, [.nilfunc], .func⟩ := by kernel_rfl
theorem Z125 : tzero Tryz.prog 125 = some (.nilfunc) := by kernel_rfl
theorem T126 : tinfo Tryz.prog 126 = some ⟨1, 8, [.nilfunc], .func⟩ := by kernel_rfl
theorem Z126 : tzero Tryz.prog 126 = some (.nilfunc) := by kernel_rfl
theorem T127 : tinfo Tryz.prog 127 = some ⟨1, 8, [.nilfunc], .func⟩ := by kernel_rfl
theorem Z127 : tzero Tryz.prog 127 = some (.nilfunc) := by kernel_rfl
theorem T128 : tinfo Tryz.prog 128 = some ⟨1, 8, [.nilfunc], .func⟩ := by kernel_rfl
theorem Z128 : tzero Tryz.prog 128 = some (.nilfunc) := by kernel_rfl
theorem T129 : tinfo Tryz.prog 129 = some ⟨13, 208, [.str ⟨#[]⟩, .str ⟨#[]⟩, .str ⟨#[]⟩, .str ⟨#[]⟩, .str ⟨#[]⟩, .str ⟨#[]⟩, .str ⟨#[]⟩, .str ⟨#[]⟩, .str ⟨#[]⟩, .str ⟨#[]⟩, .str ⟨#[]⟩, .str ⟨#[]⟩, .str ⟨#[]⟩], .array 13 9⟩ := by kernel_rfl
theorem Z129 : tzero Tryz.prog 129 = some (.agg [.str ⟨#[]⟩, .str ⟨#[]⟩, .str ⟨#[]⟩, .str ⟨#[]⟩, .str ⟨#[]⟩, .str ⟨#[]⟩, .str ⟨#[]⟩, .str ⟨#[]⟩, .str ⟨#[]⟩, .str ⟨#[]⟩, .str ⟨#[]⟩, .str ⟨#[]⟩, .str ⟨#[]⟩]) := by kernel_rfl
theorem T130 : tinfo Tryz.prog 130 = some ⟨3, 40, [.str ⟨#[]⟩, .str ⟨#[]⟩, .int .i64 0], .struct [(0, 9), (1, 9), (2, 3)]⟩ := by kernel_rfl
theorem Z130 : tzero Tryz.prog 130 = some (.agg [.str ⟨#[]⟩, .str ⟨#[]⟩, .int .i64 0]) := by kernel_rfl
theorem T131 : tinfo Tryz.prog 131 = some ⟨27, 360, [.str ⟨#[]⟩, .str ⟨#[]⟩, .int .i64 0, .str ⟨#[]⟩, .str ⟨#[]⟩, .int .i64 0, .str ⟨#[]⟩, .str ⟨#[]⟩, .int .i64 0, .str ⟨#[]⟩, .str ⟨#[]⟩, .int .i64 0, .str ⟨#[]⟩, .str ⟨#[]⟩, .int .i64 0, .str ⟨#[]⟩, .str ⟨#[]⟩, .int .i64 0, .str ⟨#[]⟩, .str ⟨#[]⟩, .int .i64 0, .str ⟨#[]⟩, .str ⟨#[]⟩, .int .i64 0, .str ⟨#[]⟩, .str ⟨#[]⟩, .int .i64 0], .array 9 130⟩ := by kernel_rfl
theorem Z131 : tzero Tryz.prog 131 = some (.agg [.str ⟨#[]⟩, .str ⟨#[]⟩, .int .i64 0, .str ⟨#[]⟩, .str ⟨#[]⟩, .int .i64 0, .str ⟨#[]⟩, .str ⟨#[]⟩, .int .i64 0, .str ⟨#[]⟩, .str ⟨#[]⟩, .int .i64 0, .str ⟨#[]⟩, .str ⟨#[]⟩, .int .i64 0, .str ⟨#[]⟩, .str ⟨#[]⟩, .int .i64 0, .str ⟨#[]⟩, .str ⟨#[]⟩, .int .i64 0, .str ⟨#[]⟩, .str ⟨#[]⟩, .int .i64 0, .str ⟨#[]⟩, .str ⟨#[]⟩, .int .i64 0]) := by kernel_rfl
theorem T132 : tinfo Tryz.prog 132 = some ⟨1, 8, [.nilfunc], .func⟩ := by kernel_rfl
theorem Z132 : tzero Tryz.prog 132 = some (.nilfunc) := by kernel_rfl
theorem T133 : tinfo Tryz.prog 133 = some ⟨1, 8, [.nilfunc], .func⟩ := by kernel_rfl
theorem Z133 : tzero Tryz.prog 133 = some (.nilfunc) := by kernel_rfl
theorem T134 : tinfo Tryz.prog 134 = some ⟨1, 8, [.nilptr], .ptr 136⟩ := by kernel_rfl
theorem Z134 : tzero Tryz.prog 134 = some (.nilptr) := by kernel_rfl
theorem T135 : tinfo Tryz.prog 135 = some ⟨2, 32, [.nilptr, .view true 0 []], .struct [(0, 134), (1, 97)]⟩ := by kernel_rfl
theorem Z135 : tzero Tryz.prog 135 = some (.agg [.nilptr, .view true 0 []]) := by kernel_rfl
theorem T136 : tinfo Tryz.prog 136 = some ⟨2, 32, [.nilptr, .view true 0 []], .struct [(0, 134), (1, 97)]⟩ := by kernel_rfl
theorem Z136 : tzero Tryz.prog 136 = some (.agg [.nilptr, .view true 0 []]) := by kernel_rfl
theorem T137 : tinfo Tryz.prog 137 = some ⟨1, 8, [.nilfunc], .func⟩ := by kernel_rfl
theorem Z137 : tzero Tryz.prog 137 = some (.nilfunc) := by kernel_rfl
theorem T138 : tinfo Tryz.prog 138 = some ⟨1, 16, [.nilif], .iface⟩ := by kernel_rfl
theorem Z138 : tzero Tryz.prog 138 = some (.nilif) := by kernel_rfl
theorem T139 : tinfo Tryz.prog 139 = some ⟨1, 16, [.nilif], .iface⟩ := by kernel_rfl
theorem Z139 : tzero Tryz.prog 139 = some (.nilif) := by kernel_rfl
theorem T141 : tinfo Tryz.prog 141 = some ⟨1, 8, [.nilfunc], .func⟩ := by kernel_rfl
theorem Z141 : tzero Tryz.prog 141 = some (.nilfunc) := by kernel_rfl
theorem T142 : tinfo Tryz.prog 142 = some ⟨1, 8, [.nilfunc], .func⟩ := by kernel_rfl
theorem Z142 : tzero Tryz.prog 142 = some (.nilfunc) := by kernel_rfl
theorem T143 : tinfo Tryz.prog 143 = some ⟨1, 8, [.nilptr], .ptr 9⟩ := by kernel_rfl
theorem Z143 : tzero Tryz.prog 143 = some (.nilptr) := by kernel_rfl
theorem T145 : tinfo Tryz.prog 145 = some ⟨1, 8, [.nilfunc], .func⟩ := by kernel_rfl
theorem Z145 : tzero Tryz.prog 145 = some (.nilfunc) := by kernel_rfl
theorem T147 : tinfo Tryz.prog 147 = some ⟨1, 8, [.nilfunc], .func⟩ := by kernel_rfl
theorem Z147 : tzero Tryz.prog 147 = some (.nilfunc) := by kernel_rfl
theorem T148 : tinfo Tryz.prog 148 = some ⟨8, 64, [.int .i64 0, .int .i64 0, .int .i64 0, .int .i64 0, .int .i64 0, .int .i64 0, .int .i64 0, .int .i64 0], .array 8 2⟩ := by kernel_rfl
theorem Z148 : tzero Tryz.prog 148 = some (.agg [.int .i64 0, .int .i64 0, .int .i64 0, .int .i64 0, .int .i64 0, .int .i64 0, .int .i64 0, .int .i64 0]) := by kernel_rfl
theorem T149 : tinfo Tryz.prog 149 = some ⟨9, 72, [.int .i64 0, .int .i64 0, .int .i64 0, .int .i64 0, .int .i64 0, .int .i64 0, .int .i64 0, .int .i64 0, .int .i64 0], .struct [(0, 148), (8, 2)]⟩ := by kernel_rfl
theorem Z149 : tzero Tryz.prog 149 = some (.agg [.int .i64 0, .int .i64 0, .int .i64 0, .int .i64 0, .int .i64 0, .int .i64 0, .int .i64 0, .int .i64 0, .int .i64 0]) := by kernel_rfl
theorem E150 : aEqTy Tryz.prog 150 = some [.i, .i, .i, .i, .i, .i, .i, .i, .i] := by kernel_rfl
theorem T150 : tinfo Tryz.prog 150 = some ⟨9, 72, [.int .i64 0, .int .i64 0, .int .i64 0, .int .i64 0, .int .i64 0, .int .i64 0, .int .i64 0, .int .i64 0, .int .i64 0], .struct [(0, 148), (8, 2)]⟩ := by kernel_rfl
theorem Z150 : tzero Tryz.prog 150 = some (.agg [.int .i64 0, .int .i64 0, .int .i64 0, .int .i64 0, .int .i64 0, .int .i64 0, .int .i64 0, .int .i64 0, .int .i64 0]) := by kernel_rfl
theorem T151 : tinfo Tryz.prog 151 = some ⟨13, 104, [.int .i64 0, .int .i64 0, .int .i64 0, .int .i64 0, .int .i64 0, .int .i64 0, .int .i64 0, .int .i64 0, .int .i64 0, .int .i64 0, .int .i64 0, .int .i64 0, .int .i64 0], .struct [(0, 3), (1, 150), (10, 3), (11, 2), (12, 3)]⟩ := by kernel_rfl
theorem Z151 : tzero Tryz.prog 151 = some (.agg [.int .i64 0, .int .i64 0, .int .i64 0, .int .i64 0, .int .i64 0, .int .i64 0, .int .i64 0, .int .i64 0, .int .i64 0, .int .i64 0, .int .i64 0, .int .i64 0, .int .i64 0]) := by kernel_rfl
theorem E152 : aEqTy Tryz.prog 152 = some [.i, .i, .i, .i, .i, .i, .i, .i, .i, .i, .i, .i, .i] := by kernel_rfl
theorem T152 : tinfo Tryz.prog 152 = some ⟨13, 104, [.int .i64 0, .int .i64 0, .int .i64 0, .int .i64 0, .int .i64 0, .int .i64 0, .int .i64 0, .int .i64 0, .int .i64 0, .int .i64 0, .int .i64 0, .int .i64 0, .int .i64 0], .struct [(0, 3), (1, 150), (10, 3), (11, 2), (12, 3)]⟩ := by kernel_rfl
theorem Z152 : tzero Tryz.prog 152 = some (.agg [.int .i64 0, .int .i64 0, .int .i64 0, .int .i64 0, .int .i64 0, .int .i64 0, .int .i64 0, .int .i64 0, .int .i64 0, .int .i64 0, .int .i64 0, .int .i64 0, .int .i64 0]) := by kernel_rfl
theorem T153 : tinfo Tryz.prog 153 = some ⟨1, 8, [.nilfunc], .func⟩ := by kernel_rfl
theorem Z153 : tzero Tryz.prog 153 = some (.nilfunc) := by kernel_rfl
theorem T154 : tinfo Tryz.prog 154 = some ⟨1, 8, [.nilfunc], .func⟩ := by kernel_rfl
theorem Z154 : tzero Tryz.prog 154 = some (.nilfunc) := by kernel_rfl
theorem T155 : tinfo Tryz.prog 155 = some ⟨1, 8, [.nilmap], .map 3 154⟩ := by kernel_rfl
theorem Z155 : tzero Tryz.prog 155 = some (.nilmap) := by kernel_rfl
theorem T157 : tinfo Tryz.prog 157 = some ⟨0, 0, [], .struct []⟩ := by kernel_rfl
theorem Z157 : tzero Tryz.prog 157 = some (.agg []) := by kernel_rfl
theorem E158 : aEqTy Tryz.prog 158 = some [] := by kernel_rfl
theorem T158 : tinfo Tryz.prog 158 = some ⟨0, 0, [], .struct []⟩ := by kernel_rfl
theorem Z158 : tzero Tryz.prog 158 = some (.agg []) := by kernel_rfl
theorem T160 : tinfo Tryz.prog 160 = some ⟨1, 8, [.nilfunc], .func⟩ := by kernel_rfl
theorem Z160 : tzero Tryz.prog 160 = some (.nilfunc) := by kernel_rfl
theorem T161 : tinfo Tryz.prog 161 = some ⟨1, 8, [.nilfunc], .func⟩ := by kernel_rfl
theorem Z161 : tzero Tryz.prog 161 = some (.nilfunc) := by kernel_rfl
theorem T162 : tinfo Tryz.prog 162 = some ⟨1, 8, [.nilptr], .ptr 164⟩ := by kernel_rfl
theorem Z162 : tzero Tryz.prog 162 = some (.nilptr) := by kernel_rfl
theorem T163 : tinfo Tryz.prog 163 = some ⟨2, 24, [.str ⟨#[]⟩, .int .i64 0], .struct [(0, 9), (1, 3)]⟩ := by kernel_rfl
theorem Z163 : tzero Tryz.prog 163 = some (.agg [.str ⟨#[]⟩, .int .i64 0]) := by kernel_rfl
theorem E164 : aEqTy Tryz.prog 164 = some [.s, .i] := by kernel_rfl
theorem T164 : tinfo Tryz.prog 164 = some ⟨2, 24, [.str ⟨#[]⟩, .int .i64 0], .struct [(0, 9), (1, 3)]⟩ := by kernel_rfl
theorem Z164 : tzero Tryz.prog 164 = some (.agg [.str ⟨#[]⟩, .int .i64 0]) := by kernel_rfl
theorem T165 : tinfo Tryz.prog 165 = some ⟨1, 8, [.nilfunc], .func⟩ := by kernel_rfl
theorem Z165 : tzero Tryz.prog 165 = some (.nilfunc) := by kernel_rfl
theorem T166 : tinfo Tryz.prog 166 = some ⟨1, 8, [.nilfunc], .func⟩ := by kernel_rfl
theorem Z166 : tzero Tryz.prog 166 = some (.nilfunc) := by kernel_rfl
theorem T167 : tinfo Tryz.prog 167 = some ⟨1, 8, [.nilfunc], .func⟩ := by kernel_rfl
theorem Z167 : tzero Tryz.prog 167 = some (.nilfunc) := by kernel_rfl
theorem T168 : tinfo Tryz.prog 168 = some ⟨1, 8, [.nilfunc], .func⟩ := by kernel_rfl
theorem Z168 : tzero Tryz.prog 168 = some (.nilfunc) := by kernel_rfl
theorem T169 : tinfo Tryz.prog 169 = some ⟨1, 8, [.nilfunc], .func⟩ := by kernel_rfl
theorem Z169 : tzero Tryz.prog 169 = some (.nilfunc) := by kernel_rfl
theorem T170 : tinfo Tryz.prog 170 = some ⟨4, 32, [.int .i64 0, .int .i64 0, .bool false, .int .i64 0], .struct [(0, 3), (1, 3), (2, 4), (3, 2)]⟩ := by kernel_rfl
theorem Z170 : tzero Tryz.prog 170 = some (.agg [.int .i64 0, .int .i64 0, .bool false, .int .i64 0]) := by kernel_rfl
theorem E171 : aEqTy Tryz.prog 171 = some [.i, .i, .b, .i] := by kernel_rfl
theorem T171 : tinfo Tryz.prog 171 = some ⟨4, 32, [.int .i64 0, .int .i64 0, .bool false, .int .i64 0], .struct [(0, 3), (1, 3), (2, 4), (3, 2)]⟩ := by kernel_rfl
theorem Z171 : tzero Tryz.prog 171 = some (.agg [.int .i64 0, .int .i64 0, .bool false, .int .i64 0]) := by kernel_rfl
theorem T172 : tinfo Tryz.prog 172 = some ⟨3, 24, [.int .i64 0, .int .i64 0, .int .i64 0], .struct [(0, 3), (1, 3), (2, 3)]⟩ := by kernel_rfl
theorem Z172 : tzero Tryz.prog 172 = some (.agg [.int .i64 0, .int .i64 0, .int .i64 0]) := by kernel_rfl
theorem E173 : aEqTy Tryz.prog 173 = some [.i, .i, .i] := by kernel_rfl
theorem T173 : tinfo Tryz.prog 173 = some ⟨3, 24, [.int .i64 0, .int .i64 0, .int .i64 0], .struct [(0, 3), (1, 3), (2, 3)]⟩ := by kernel_rfl
theorem Z173 : tzero Tryz.prog 173 = some (.agg [.int .i64 0, .int .i64 0, .int .i64 0]) := by kernel_rfl
theorem T174 : tinfo Tryz.prog 174 = some ⟨1, 8, [.nilfunc], .func⟩ := by kernel_rfl
theorem Z174 : tzero Tryz.prog 174 = some (.nilfunc) := by kernel_rfl
theorem T175 : tinfo Tryz.prog 175 = some ⟨1, 8, [.nilfunc], .func⟩ := by kernel_rfl
theorem Z175 : tzero Tryz.prog 175 = some (.nilfunc) := by kernel_rfl
theorem T176 : tinfo Tryz.prog 176 = some ⟨1, 8, [.nilfunc], .func⟩ := by kernel_rfl
theorem Z176 : tzero Tryz.prog 176 = some (.nilfunc) := by kernel_rfl
theorem T177 : tinfo Tryz.prog 177 = some ⟨1, 8, [.nilfunc], .func⟩ := by kernel_rfl
theorem Z177 : tzero Tryz.prog 177 = some (.nilfunc) := by kernel_rfl
theorem T178 : tinfo Tryz.prog 178 = some ⟨1, 8, [.nilfunc], .func⟩ := by kernel_rfl
theorem Z178 : tzero Tryz.prog 178 = some (.nilfunc) := by kernel_rfl
theorem T179 : tinfo Tryz.prog 179 = some ⟨4, 32, [.int .i64 0, .int .i64 0, .int .i64 0, .int .i64 0], .struct [(0, 3), (1, 3), (2, 3), (3, 2)]⟩ := by kernel_rfl
theorem Z179 : tzero Tryz.prog 179 = some (.agg [.int .i64 0, .int .i64 0, .int .i64 0, .int .i64 0]) := by kernel_rfl
theorem E180 : aEqTy Tryz.prog 180 = some [.i, .i, .i, .i] := by kernel_rfl
theorem T180 : tinfo Tryz.prog 180 = some ⟨4, 32, [.int .i64 0, .int .i64 0, .int .i64 0, .int .i64 0], .struct [(0, 3), (1, 3), (2, 3), (3, 2)]⟩ := by kernel_rfl
theorem Z180 : tzero Tryz.prog 180 = some (.agg [.int .i64 0, .int .i64 0, .int .i64 0, .int .i64 0]) := by kernel_rfl
theorem T181 : tinfo Tryz.prog 181 = some ⟨1, 8, [.nilfunc], .func⟩ := by kernel_rfl
theorem Z181 : tzero Tryz.prog 181 = some (.nilfunc) := by kernel_rfl
theorem T182 : tinfo Tryz.prog 182 = some ⟨1, 8, [.nilfunc], .func⟩ := by kernel_rfl
theorem Z182 : tzero Tryz.prog 182 = some (.nilfunc) := by kernel_rfl
theorem T183 : tinfo Tryz.prog 183 = some ⟨1, 8, [.nilptr], .ptr 5⟩ := by kernel_rfl
theorem Z183 : tzero Tryz.prog 183 = some (.nilptr) := by kernel_rfl
theorem T184 : tinfo Tryz.prog 184 = some ⟨3, 40, [.int .i64 0, .int .i64 0, .view true 0 []], .struct [(0, 3), (1, 3), (2, 52)]⟩ := by kernel_rfl
theorem Z184 : tzero Tryz.prog 184 = some (.agg [.int .i64 0, .int .i64 0, .view true 0 []]) := by kernel_rfl
theorem T185 : tinfo Tryz.prog 185 = some ⟨3, 40, [.int .i64 0, .int .i64 0, .view true 0 []], .struct [(0, 3), (1, 3), (2, 52)]⟩ := by kernel_rfl
theorem Z185 : tzero Tryz.prog 185 = some (.agg [.int .i64 0, .int .i64 0, .view true 0 []]) := by kernel_rfl
theorem T186 : tinfo Tryz.prog 186 = some ⟨1, 8, [.nilfunc], .func⟩ := by kernel_rfl
theorem Z186 : tzero Tryz.prog 186 = some (.nilfunc) := by kernel_rfl
theorem T187 : tinfo Tryz.prog 187 = some ⟨1, 8, [.nilptr], .ptr 193⟩ := by kernel_rfl
theorem Z187 : tzero Tryz.prog 187 = some (.nilptr) := by kernel_rfl
theorem T188 : tinfo Tryz.prog 188 = some ⟨1, 8, [.nilptr], .ptr 185⟩ := by kernel_rfl
theorem Z188 : tzero Tryz.prog 188 = some (.nilptr) := by kernel_rfl
theorem T189 : tinfo Tryz.prog 189 = some ⟨1, 8, [.nilfunc], .func⟩ := by kernel_rfl
theorem Z189 : tzero Tryz.prog 189 = some (.nilfunc) := by kernel_rfl
theorem T190 : tinfo Tryz.prog 190 = some ⟨1, 8, [.nilfunc], .func⟩ := by kernel_rfl
theorem Z190 : tzero Tryz.prog 190 = some (.nilfunc) := by kernel_rfl
theorem T191 : tinfo Tryz.prog 191 = some ⟨1, 8, [.nilfunc], .func⟩ := by kernel_rfl
theorem Z191 : tzero Tryz.prog 191 = some (.nilfunc) := by kernel_rfl
theorem T192 : tinfo Tryz.prog 192 = some ⟨3, 56, [.view true 0 [], .view true 0 [], .int .i64 0], .struct [(0, 39)]⟩ := by kernel_rfl
theorem Z192 : tzero Tryz.prog 192 = some (.agg [.view true 0 [], .view true 0 [], .int .i64 0]) := by kernel_rfl
theorem T193 : tinfo Tryz.prog 193 = some ⟨3, 56, [.view true 0 [], .view true 0 [], .int .i64 0], .struct [(0, 39)]⟩ := by kernel_rfl
theorem Z193 : tzero Tryz.prog 193 = some (.agg [.view true 0 [], .view true 0 [], .int .i64 0]) := by kernel_rfl
theorem T194 : tinfo Tryz.prog 194 = some ⟨1, 8, [.nilfunc], .func⟩ := by kernel_rfl
theorem Z194 : tzero Tryz.prog 194 = some (.nilfunc) := by kernel_rfl
theorem T195 : tinfo Tryz.prog 195 = some ⟨1, 8, [.nilfunc], .func⟩ := by kernel_rfl
theorem Z195 : tzero Tryz.prog 195 = some (.nilfunc) := by kernel_rfl
theorem T196 : tinfo Tryz.prog 196 = some ⟨1, 8, [.nilfunc], .func⟩ := by kernel_rfl
theorem Z196 : tzero Tryz.prog 196 = some (.nilfunc) := by kernel_rfl
theorem T197 : tinfo Tryz.prog 197 = some ⟨1, 8, [.nilfunc], .func⟩ := by kernel_rfl
theorem Z197 : tzero Tryz.prog 197 = some (.nilfunc) := by kernel_rfl
theorem T198 : tinfo Tryz.prog 198 = some ⟨1, 8, [.nilfunc], .func⟩ := by kernel_rfl
theorem Z198 : tzero Tryz.prog 198 = some (.nilfunc) := by kernel_rfl
theorem T199 : tinfo Tryz.prog 199 = some ⟨1, 8, [.nilfunc], .func⟩ := by kernel_rfl
theorem Z199 : tzero Tryz.prog 199 = some (.nilfunc) := by kernel_rfl
theorem T200 : tinfo Tryz.prog 200 = some ⟨1, 8, [.nilfunc], .func⟩ := by kernel_rfl
theorem Z200 : tzero Tryz.prog 200 = some (.nilfunc) := by kernel_rfl
theorem T201 : tinfo Tryz.prog 201 = some ⟨1, 8, [.nilfunc], .func⟩ := by kernel_rfl
theorem Z201 : tzero Tryz.prog 201 = some (.nilfunc) := by kernel_rfl
theorem T202 : tinfo Tryz.prog 202 = some ⟨1, 8, [.nilmap], .map 3 4⟩ := by kernel_rfl
theorem Z202 : tzero Tryz.prog 202 = some (.nilmap) := by kernel_rfl
theorem T203 : tinfo Tryz.prog 203 = some ⟨1, 8, [.nilmap], .map 9 4⟩ := by kernel_rfl
theorem Z203 : tzero Tryz.prog 203 = some (.nilmap) := by kernel_rfl
theorem T204 : tinfo Tryz.prog 204 = some ⟨1, 8, [.nilfunc], .func⟩ := by kernel_rfl
theorem Z204 : tzero Tryz.prog 204 = some (.nilfunc) := by kernel_rfl
theorem T206 : tinfo Tryz.prog 206 = some ⟨1, 8, [.nilfunc], .func⟩ := by kernel_rfl
theorem Z206 : tzero Tryz.prog 206 = some (.nilfunc) := by kernel_rfl
theorem T208 : tinfo Tryz.prog 208 = some ⟨1, 8, [.nilfunc], .func⟩ := by kernel_rfl
theorem Z208 : tzero Tryz.prog 208 = some (.nilfunc) := by kernel_rfl
theorem T209 : tinfo Tryz.prog 209 = some ⟨1, 24, [.view true 0 []], .slice 48⟩ := by kernel_rfl
theorem Z209 : tzero Tryz.prog 209 = some (.view true 0 []) := by kernel_rfl
theorem T210 : tinfo Tryz.prog 210 = some ⟨1, 8, [.nilfunc], .func⟩ := by kernel_rfl
theorem Z210 : tzero Tryz.prog 210 = some (.nilfunc) := by kernel_rfl
theorem T211 : tinfo Tryz.prog 211 = some ⟨1, 8, [.nilptr], .other⟩ := by kernel_rfl
theorem Z211 : tzero Tryz.prog 211 = some (.nilptr) := by kernel_rfl
theorem T212 : tinfo Tryz.prog 212 = some ⟨1, 8, [.nilfunc], .func⟩ := by kernel_rfl
theorem Z212 : tzero Tryz.prog 212 = some (.nilfunc) := by kernel_rfl
theorem T213 : tinfo Tryz.prog 213 = some ⟨1, 8, [.nilfunc], .func⟩ := by kernel_rfl
theorem Z213 : tzero Tryz.prog 213 = some (.nilfunc) := by kernel_rfl
theorem T214 : tinfo Tryz.prog 214 = some ⟨1, 8, [.int .i64 0], .struct [(0, 49)]⟩ := by kernel_rfl
theorem Z214 : tzero Tryz.prog 214 = some (.agg [.int .i64 0]) := by kernel_rfl
theorem E215 : aEqTy Tryz.prog 215 = some [.i] := by kernel_rfl
theorem T215 : tinfo Tryz.prog 215 = some ⟨1, 8, [.int .i64 0], .struct [(0, 49)]⟩ := by kernel_rfl
theorem Z215 : tzero Tryz.prog 215 = some (.agg [.int .i64 0]) := by kernel_rfl
theorem T216 : tinfo Tryz.prog 216 = some ⟨1, 8, [.nilfunc], .func⟩ := by kernel_rfl
theorem Z216 : tzero Tryz.prog 216 = some (.nilfunc) := by kernel_rfl
theorem T217 : tinfo Tryz.prog 217 = some ⟨1, 8, [.nilptr], .ptr 173⟩ := by kernel_rfl
theorem Z217 : tzero Tryz.prog 217 = some (.nilptr) := by kernel_rfl
theorem T218 : tinfo Tryz.prog 218 = some ⟨1, 8, [.nilfunc], .func⟩ := by kernel_rfl
theorem Z218 : tzero Tryz.prog 218 = some (.nilfunc) := by kernel_rfl
theorem T219 : tinfo Tryz.prog 219 = some ⟨1, 24, [.view true 0 []], .slice 3⟩ := by kernel_rfl
theorem Z219 : tzero Tryz.prog 219 = some (.view true 0 []) := by kernel_rfl
theorem T220 : tinfo Tryz.prog 220 = some ⟨1, 8, [.nilfunc], .func⟩ := by kernel_rfl
theorem Z220 : tzero Tryz.prog 220 = some (.nilfunc) := by kernel_rfl
theorem T221 : tinfo Tryz.prog 221 = some ⟨1, 8, [.nilfunc], .func⟩ := by kernel_rfl
theorem Z221 : tzero Tryz.prog 221 = some (.nilfunc) := by kernel_rfl
theorem T222 : tinfo Tryz.prog 222 = some ⟨24, 24, [.int .u8 0, .int .u8 0, .int .u8 0, .int .u8 0, .int .u8 0, .int .u8 0, .int .u8 0, .int .u8 0, .int .u8 0, .int .u8 0, .int .u8 0, .int .u8 0, .int .u8 0, .int .u8 0, .int .u8 0, .int .u8 0, .int .u8 0, .int .u8 0, .int .u8 0, .int .u8 0, .int .u8 0, .int .u8 0, .int .u8 0, .int .u8 0], .array 24 5⟩ := by kernel_rfl
theorem Z222 : tzero Tryz.prog 222 = some (.agg [.int .u8 0, .int .u8 0, .int .u8 0, .int .u8 0, .int .u8 0, .int .u8 0, .int .u8 0, .int .u8 0, .int .u8 0, .int .u8 0, .int .u8 0, .int .u8 0, .int .u8 0, .int .u8 0, .int .u8 0, .int .u8 0, .int .u8 0, .int .u8 0, .int .u8 0, .int .u8 0, .int .u8 0, .int .u8 0, .int .u8 0, .int .u8 0]) := by kernel_rfl
theorem T223 : tinfo Tryz.prog 223 = some ⟨1, 8, [.int .u64 0], .int .u64⟩ := by kernel_rfl
theorem Z223 : tzero Tryz.prog 223 = some (.int .u64 0) := by kernel_rfl
theorem T224 : tinfo Tryz.prog 224 = some ⟨1, 8, [.nilfunc], .func⟩ := by kernel_rfl
theorem Z224 : tzero Tryz.prog 224 = some (.nilfunc) := by kernel_rfl
theorem T225 : tinfo Tryz.prog 225 = some ⟨1, 8, [.nilfunc], .func⟩ := by kernel_rfl
theorem Z225 : tzero Tryz.prog 225 = some (.nilfunc) := by kernel_rfl
theorem T227 : tinfo Tryz.prog 227 = some ⟨1, 8, [.nilfunc], .func⟩ := by kernel_rfl
theorem Z227 : tzero Tryz.prog 227 = some (.nilfunc) := by kernel_rfl
theorem T228 : tinfo Tryz.prog 228 = some ⟨1, 8, [.nilfunc], .func⟩ := by kernel_rfl
theorem Z228 : tzero Tryz.prog 228 = some (.nilfunc) := by kernel_rfl
theorem T229 : tinfo Tryz.prog 229 = some ⟨2, 24, [.str ⟨#[]⟩, .int .i64 0], .struct [(0, 9), (1, 3)]⟩ := by kernel_rfl
theorem Z229 : tzero Tryz.prog 229 = some (.agg [.str ⟨#[]⟩, .int .i64 0]) := by kernel_rfl
theorem E230 : aEqTy Tryz.prog 230 = some [.s, .i] := by kernel_rfl
theorem T230 : tinfo Tryz.prog 230 = some ⟨2, 24, [.str ⟨#[]⟩, .int .i64 0], .struct [(0, 9), (1, 3)]⟩ := by kernel_rfl
theorem Z230 : tzero Tryz.prog 230 = some (.agg [.str ⟨#[]⟩, .int .i64 0]) := by kernel_rfl
theorem T231 : tinfo Tryz.prog 231 = some ⟨1, 8, [.nilfunc], .func⟩ := by kernel_rfl
theorem Z231 : tzero Tryz.prog 231 = some (.nilfunc) := by kernel_rfl
theorem T232 : tinfo Tryz.prog 232 = some ⟨1, 8, [.nilfunc], .func⟩ := by kernel_rfl
theorem Z232 : tzero Tryz.prog 232 = some (.nilfunc) := by kernel_rfl
theorem T233 : tinfo Tryz.prog 233 = some ⟨1, 8, [.nilfunc], .func⟩ := by kernel_rfl
theorem Z233 : tzero Tryz.prog 233 = some (.nilfunc) := by kernel_rfl
theorem T234 : tinfo Tryz.prog 234 = some ⟨1, 8, [.nilfunc], .func⟩ := by kernel_rfl
theorem Z234 : tzero Tryz.prog 234 = some (.nilfunc) := by kernel_rfl
theorem T235 : tinfo Tryz.prog 235 = some ⟨1, 8, [.nilfunc], .func⟩ := by kernel_rfl
theorem Z235 : tzero Tryz.prog 235 = some (.nilfunc) := by kernel_rfl
theorem T236 : tinfo Tryz.prog 236 = some ⟨1, 8, [.nilfunc], .func⟩ := by kernel_rfl
theorem Z236 : tzero Tryz.prog 236 = some (.nilfunc) := by kernel_rfl
theorem T237 : tinfo Tryz.prog 237 = some ⟨1, 8, [.nilfunc], .func⟩ := by kernel_rfl
theorem Z237 : tzero Tryz.prog 237 = some (.nilfunc) := by kernel_rfl
theorem T238 : tinfo Tryz.prog 238 = some ⟨1, 8, [.nilfunc], .func⟩ := by kernel_rfl
theorem Z238 : tzero Tryz.prog 238 = some (.nilfunc) := by kernel_rfl
theorem T239 : tinfo Tryz.prog 239 = some ⟨20, 160, [.int .u64 0, .int .u64 0, .int .u64 0, .int .u64 0, .int .u64 0, .int .u64 0, .int .u64 0, .int .u64 0, .int .u64 0, .int .u64 0, .int .u64 0, .int .u64 0, .int .u64 0, .int .u64 0, .int .u64 0, .int .u64 0, .int .u64 0, .int .u64 0, .int .u64 0, .int .u64 0], .array 20 223⟩ := by kernel_rfl
theorem Z239 : tzero Tryz.prog 239 = some (.agg [.int .u64 0, .int .u64 0, .int .u64 0, .int .u64 0, .int .u64 0, .int .u64 0, .int .u64 0, .int .u64 0, .int .u64 0, .int .u64 0, .int .u64 0, .int .u64 0, .int .u64 0, .int .u64 0, .int .u64 0, .int .u64 0, .int .u64 0, .int .u64 0, .int .u64 0, .int .u64 0]) := by kernel_rfl
theorem T240 : tinfo Tryz.prog 240 = some ⟨1, 4, [.int .u32 0], .int .u32⟩ := by kernel_rfl
theorem Z240 : tzero Tryz.prog 240 = some (.int .u32 0) := by kernel_rfl
theorem T241 : tinfo Tryz.prog 241 = some ⟨65, 65, [.int .u8 0, .int .u8 0, .int .u8 0, .int .u8 0, .int .u8 0, .int .u8 0, .int .u8 0, .int .u8 0, .int .u8 0, .int .u8 0, .int .u8 0, .int .u8 0, .int .u8 0, .int .u8 0, .int .u8 0, .int .u8 0, .int .u8 0, .int .u8 0, .int .u8 0, .int .u8 0, .int .u8 0, .int .u8 0, .int .u8 0, .int .u8 0, .int .u8 0, .int .u8 0, .int .u8 0, .int .u8 0, .int .u8 0, .int .u8 0, .int .u8 0, .int .u8 0, .int .u8 0, .int .u8 0, .int .u8 0, .int .u8 0, .int .u8 0, .int .u8 0, .int .u8 0, .int .u8 0, .int .u8 0, .int .u8 0, .int .u8 0, .int .u8 0, .int .u8 0, .int .u8 0, .int .u8 0, .int .u8 0, .int .u8 0, .int .u8 0, .int .u8 0, .int .u8 0, .int .u8 0, .int .u8 0, .int .u8 0, .int .u8 0, .int .u8 0, .int .u8 0, .int .u8 0, .int .u8 0, .int .u8 0, .int .u8 0, .int .u8 0, .int .u8 0, .int .u8 0], .array 65 5⟩ := by kernel_rfl
theorem Z241 : tzero Tryz.prog 241 = some (.agg [.int .u8 0, .int .u8 0, .int .u8 0, .int .u8 0, .int .u8 0, .int .u8 0, .int .u8 0, .int .u8 0, .int .u8 0, .int .u8 0, .int .u8 0, .int .u8 0, .int .u8 0, .int .u8 0, .int .u8 0, .int .u8 0, .int .u8 0, .int .u8 0, .int .u8 0, .int .u8 0, .int .u8 0, .int .u8 0, .int .u8 0, .int .u8 0, .int .u8 0, .int .u8 0, .int .u8 0, .int .u8 0, .int .u8 0, .int .u8 0, .int .u8 0, .int .u8 0, .int .u8 0, .int .u8 0, .int .u8 0, .int .u8 0, .int .u8 0, .int .u8 0, .int .u8 0, .int .u8 0, .int .u8 0, .int .u8 0, .int .u8 0, .int .u8 0, .int .u8 0, .int .u8 0, .int .u8 0, .int .u8 0, .int .u8 0, .int .u8 0, .int .u8 0, .int .u8 0, .int .u8 0, .int .u8 0, .int .u8 0, .int .u8 0, .int .u8 0, .int .u8 0, .int .u8 0, .int .u8 0, .int .u8 0, .int .u8 0, .int .u8 0, .int .u8 0, .int .u8 0]) := by kernel_rfl
theorem T242 : tinfo Tryz.prog 242 = some ⟨1, 8, [.int .u64 0], .int .u64⟩ := by kernel_rfl
theorem Z242 : tzero Tryz.prog 242 = some (.int .u64 0) := by kernel_rfl
theorem T243 : tinfo Tryz.prog 243 = some ⟨1, 8, [.nilfunc], .func⟩ := by kernel_rfl
theorem Z243 : tzero Tryz.prog 243 = some (.nilfunc) := by kernel_rfl
theorem T244 : tinfo Tryz.prog 244 = some ⟨70, 840, [.str ⟨#[]⟩, .int .i64 0, .str ⟨#[]⟩, .int .i64 0, .str ⟨#[]⟩, .int .i64 0, .str ⟨#[]⟩, .int .i64 0, .str ⟨#[]⟩, .int .i64 0, .str ⟨#[]⟩, .int .i64 0, .str ⟨#[]⟩, .int .i64 0, .str ⟨#[]⟩, .int .i64 0, .str ⟨#[]⟩, .int .i64 0, .str ⟨#[]⟩, .int .i64 0, .str ⟨#[]⟩, .int .i64 0, .str ⟨#[]⟩, .int .i64 0, .str ⟨#[]⟩, .int .i64 0, .str ⟨#[]⟩, .int .i64 0, .str ⟨#[]⟩, .int .i64 0, .str ⟨#[]⟩, .int .i64 0, .str ⟨#[]⟩, .int .i64 0, .str ⟨#[]⟩, .int .i64 0, .str ⟨#[]⟩, .int .i64 0, .str ⟨#[]⟩, .int .i64 0, .str ⟨#[]⟩, .int .i64 0, .str ⟨#[]⟩, .int .i64 0, .str ⟨#[]⟩, .int .i64 0, .str ⟨#[]⟩, .int .i64 0, .str ⟨#[]⟩, .int .i64 0, .str ⟨#[]⟩, .int .i64 0, .str ⟨#[]⟩, .int .i64 0, .str ⟨#[]⟩, .int .i64 0, .str ⟨#[]⟩, .int .i64 0, .str ⟨#[]⟩, .int .i64 0, .str ⟨#[]⟩, .int .i64 0, .str ⟨#[]⟩, .int .i64 0, .str ⟨#[]⟩, .int .i64 0, .str ⟨#[]⟩, .int .i64 0, .str ⟨#[]⟩, .int .i64 0], .array 35 230⟩ := by kernel_rfl
theorem Z244 : tzero Tryz.prog 244 = some (.agg [.str ⟨#[]⟩, .int .i64 0, .str ⟨#[]⟩, .int .i64 0, .str ⟨#[]⟩, .int .i64 0, .str ⟨#[]⟩, .int .i64 0, .str ⟨#[]⟩, .int .i64 0, .str ⟨#[]⟩, .int .i64 0, .str ⟨#[]⟩, .int .i64 0, .str ⟨#[]⟩, .int .i64 0, .str ⟨#[]⟩, .int .i64 0, .str ⟨#[]⟩, .int .i64 0, .str ⟨#[]⟩, .int .i64 0, .str ⟨#[]⟩, .int .i64 0, .str ⟨#[]⟩, .int .i64 0, .str ⟨#[]⟩, .int .i64 0, .str ⟨#[]⟩, .int .i64 0, .str ⟨#[]⟩, .int .i64 0, .str ⟨#[]⟩, .int .i64 0, .str ⟨#[]⟩, .int .i64 0, .str ⟨#[]⟩, .int .i64 0, .str ⟨#[]⟩, .int .i64 0, .str ⟨#[]⟩, .int .i64 0, .str ⟨#[]⟩, .int .i64 0, .str ⟨#[]⟩, .int .i64 0, .str ⟨#[]⟩, .int .i64 0, .str ⟨#[]⟩, .int .i64 0, .str ⟨#[]⟩, .int .i64 0, .str ⟨#[]⟩, .int .i64 0, .str ⟨#[]⟩, .int .i64 0, .str ⟨#[]⟩, .int .i64 0, .str ⟨#[]⟩, .int .i64 0, .str ⟨#[]⟩, .int .i64 0, .str ⟨#[]⟩, .int .i64 0, .str ⟨#[]⟩, .int .i64 0, .str ⟨#[]⟩, .int .i64 0, .str ⟨#[]⟩, .int .i64 0]) := by kernel_rfl
theorem T245 : tinfo Tryz.prog 245 = some ⟨1, 8, [.nilfunc], .func⟩ := by kernel_rfl
theorem Z245 : tzero Tryz.prog 245 = some (.nilfunc) := by kernel_rfl
theorem T246 : tinfo Tryz.prog 246 = some ⟨32, 32, [.int .u8 0, .int .u8 0, .int .u8 0, .int .u8 0, .int .u8 0, .int .u8 0, .int .u8 0, .int .u8 0, .int .u8 0, .int .u8 0, .int .u8 0, .int .u8 0, .int .u8 0, .int .u8 0, .int .u8 0, .int .u8 0, .int .u8 0, .int .u8 0, .int .u8 0, .int .u8 0, .int .u8 0, .int .u8 0, .int .u8 0, .int .u8 0, .int .u8 0, .int .u8 0, .int .u8 0, .int .u8 0, .int .u8 0, .int .u8 0, .int .u8 0, .int .u8 0], .array 32 5⟩ := by kernel_rfl
theorem Z246 : tzero Tryz.prog 246 = some (.agg [.int .u8 0, .int .u8 0, .int .u8 0, .int .u8 0, .int .u8 0, .int .u8 0, .int .u8 0, .int .u8 0, .int .u8 0, .int .u8 0, .int .u8 0, .int .u8 0, .int .u8 0, .int .u8 0, .int .u8 0, .int .u8 0, .int .u8 0, .int .u8 0, .int .u8 0, .int .u8 0, .int .u8 0, .int .u8 0, .int .u8 0, .int .u8 0, .int .u8 0, .int .u8 0, .int .u8 0, .int .u8 0, .int .u8 0, .int .u8 0, .int .u8 0, .int .u8 0]) := by kernel_rfl
theorem T247 : tinfo Tryz.prog 247 = some ⟨64, 64, [.int .u8 0, .int .u8 0, .int .u8 0, .int .u8 0, .int .u8 0, .int .u8 0, .int .u8 0, .int .u8 0, .int .u8 0, .int .u8 0, .int .u8 0, .int .u8 0, .int .u8 0, .int .u8 0, .int .u8 0, .int .u8 0, .int .u8 0, .int .u8 0, .int .u8 0, .int .u8 0, .int .u8 0, .int .u8 0, .int .u8 0, .int .u8 0, .int .u8 0, .int .u8 0, .int .u8 0, .int .u8 0, .int .u8 0, .int .u8 0, .int .u8 0, .int .u8 0, .int .u8 0, .int .u8 0, .int .u8 0, .int .u8 0, .int .u8 0, .int .u8 0, .int .u8 0, .int .u8 0, .int .u8 0, .int .u8 0, .int .u8 0, .int .u8 0, .int .u8 0, .int .u8 0, .int .u8 0, .int .u8 0, .int .u8 0, .int .u8 0, .int .u8 0, .int .u8 0, .int .u8 0, .int .u8 0, .int .u8 0, .int .u8 0, .int .u8 0, .int .u8 0, .int .u8 0, .int .u8 0, .int .u8 0, .int .u8 0, .int .u8 0, .int .u8 0], .array 64 5⟩ := by kernel_rfl
theorem Z247 : tzero Tryz.prog 247 = some (.agg [.int .u8 0, .int .u8 0, .int .u8 0, .int .u8 0, .int .u8 0, .int .u8 0, .int .u8 0, .int .u8 0, .int .u8 0, .int .u8 0, .int .u8 0, .int .u8 0, .int .u8 0, .int .u8 0, .int .u8 0, .int .u8 0, .int .u8 0, .int .u8 0, .int .u8 0, .int .u8 0, .int .u8 0, .int .u8 0, .int .u8 0, .int .u8 0, .int .u8 0, .int .u8 0, .int .u8 0, .int .u8 0, .int .u8 0, .int .u8 0, .int .u8 0, .int .u8 0, .int .u8 0, .int .u8 0, .int .u8 0, .int .u8 0, .int .u8 0, .int .u8 0, .int .u8 0, .int .u8 0, .int .u8 0, .int .u8 0, .int .u8 0, .int .u8 0, .int .u8 0, .int .u8 0, .int .u8 0, .int .u8 0, .int .u8 0, .int .u8 0, .int .u8 0, .int .u8 0, .int .u8 0, .int .u8 0, .int .u8 0, .int .u8 0, .int .u8 0, .int .u8 0, .int .u8 0, .int .u8 0, .int .u8 0, .int .u8 0, .int .u8 0, .int .u8 0]) := by kernel_rfl
theorem T250 : tinfo Tryz.prog 250 = some ⟨0, 0, [], .array 0 16⟩ := by kernel_rfl
theorem Z250 : tzero Tryz.prog 250 = some (.agg []) := by kernel_rfl
theorem T251 : tinfo Tryz.prog 251 = some ⟨0, 0, [], .struct [(0, 250)]⟩ := by kernel_rfl
theorem Z251 : tzero Tryz.prog 251 = some (.agg []) := by kernel_rfl
theorem T253 : tinfo Tryz.prog 253 = some ⟨1, 8, [.nilfunc], .func⟩ := by kernel_rfl
theorem Z253 : tzero Tryz.prog 253 = some (.nilfunc) := by kernel_rfl
theorem T256 : tinfo Tryz.prog 256 = some ⟨1, 8, [.nilfunc], .func⟩ := by kernel_rfl
theorem Z256 : tzero Tryz.prog 256 = some (.nilfunc) := by kernel_rfl
theorem T261 : tinfo Tryz.prog 261 = some ⟨1, 8, [.nilfunc], .func⟩ := by kernel_rfl
theorem Z261 : tzero Tryz.prog 261 = some (.nilfunc) := by kernel_rfl
attribute [go_sem] T1 Z1 T2 Z2 T3 Z3 T4 Z4 T5 Z5 T7 Z7 T9 Z9 T12 Z12 T13 Z13 T15 Z15 T16 Z16 T20 Z20 T21 Z21 T22 Z22 T23 Z23 T24 Z24 T25 Z25 T26 Z26 T27 Z27 T28 Z28 T29 Z29 T30 Z30 T31 Z31 T32 Z32 T33 Z33 T34 Z34 T35 Z35 T36 Z36 T37 Z37 T38 Z38 T39 Z39 T40 Z40 T41 Z41 T42 Z42 T43 Z43 T44 Z44 T45 Z45 T46 Z46 E47 T47 Z47 T48 Z48 T49 Z49 T51 Z51 T52 Z52 T54 Z54 T55 Z55 T56 Z56 E57 T57 Z57 T58 Z58 T60 Z60 T62 Z62 T63 Z63 T64 Z64 T65 Z65 T66 Z66 T67 Z67 E68 T68 Z68 T69 Z69 T71 Z71 T72 Z72 E73 T73 Z73 T74 Z74 T75 Z75 T76 Z76 T77 Z77 T78 Z78 T79 Z79 T80 Z80 T81 Z81 T82 Z82 E83 T83 Z83 T84 Z84 T85 Z85 T86 Z86 T88 Z88 T89 Z89 T90 Z90 T91 Z91 T92 Z92 T93 Z93 T94 Z94 T95 Z95 T96 Z96 T97 Z97 T98 Z98 T99 Z99 T100 Z100 E101 T101 Z101 T102 Z102 T103 Z103 T104 Z104 T106 Z106 T107 Z107 T108 Z108 T109 Z109 T110 Z110 T111 Z111 T112 Z112 T113 Z113 T114 Z114 T115 Z115 T117 Z117 T118 Z118 T119 Z119 T120 Z120 T121 Z121 E122 T122 Z122 T123 Z123 T124 Z124 T125 Z125 T126 Z126 T127 Z127 T128 Z128 T129 Z129 T130 Z130 T131 Z131 T132 Z132 T133 Z133 T134 Z134 T135 Z135 T136 Z136 T137 Z137 T138 Z138 T139 Z139 T141 Z141 T142 Z142 T143 Z143 T145 Z145 T147 Z147 T148 Z148 T149 Z149 E150 T150 Z150 T151 Z151 E152 T152 Z152 T153 Z153 T154 Z154 T155 Z155 T157 Z157 E158 T158 Z158 T160 Z160 T161 Z161 T162 Z162 T163 Z163 E164 T164 Z164 T165 Z165 T166 Z166 T167 Z167 T168 Z168 T169 Z169 T170 Z170 E171 T171 Z171 T172 Z172 E173 T173 Z173 T174 Z174 T175 Z175 T176 Z176 T177 Z177 T178 Z178 T179 Z179 E180 T180 Z180 T181 Z181 T182 Z182 T183 Z183 T184 Z184 T185 Z185 T186 Z186 T187 Z187 T188 Z188 T189 Z189 T190 Z190 T191 Z191 T192 Z192 T193 Z193 T194 Z194 T195 Z195 T196 Z196 T197 Z197 T198 Z198 T199 Z199 T200 Z200 T201 Z201 T202 Z202 T203 Z203 T204 Z204 T206 Z206 T208 Z208 T209 Z209 T210 Z210 T211 Z211 T212 Z212 T213 Z213 T214 Z214 E215 T215 Z215 T216 Z216 T217 Z217 T218 Z218 T219 Z219 T220 Z220 T221 Z221 T222 Z222 T223 Z223 T224 Z224 T225 Z225 T227 Z227 T228 Z228 T229 Z229 E230 T230 Z230 T231 Z231 T232 Z232 T233 Z233 T234 Z234 T235 Z235 T236 Z236 T237 Z237 T238 Z238 T239 Z239 T240 Z240 T241 Z241 T242 Z242 T243 Z243 T244 Z244 T245 Z245 T246 Z246 T247 Z247 T250 Z250 T251 Z251 T253 Z253 T256 Z256 T261 Z261
end Go.Proofs.YtigmnlnomhjecaaGreatDoor
set_option linter.unusedVariables false
set_option linter.unusedSimpArgs false
namespace Go.AM
attribute [go_sem] Int.cast_ofNat_Int Int.le_refl
attribute [go_sem_proc] Nat.reduceAdd Nat.reduceSub Nat.reduceMul Nat.reduceEqDiff Nat.reduceLeDiff Nat.reduceLT Int.reduceToNat reduceCtorEq Int.reduceLT Int.reduceLE Int.reduceGT Int.reduceGE Int.reduceEq Int.reduceNe Int.reduceNeg Int.reduceAdd Int.reduceSub
attribute [go_sem_proc ↓] reduceIte
abbrev iv (n : Int) : AV := .int .i64 n
abbrev bv (b : UInt8) : AV := .int .u8 (b.toNat : Int)
abbrev r1 (n : Int) : List AV := [.int .i64 n]
abbrev rb (b : UInt8) : List AV := [.int .u8 (b.toNat : Int)]
theorem drop_at {α : Type} {l : List α} {i : Nat} {y : α} (h : l[i]? = some y) : l.drop i = y :: l.drop (i + 1) := by
  obtain ⟨h1, rfl⟩ := List.getElem?_eq_some_iff.1 h
  exact List.drop_eq_getElem_cons h1
theorem at_lt {α : Type} {l : List α} {i : Nat} (h : i < l.length) : ∃ y, l[i]? = some y := ⟨_, List.getElem?_eq_getElem h⟩
theorem rows_pure {α : Type} {f : α → List AV} (h : ∀ a, ltL 0 (f a) = true) (l : List α) : ∀ row ∈ l.map f, ∀ x ∈ row, x.pure = true := by
  intro row hr x hx
  obtain ⟨n, _, rfl⟩ := List.mem_map.1 hr
  obtain ⟨k, hk⟩ := List.getElem?_of_mem hx
  exact ltL_get (h n) hk
theorem r1_pure (l : List Int) : ∀ row ∈ l.map r1, ∀ x ∈ row, x.pure = true := rows_pure (fun _ => rfl) l
theorem rb_pure (l : List UInt8) : ∀ row ∈ l.map rb, ∀ x ∈ row, x.pure = true := rows_pure (fun _ => rfl) l
theorem ltL_mem {m : Nat} {xs : List AV} (h : ltL m xs = true) : ∀ x ∈ xs, x.lt m = true := fun x hx => by
  obtain ⟨k, hk⟩ := List.getElem?_of_mem hx
  exact ltL_get h hk
theorem Ch.fz_pure {r sz : Nat} {ys : List (List AV)} : ∀ {s : Ch}, s.lt 0 = true → s.fz r sz ys = s
  | .nil, _ => rfl
  | .put s d v, h => by
    simp only [Ch.lt, Bool.and_eq_true] at h
    simp only [Ch.fz, Ch.fz_pure h.1, Go.AM.fz_pure h.2]
theorem Ch.fzOk_pure {r n : Nat} : ∀ {s : Ch}, s.lt 0 = true → s.fzOk r n
  | .nil, _ => trivial
  | .put s d v, h => by
    simp only [Ch.lt, Bool.and_eq_true] at h
    exact ⟨Ch.fzOk_pure h.1, Go.AM.fzOk_pure h.2⟩
theorem bfz0 {r sz : Nat} {ys : List (List AV)} : ∀ {b : Blk}, b.lt 0 → b.fz r sz ys = b
  | .dead, _ => rfl
  | .rows z xs, h => bfz_pure h
  | .amap es, h => by
    rw [Blk.fz]
    congr 1
    conv => rhs; rw [← List.map_id' es]
    exact List.map_congr_left fun e he => by rw [fz_pure (h e he)]
  | .raw q, _ => rfl
  | .lrec q n s, h => by rw [Blk.fz, Ch.fz_pure h]
theorem bok0 {r n : Nat} : ∀ {b : Blk}, b.lt 0 → b.fzOk r n
  | .dead, _ => trivial
  | .rows z xs, h => bfzOk_pure h
  | .amap es, h => fun e he => fzOk_pure (h e he)
  | .raw _, _ => trivial
  | .lrec _ _ s, h => Ch.fzOk_pure h
theorem finv {post : CQ} {v : AV} (hv : v.lt 0 = true) (h : post (.ret v) []) (H : Heap) : Up 0 post (.ret v) H := .gc 0 (Nat.le_refl _) (Nat.zero_le _) hv (by simp) (.done h)
section
variable {P : Program} {ops : Array Oper} {want : Bool} {op : Op} {d : Option Tmp} {rest : List Oper} {Q : XQ} {s : Ch} {H : Heap} {n : Nat} {D : Fx} {x y : Code} {b : Bool}
theorem gD_bool (h1 : b = true → gD P ops (.bool true) want op d rest Q s H) (h2 : b = false → gD P ops (.bool false) want op d rest Q s H) : gD P ops (.bool b) want op d rest Q s H := by
  cases b
  · exact h2 rfl
  · exact h1 rfl
theorem condD_bool (h1 : b = true → cwp P n D x Q s H) (h2 : b = false → cwp P n D y Q s H) : condD P n D (.bool b) x y Q s H := condD_split h1 h2
end
theorem VRs.le {sn : Snap} {ρ : Env} {xs ys : List AV} {vs : List Value} (h : VRs sn ρ xs vs) (hl : LeL xs ys) : VRs sn ρ ys vs :=
  ⟨by rw [← hl.len]; exact h.1, fun k y v hy hv => by
    obtain ⟨x, hx, hle⟩ := hl.get hy
    exact (h.2 k x v hx hv).le hle⟩
theorem u8_lt (b : UInt8) : (b.toNat : Int) < 256 := by have := b.toNat_lt; omega
theorem u8_ge (b : UInt8) : (0 : Int) ≤ b.toNat := Int.natCast_nonneg _
theorem kill_len : ∀ (ks : List Nat) (H : Heap), (kill H ks).length = H.length
  | [], _ => rfl
  | k :: ks, H => by rw [kill, kill_len ks]; simp
theorem kill_get : ∀ (ks : List Nat) (H : Heap) (i : Nat), (i ∉ ks → (kill H ks)[i]? = H[i]?) ∧ (i ∈ ks → i < H.length → (kill H ks)[i]? = some .dead)
  | [], H, i => ⟨fun _ => rfl, fun h => by simp at h⟩
  | k :: ks, H, i => by
    obtain ⟨h1, h2⟩ := kill_get ks (H.set k .dead) i
    refine ⟨fun hn => ?_, fun hm hl => ?_⟩
    · simp only [List.mem_cons, not_or] at hn
      rw [kill, h1 hn.2, List.getElem?_set_ne (fun e => hn.1 e.symm)]
    · rw [kill]
      by_cases hk : i ∈ ks
      · exact h2 hk (by simpa using hl)
      · have : i = k := by simpa [hk] using hm
        subst this
        rw [h1 hk, List.getElem?_set_self hl]
def allBut (n : Nat) (rs : List Nat) : List Nat := (List.range n).filter fun i => !rs.contains i
theorem kill_but {H : Heap} {rs : List Nat} {b : Blk} (hb : b ∈ kill H (allBut H.length rs)) : b = .dead ∨ ∃ r, r ∈ rs ∧ H[r]? = some b := by
  obtain ⟨i, hi⟩ := List.getElem?_of_mem hb
  have hl : i < H.length := by have := (List.getElem?_eq_some_iff.1 hi).1; rwa [kill_len] at this
  by_cases h : i ∈ rs
  · rw [(kill_get _ H i).1 (by simp [allBut, h])] at hi
    exact .inr ⟨i, h, hi⟩
  · rw [(kill_get _ H i).2 (by simp [allBut, h, hl]) hl] at hi
    exact .inl (Option.some.inj hi).symm
theorem up_one {post : CQ} {o : Out} {H : Heap} (r sz : Nat) (xs : List (List AV)) (hr : H[r]? = some (.rows sz xs)) (hp : ∀ row ∈ xs, ltL 0 row = true) (hok : o.fzOk r xs.length) (hv : (o.fz r sz xs).lt 0) (h : post (o.fz r sz xs) []) : Up 0 post o H := by
  have hg : (kill H (allBut H.length [r]))[r]? = some (.rows sz xs) := by rw [(kill_get _ H r).1 (by simp [allBut]), hr]
  refine Up.kill (allBut H.length [r]) H (.fz r sz xs hg (fun row hrow x hx => ltL_mem (hp row hrow) x hx) hok ?_ (.gc 0 (Nat.le_refl _) (Nat.zero_le _) hv (by simp) (.done (by simpa using h))))
  intro b hb
  rcases List.mem_or_eq_of_mem_set hb with hb | rfl
  · rcases kill_but hb with rfl | ⟨q, hq, hb2⟩
    · trivial
    · simp at hq; subst hq; rw [hr] at hb2; injection hb2 with hb2; subst hb2; exact bfzOk_pure hp
  · trivial
theorem up_two {post : CQ} {o : Out} {H : Heap} (r sz : Nat) (xs : List (List AV)) (q sy : Nat) (ys : List (List AV)) (hrq : r ≠ q) (hr : H[r]? = some (.rows sz xs)) (hq : H[q]? = some (.rows sy ys)) (hp : ∀ row ∈ xs, ltL 0 row = true) (hp2 : ∀ row ∈ ys, ltL 0 row = true) (hok : o.fzOk r xs.length) (hok2 : (o.fz r sz xs).fzOk q ys.length)
    (hv : ((o.fz r sz xs).fz q sy ys).lt 0) (h : post ((o.fz r sz xs).fz q sy ys) []) : Up 0 post o H := by
  have hg : (kill H (allBut H.length [r, q]))[r]? = some (.rows sz xs) := by rw [(kill_get _ H r).1 (by simp [allBut]), hr]
  have hg2 : (kill H (allBut H.length [r, q]))[q]? = some (.rows sy ys) := by rw [(kill_get _ H q).1 (by simp [allBut]), hq]
  have hall : ∀ b ∈ kill H (allBut H.length [r, q]), b.lt 0 := fun b hb => by
    rcases kill_but hb with rfl | ⟨k, hk, hb2⟩
    · trivial
    · simp at hk
      rcases hk with rfl | rfl
      · rw [hr] at hb2; injection hb2 with hb2; subst hb2; exact hp
      · rw [hq] at hb2; injection hb2 with hb2; subst hb2; exact hp2
  refine Up.kill (allBut H.length [r, q]) H (.fz r sz xs hg (fun row hrow x hx => ltL_mem (hp row hrow) x hx) hok ?_ ?_)
  · intro b hb
    rcases List.mem_or_eq_of_mem_set hb with hb | rfl
    · exact bok0 (hall b hb)
    · trivial
  · have hm : (((kill H (allBut H.length [r, q])).set r .dead).map (Blk.fz r sz xs)) = (kill H (allBut H.length [r, q])).set r .dead := by
      conv => rhs; rw [← List.map_id' ((kill H (allBut H.length [r, q])).set r .dead)]
      refine List.map_congr_left fun b hb => ?_
      rcases List.mem_or_eq_of_mem_set hb with hb | rfl
      · exact bfz0 (hall b hb)
      · rfl
    rw [hm]
    refine .fz q sy ys (by rw [List.getElem?_set_ne hrq]; exact hg2) (fun row hrow x hx => ltL_mem (hp2 row hrow) x hx) hok2 ?_ (.gc 0 (Nat.le_refl _) (Nat.zero_le _) hv (by simp) (.done (by simpa using h)))
    intro b hb
    rcases List.mem_or_eq_of_mem_set hb with hb | rfl
    · rcases List.mem_or_eq_of_mem_set hb with hb | rfl
      · exact bok0 (hall b hb)
      · trivial
    · trivial
theorem rows_lt {α : Type} {f : α → List AV} (h : ∀ a, ltL 0 (f a) = true) (l : List α) : ∀ row ∈ l.map f, ltL 0 row = true := by
  intro row hr
  obtain ⟨n, _, rfl⟩ := List.mem_map.1 hr
  exact h n
theorem r1_lt0 (l : List Int) : ∀ row ∈ l.map r1, ltL 0 row = true := rows_lt (fun _ => rfl) l
theorem rb_lt0 (l : List UInt8) : ∀ row ∈ l.map rb, ltL 0 row = true := rows_lt (fun _ => rfl) l
theorem blt0 {sz m : Nat} {xs : List (List AV)} (h : ∀ row ∈ xs, ltL 0 row = true) : (Blk.rows sz xs).lt m := fun row hr => ltL_le (Nat.zero_le m) (h row hr)
end Go.AM
set_option linter.unusedVariables false
set_option linter.unusedSimpArgs false
namespace Go.AM
mutual
def AV.bare : AV → Bool
  | .view _ _ xs => xs.isEmpty
  | .iface _ v => AV.bare v
  | .agg cs => bareL cs
  | .tuple vs => bareL vs
  | .any | .bool _ | .int _ _ | .str _ | .nilptr | .nilchan | .nilmap | .nilfunc | .nilif => true
  | .ptr _ _ _ | .cptr _ _ | .sl _ _ _ _ | .rsl _ _ _ _ | .chan _ | .yfn _ | .map _ | .func _ _ _ => false
def bareL : List AV → Bool
  | [] => true
  | x :: xs => AV.bare x && bareL xs
end
theorem bareL_get : ∀ {xs : List AV}, bareL xs = true → ∀ {k : Nat} {x : AV}, xs[k]? = some x → x.bare = true
  | [], _, k, x, h => by simp at h
  | y :: ys, hl, k, x, h => by
    simp only [bareL, Bool.and_eq_true] at hl
    cases k with
    | zero => simp at h; subst h; exact hl.1
    | succ k => exact bareL_get hl.2 (by simpa using h)
theorem VR.bare {sn sn' : Snap} {ρ : Env} {x : AV} {v : Value} (h : VR sn ρ x v) : ∀ {ρ' : Env}, x.bare = true → VR sn' ρ' x v := by
  induction h with
  | any => intro _ _; exact .any _ _
  | bool => intro _ _; exact .bool _ _
  | int => intro _ _; exact .int _ _ _
  | str => intro _ _; exact .str _ _
  | nilptr => intro _ _; exact .nilptr _
  | ptr ρ r i j p h => intro _ hf; simp [AV.bare] at hf
  | cptr => intro _ hf; simp [AV.bare] at hf
  | view ρ full sz xs a b o c vs hl hm hf ha hz hc ho hr ih =>
    intro ρ' hfl
    have : xs = [] := by simpa [AV.bare] using hfl
    subst this
    exact .view _ full sz [] a b o c vs hl hm hf ha (by simp) (by simp) (by simp) (by simp)
  | sl => intro _ hf; simp [AV.bare] at hf
  | sl0 => intro _ hf; simp [AV.bare] at hf
  | rsl => intro _ hf; simp [AV.bare] at hf
  | nilchan => intro _ _; exact .nilchan _
  | chan => intro _ hf; simp [AV.bare] at hf
  | yfn => intro _ hf; simp [AV.bare] at hf
  | nilmap => intro _ _; exact .nilmap _
  | map => intro _ hf; simp [AV.bare] at hf
  | nilfunc => intro _ _; exact .nilfunc _
  | func => intro _ hf; simp [AV.bare] at hf
  | nilif => intro _ _; exact .nilif _
  | iface ρ t x y h ih => intro ρ' hf; simp only [AV.bare] at hf; exact .iface _ _ _ _ (ih hf)
  | agg ρ xs ys hs h ih => intro ρ' hf; simp only [AV.bare] at hf; exact .agg _ _ _ hs (fun k x y hx hy => ih k x y hx hy (bareL_get hf hx))
  | tuple ρ xs ys hs h ih => intro ρ' hf; simp only [AV.bare] at hf; exact .tuple _ _ _ hs (fun k x y hx hy => ih k x y hx hy (bareL_get hf hx))
theorem ACalls.reads {P : Program} {f : FuncId} {args args' : List AV} {v : AV} {H : Heap} (hv : v.bare = true) (hc : ACalls P f args' [] (fun o H => o = .ret v ∧ H = []))
    (ha : ∀ (sn : Snap) (ρ : Env) (w : World) (vs : Array Value), Rel sn ρ H w → VRs sn ρ args vs.toList → VRs (snapAll w) noEnv args' vs.toList) : ACalls P f args H (fun o H2 => o = .ret v ∧ H2 = H) := by
  intro sn ρ w vs hR hvs
  refine (hc (snapAll w) noEnv w vs (rel_all (hR.gl.mono hR.snap)) (ha sn ρ w vs hR hvs)).mono ?_
  rintro e w' ⟨sn', ρ', H', out, o1, R', E, rfl, rfl⟩
  have fr : ∀ b o, w.heap[b]? = some o → w'.heap[b]? = some o := fun b o hb => by
    rw [E.frame b (Array.getElem?_eq_some_iff.1 hb).1 (fun ⟨r, blk, p, h, _⟩ => by simp at h), hb]
  refine ⟨sn, ρ, H, .ret v, ?_, ⟨hR.gl, fun b o h => fr b o (hR.snap b o h), fun r blk p h1 h2 h3 => ?_, hR.inj, hR.top⟩, ⟨fun _ _ h => h, fun _ _ => rfl, Nat.le_refl _, fun _ _ h => h, E.below, E.os, E.tape, E.output, fun b hb _ => E.frame b hb (fun ⟨r, blk, p, h, _⟩ => by simp at h), fun b h => absurd rfl h, fun b h => .inr h⟩, rfl, rfl⟩
  · cases e with
    | returned cv => exact VR.bare (show VR sn' ρ' v cv from o1) hv
    | _ => exact o1.elim
  · obtain ⟨g1, o, g2, g3⟩ := hR.own r blk p h1 h2 h3
    exact ⟨g1, o, fr _ _ g2, g3⟩
theorem ACalls.lend {P : Program} {f : FuncId} {args : List AV} {v : AV} {H : Heap} (r : Nat) {sz : Nat} {xs : List (List AV)} (hv : v.bare = true) (h1 : H[r]? = some (.rows sz xs)) (h2 : ∀ row ∈ xs, ∀ x ∈ row, x.pure = true) (h3 : fzOkL r xs.length args) (hp : ltL 0 (fzL r sz xs args) = true)
    (hc : ACalls P f (fzL r sz xs args) [] (fun o H => o = .ret v ∧ H = [])) : ACalls P f args H (fun o H2 => o = .ret v ∧ H2 = H) := by
  refine ACalls.reads hv hc fun sn ρ w vs hR hvs => ?_
  refine ⟨by rw [fzL_map, List.length_map]; exact hvs.1, fun k x y hx hy => ?_⟩
  have hx' := hx
  rw [fzL_map, List.getElem?_map, Option.map_eq_some_iff] at hx
  obtain ⟨z, hz, rfl⟩ := hx
  exact (VR.fz hR h1 h2 (sn' := snapAll w) hR.snap (fun p _ => rfl) (hvs.2 k z y hz hy) rfl (fzOkL_get h3 hz)).pure (ltL_get hp hx')
end Go.AM
set_option linter.unusedVariables false
namespace Go.Glob
abbrev Bs := List UInt8
structure El where
  star : Bool
  has : UInt8 → Bool
def El.any (e : El) : Prop := e.star = true ∨ ∃ c, e.has c = true
inductive Mt : List El → Bs → Prop where
  | nil : Mt [] []
  | one {e : El} {c : UInt8} {l : List El} {s : Bs} (h : e.star = false) (hc : e.has c = true) (hm : Mt l s) : Mt (e :: l) (c :: s)
  | star {e : El} {l : List El} {s : Bs} (h : e.star = true) (t : Bs) (hm : Mt l s) : Mt (e :: l) (t ++ s)
theorem Mt.app {l m : List El} {s t : Bs} (h : Mt l s) (h2 : Mt m t) : Mt (l ++ m) (s ++ t) := by
  induction h with
  | nil => exact h2
  | one h hc hm ih => exact .one h hc ih
  | star h u hm ih =>
    rw [List.append_assoc]
    exact .star h u ih
def At (l : List El) (s : Bs) (j : Nat) : Prop := Mt (l.take j) s
def G (l : List El) (s : Bs) (j : Nat) : Prop := At l s j ∨ ∃ e, l[j]? = some e ∧ e.star = true ∧ At l s (j + 1)
def opn (l : List El) (v : Nat → Bool) : Nat → Bool
  | 0 => v 0
  | j + 1 => v (j + 1) || (match l[j]? with | some e => e.star && opn l v j | none => false)
def stp (l : List El) (c : UInt8) (v : Nat → Bool) (j : Nat) : Bool :=
  (match l[j]? with | some e => e.star && v j | none => false) || (match j with | 0 => false | i + 1 => match l[i]? with | some e => !e.star && e.has c && v i | none => false)
def run (l : List El) : Bs → (Nat → Bool) → Nat → Bool
  | [], v => v
  | c :: s, v => run l s (opn l (stp l c v))
def start : Nat → Bool
  | 0 => true
  | _ + 1 => false
def glob (l : List El) (s : Bs) : Bool := run l s (opn l start) l.length
def Meets (l m : List El) : Prop := ∃ s, Mt l s ∧ Mt m s
theorem Meets.symm {l m : List El} (h : Meets l m) : Meets m l := h.imp fun _ h => ⟨h.2, h.1⟩
end Go.Glob
set_option linter.unusedVariables false
namespace Go.Glob
def F (l m : List El) (i k : Nat) : Prop := Meets (l.take i) (m.take k)
def El.both (e f : El) : Prop := ∃ c, (e.star = true ∨ e.has c = true) ∧ (f.star = true ∨ f.has c = true)
section
variable {l m : List El} {i k : Nat} {e f : El}
end
def rst (m : List El) (any : El → Bool) (v : Nat → Bool) : Nat → Bool
  | 0 => v 0
  | k + 1 => v (k + 1) || (match m[k]? with | some f => any f && rst m any v k | none => false)
def ron (m : List El) (both : El → Bool) (v : Nat → Bool) (k : Nat) : Bool :=
  (match m[k]? with | some f => f.star && (v k && both f) | none => false) || (match k with | 0 => false | j + 1 => match m[j]? with | some f => !f.star && (v j && both f) | none => false)
def rows (m : List El) (any : El → Bool) (both : El → El → Bool) : List El → (Nat → Bool) → Nat → Bool
  | [], v => v
  | e :: l, v => rows m any both l (if e.star = true then rst m any v else opn m (ron m (both e) v))
def meet (l m : List El) (any : El → Bool) (both : El → El → Bool) : Bool := rows m any both l (opn m start) m.length
end Go.Glob
set_option linter.unusedVariables false
namespace Go.Glob
def spc (c : UInt8) : Bool := c == 93 || c == 91 || c == 58 || c == 45
def chr : Bs → Option (UInt8 × Bs)
  | [] => none
  | c :: r => if c = 92 then (match r with | [] => none | d :: r' => some (d, r')) else if spc c = true then none else some (c, r)
def rng (lo hi : UInt8) (h : UInt8 → Bool) : UInt8 → Bool := fun c => h c || (decide (lo ≤ c) && decide (c ≤ hi))
def tail (lo : UInt8) (h : UInt8 → Bool) : Bs → Option ((UInt8 → Bool) × Bs)
  | [] => some (rng lo lo h, [])
  | c :: r => if c = 45 then (chr r).map (fun x => (rng lo x.1 h, x.2)) else some (rng lo lo h, c :: r)
def item (s : Bs) (h : UInt8 → Bool) : Option ((UInt8 → Bool) × Bs) := match chr s with
  | none => none
  | some (lo, r) => tail lo h r
def items : Nat → Bs → (UInt8 → Bool) → Option ((UInt8 → Bool) × Bs)
  | 0, _, _ => none
  | n + 1, s, h => match item s h with
    | none => none
    | some (h', r) => match r with
      | [] => none
      | c :: r' => if c = 93 then some (h', r') else items n (c :: r') h'
def negs : Bs → Bool × Bs
  | [] => (false, [])
  | c :: r => if c = 33 ∨ c = 94 then (true, r) else (false, c :: r)
def setP (s : Bs) : Option (El × Bs) := (items (negs s).2.length (negs s).2 (fun _ => false)).map (fun x => (⟨false, fun c => x.1 c != (negs s).1⟩, x.2))
def sgl (d : UInt8) : El := ⟨false, fun c => c == d⟩
def star : El := ⟨true, fun _ => false⟩
def elP : Bs → Option (El × Bs)
  | [] => none
  | c :: r => if c = 42 then some (star, r) else if c = 63 then some (⟨false, fun _ => true⟩, r) else if c = 91 then setP r
    else if c = 92 then (match r with | [] => none | d :: r' => some (sgl d, r')) else if c = 93 ∨ c = 58 then none else some (sgl c, r)
def els : Nat → Bs → Option (List El)
  | _, [] => some []
  | 0, _ :: _ => none
  | n + 1, c :: r => match elP (c :: r) with
    | none => none
    | some (e, r') => (els n r').map (e :: ·)
def okB (s : Bs) : Bool := decide (s.length ≤ 64) && s.all (fun c => decide (33 ≤ c) && decide (c ≤ 126))
def prs (s : Bs) : Option (List El) := if okB s = true then els s.length s else none
theorem chr_loc {s r : Bs} {c : UInt8} (h : chr s = some (c, r)) : ∃ t, t ≠ [] ∧ s = t ++ r ∧ ∀ x, chr (t ++ x) = some (c, x) := by
  cases s with
  | nil => cases h
  | cons a s =>
    unfold chr at h
    simp only at h
    split at h
    · rename_i ha
      cases s with
      | nil => cases h
      | cons d s =>
        cases h
        exact ⟨[a, c], by simp, rfl, fun x => by simp [chr, ha]⟩
    · rename_i ha
      split at h
      · cases h
      · rename_i hb
        cases h
        exact ⟨[c], by simp, rfl, fun x => by simp [chr, ha, hb]⟩
theorem item_loc {s : Bs} {h h' : UInt8 → Bool} {d : UInt8} {r : Bs} (e : item s h = some (h', d :: r)) : ∃ t, t ≠ [] ∧ s = t ++ d :: r ∧ ∀ x, item (t ++ d :: x) h = some (h', d :: x) := by
  unfold item at e
  cases hc : chr s with
  | none => rw [hc] at e; cases e
  | some y =>
    obtain ⟨lo, r1⟩ := y
    rw [hc] at e
    obtain ⟨t, ht, rfl, hx⟩ := chr_loc hc
    simp only at e
    cases r1 with
    | nil => simp [tail] at e
    | cons a r1 =>
      rw [tail] at e
      split at e
      · rename_i ha
        cases hc2 : chr r1 with
        | none => rw [hc2] at e; cases e
        | some z =>
          obtain ⟨hi, r2⟩ := z
          rw [hc2] at e
          simp only [Option.map_some, Option.some.injEq, Prod.mk.injEq] at e
          obtain ⟨rfl, rfl⟩ := e
          obtain ⟨t2, ht2, rfl, hx2⟩ := chr_loc hc2
          refine ⟨t ++ a :: t2, by simp, by simp, fun x => ?_⟩
          rw [item, show t ++ a :: t2 ++ d :: x = t ++ (a :: (t2 ++ d :: x)) by simp, hx]
          simp only [tail, if_pos ha, hx2, Option.map_some]
      · rename_i ha
        simp only [Option.some.injEq, Prod.mk.injEq, List.cons.injEq] at e
        obtain ⟨rfl, rfl, rfl⟩ := e
        refine ⟨t, ht, rfl, fun x => ?_⟩
        rw [item, hx]
        simp only [tail, if_neg ha]
theorem items_loc : ∀ {n : Nat} {s : Bs} {h h' : UInt8 → Bool} {r : Bs}, items n s h = some (h', r) → ∃ t, t ≠ [] ∧ s = t ++ r ∧ ∀ x k, t.length ≤ k → items k (t ++ x) h = some (h', x)
  | 0, s, h, h', r, e => by cases e
  | n + 1, s, h, h', r, e => by
    rw [items] at e
    cases hi : item s h with
    | none => rw [hi] at e; cases e
    | some y =>
      obtain ⟨h1, r1⟩ := y
      rw [hi] at e
      simp only at e
      cases r1 with
      | nil => cases e
      | cons d r1 =>
        obtain ⟨t, ht, rfl, hx⟩ := item_loc hi
        simp only at e
        split at e
        · rename_i hd
          simp only [Option.some.injEq, Prod.mk.injEq] at e
          obtain ⟨rfl, rfl⟩ := e
          refine ⟨t ++ [d], by simp, by simp, fun x k hk => ?_⟩
          obtain ⟨k, rfl⟩ : ∃ j, k = j + 1 := ⟨k - 1, by simp at hk; omega⟩
          rw [items, show t ++ [d] ++ x = t ++ d :: x by simp, hx]
          simp only [if_pos hd]
        · rename_i hd
          obtain ⟨t2, ht2, h2, hx2⟩ := items_loc e
          refine ⟨t ++ t2, by simp [ht], by rw [List.append_assoc, ← h2], fun x k hk => ?_⟩
          have hl : 1 ≤ t.length := List.length_pos_iff.2 ht
          obtain ⟨k, rfl⟩ : ∃ j, k = j + 1 := ⟨k - 1, by simp at hk; omega⟩
          cases t2 with
          | nil => exact absurd rfl ht2
          | cons d2 t2 =>
            obtain ⟨rfl, h3⟩ := List.cons.inj h2
            rw [items, List.append_assoc, List.cons_append, hx]
            simp only [if_neg hd]
            rw [← List.cons_append]
            exact hx2 x k (by simp at hk ⊢; omega)
theorem setP_loc {s r : Bs} {e : El} (h : setP s = some (e, r)) : ∃ t, s = t ++ r ∧ ∀ x, setP (t ++ x) = some (e, x) := by
  unfold setP at h
  cases hi : items (negs s).2.length (negs s).2 (fun _ => false) with
  | none => rw [hi] at h; cases h
  | some y =>
    obtain ⟨h1, r1⟩ := y
    rw [hi] at h
    simp only [Option.map_some, Option.some.injEq, Prod.mk.injEq] at h
    obtain ⟨rfl, rfl⟩ := h
    obtain ⟨t, ht, h2, hx⟩ := items_loc hi
    cases s with
    | nil =>
      simp [negs] at h2
      exact absurd h2.1 ht
    | cons c s =>
      by_cases hc : c = 33 ∨ c = 94
      · rw [negs, if_pos hc] at h2
        simp only at h2
        subst h2
        refine ⟨c :: t, rfl, fun x => ?_⟩
        rw [setP, List.cons_append, negs, if_pos hc, negs, if_pos hc]
        simp only
        rw [hx x _ (by simp)]
        rfl
      · rw [negs, if_neg hc] at h2
        simp only at h2
        refine ⟨t, h2, fun x => ?_⟩
        cases t with
        | nil => exact absurd rfl ht
        | cons c' t =>
          obtain ⟨rfl, h3⟩ := List.cons.inj h2
          rw [setP, List.cons_append, negs, if_neg hc, negs, if_neg hc]
          simp only
          rw [← List.cons_append, hx x _ (by simp)]
          rfl
theorem elP_cons (c : UInt8) (r : Bs) : elP (c :: r) = if c = 42 then some (star, r) else if c = 63 then some (⟨false, fun _ => true⟩, r) else if c = 91 then setP r
    else if c = 92 then (match r with | [] => none | d :: r' => some (sgl d, r')) else if c = 93 ∨ c = 58 then none else some (sgl c, r) := by
  cases r <;> rfl
theorem elP_loc {s r : Bs} {e : El} (h : elP s = some (e, r)) : ∃ t, t ≠ [] ∧ s = t ++ r ∧ ∀ x, elP (t ++ x) = some (e, x) := by
  cases s with
  | nil => cases h
  | cons c s =>
    rw [elP_cons] at h
    split at h
    · rename_i h1
      cases h
      exact ⟨[c], by simp, rfl, fun x => by rw [List.cons_append, elP_cons, if_pos h1]; rfl⟩
    rename_i h1
    split at h
    · rename_i h2
      cases h
      exact ⟨[c], by simp, rfl, fun x => by rw [List.cons_append, elP_cons, if_neg h1, if_pos h2]; rfl⟩
    rename_i h2
    split at h
    · rename_i h3
      obtain ⟨t, rfl, hx⟩ := setP_loc h
      exact ⟨c :: t, by simp, rfl, fun x => by rw [List.cons_append, elP_cons, if_neg h1, if_neg h2, if_pos h3, hx]⟩
    rename_i h3
    split at h
    · rename_i h4
      cases s with
      | nil => cases h
      | cons d s =>
        cases h
        exact ⟨[c, d], by simp, rfl, fun x => by rw [List.cons_append, elP_cons, if_neg h1, if_neg h2, if_neg h3, if_pos h4]; rfl⟩
    rename_i h4
    split at h
    · cases h
    · rename_i h5
      cases h
      exact ⟨[c], by simp, rfl, fun x => by rw [List.cons_append, elP_cons, if_neg h1, if_neg h2, if_neg h3, if_neg h4, if_neg h5]; rfl⟩
theorem els_nil (n : Nat) : els n [] = some [] := by cases n <;> rfl
theorem els_cons {n : Nat} {s : Bs} (hs : s ≠ []) : els (n + 1) s = match elP s with | none => none | some (e, r') => (els n r').map (e :: ·) := by
  cases s with
  | nil => exact absurd rfl hs
  | cons c s => rfl
where
  els_more : ∀ (n : Nat) (s : Bs) (k : Nat), s.length ≤ n → s.length ≤ k → ∀ {m : List El}, els n s = some m → els k s = some m
  | n, [], k, _, _, m, h => by rw [els_nil] at h ⊢; exact h
  | 0, c :: s, k, hn, _, m, h => by cases h
  | n + 1, c :: s, k, hn, hk, m, h => by
    obtain ⟨k, rfl⟩ : ∃ j, k = j + 1 := ⟨k - 1, by simp at hk; omega⟩
    rw [els_cons (by simp)] at h ⊢
    cases he : elP (c :: s) with
    | none => rw [he] at h; cases h
    | some y =>
      obtain ⟨e, r⟩ := y
      rw [he] at h
      simp only at h ⊢
      obtain ⟨t, ht, hs, hx⟩ := elP_loc he
      have hl : 1 ≤ t.length := List.length_pos_iff.2 ht
      have hlen : s.length + 1 = t.length + r.length := by
        have := congrArg List.length hs
        simpa using this
      cases hr : els n r with
      | none => rw [hr] at h; cases h
      | some l' =>
        rw [hr] at h
        rw [els_more n r k (by simp at hn; omega) (by simp at hk; omega) hr]
        exact h
theorem prs_some {s : Bs} {l : List El} : prs s = some l ↔ okB s = true ∧ els s.length s = some l := by
  unfold prs
  split
  · rename_i h; simp [h]
  · rename_i h; simp [h]
end Go.Glob
set_option linter.unusedVariables false
namespace Go.Glob
def whole : List El → List El
  | [] => [star]
  | e :: l => e :: l
def gl (p s : Bs) : Bool := match prs p with
  | none => false
  | some l => glob (whole l) s
def anyB (f : El) : Bool := f.star || (List.range 256).any fun n => f.has (UInt8.ofNat n)
def bothB (e f : El) : Bool := (List.range 256).any fun n => (e.star || e.has (UInt8.ofNat n)) && (f.star || f.has (UInt8.ofNat n))
def mtB (a b : Bs) : Bool := match prs a, prs b with
  | some l, some m => meet (whole l) (whole m) anyB bothB
  | _, _ => false
def pln (c : UInt8) : Bool := !(decide (c < 33) || decide (126 < c) || c == 42 || c == 63 || c == 91 || c == 93 || c == 58 || c == 92)
def plain (s : Bs) : Bool := decide (s.length ≤ 64) && s.all pln
def esc : Bs → Bs
  | [] => []
  | c :: s => 92 :: c :: esc s
example : gl [102, 42, 111] [102, 111, 111] = true := by rfl
example : mtB [97, 63] [97, 98, 99] = false := by rfl
end Go.Glob
set_option linter.unusedVariables false
namespace Go.Glob
inductive EK where
  | star | any
  | set (h : UInt8 → Bool) (neg : Bool)
  | one (c : UInt8)
def EK.el : EK → El
  | .star => Glob.star
  | .any => ⟨false, fun _ => true⟩
  | .set h neg => ⟨false, fun c => h c != neg⟩
  | .one c => sgl c
def restI (h : UInt8 → Bool) : Bs → Option ((UInt8 → Bool) × Bs)
  | [] => none
  | c :: r => if c = 93 then some (h, r) else items (r.length + 1) (c :: r) h
def setK (s : Bs) : Option (EK × Bs) := (items (negs s).2.length (negs s).2 (fun _ => false)).map (fun x => (.set x.1 (negs s).1, x.2))
def elK : Bs → Option (EK × Bs)
  | [] => none
  | c :: r => if c = 42 then some (.star, r) else if c = 63 then some (.any, r) else if c = 91 then setK r
    else if c = 92 then (match r with | [] => none | d :: r' => some (.one d, r')) else if c = 93 ∨ c = 58 then none else some (.one c, r)
theorem elK_cons (c : UInt8) (r : Bs) : elK (c :: r) = if c = 42 then some (.star, r) else if c = 63 then some (.any, r) else if c = 91 then setK r
    else if c = 92 then (match r with | [] => none | d :: r' => some (.one d, r')) else if c = 93 ∨ c = 58 then none else some (.one c, r) := by cases r <;> rfl
theorem setP_eq (s : Bs) : setP s = (setK s).map fun x => (x.1.el, x.2) := by
  simp only [setP, setK, Option.map_map]
  rfl
theorem elP_eq (s : Bs) : elP s = (elK s).map fun x => (x.1.el, x.2) := by
  cases s with
  | nil => rfl
  | cons c r =>
    rw [elP_cons, elK_cons]
    by_cases h1 : c = 42
    · rw [if_pos h1, if_pos h1]; rfl
    rw [if_neg h1, if_neg h1]
    by_cases h2 : c = 63
    · rw [if_pos h2, if_pos h2]; rfl
    rw [if_neg h2, if_neg h2]
    by_cases h3 : c = 91
    · rw [if_pos h3, if_pos h3, setP_eq]
    rw [if_neg h3, if_neg h3]
    by_cases h4 : c = 92
    · rw [if_pos h4, if_pos h4]
      cases r <;> rfl
    rw [if_neg h4, if_neg h4]
    by_cases h5 : c = 93 ∨ c = 58
    · rw [if_pos h5, if_pos h5]; rfl
    rw [if_neg h5, if_neg h5]; rfl
def elsK : Nat → Bs → Option (List EK)
  | _, [] => some []
  | 0, _ :: _ => none
  | n + 1, c :: r => match elK (c :: r) with
    | none => none
    | some (e, r') => (elsK n r').map (e :: ·)
theorem elsK_nil (n : Nat) : elsK n [] = some [] := by cases n <;> rfl
theorem elsK_cons {n : Nat} {s : Bs} (hs : s ≠ []) : elsK (n + 1) s = match elK s with | none => none | some (e, r') => (elsK n r').map (e :: ·) := by
  cases s with
  | nil => exact absurd rfl hs
  | cons c s => rfl
theorem els_eq : ∀ (n : Nat) (s : Bs), els n s = (elsK n s).map (·.map EK.el)
  | n, [] => by rw [els_nil, elsK_nil]; rfl
  | 0, _ :: _ => rfl
  | n + 1, c :: r => by
    rw [els_cons (by simp), elsK_cons (by simp), elP_eq]
    cases h : elK (c :: r) with
    | none => rfl
    | some x =>
      obtain ⟨e, r'⟩ := x
      simp only [Option.map_some, els_eq n r', Option.map_map]
      rfl
theorem elK_suf {s r : Bs} {e : EK} (h : elK s = some (e, r)) : ∃ t, t ≠ [] ∧ s = t ++ r := by
  have : elP s = some (e.el, r) := by rw [elP_eq, h]; rfl
  obtain ⟨t, h1, h2, _⟩ := elP_loc this
  exact ⟨t, h1, h2⟩
theorem elK_len {s r : Bs} {e : EK} (h : elK s = some (e, r)) : r.length < s.length := by
  obtain ⟨t, h1, rfl⟩ := elK_suf h
  have := List.length_pos_iff.2 h1
  simp; omega
theorem elsK_fuel : ∀ (m n : Nat) (s : Bs), s.length ≤ n → s.length ≤ m → elsK n s = elsK m s
  | m, n, [], _, _ => by rw [elsK_nil, elsK_nil]
  | 0, n, c :: r, _, h => by simp at h
  | m + 1, 0, c :: r, h, _ => by simp at h
  | m + 1, n + 1, c :: r, h1, h2 => by
    rw [elsK_cons (by simp), elsK_cons (by simp)]
    cases h : elK (c :: r) with
    | none => rfl
    | some x =>
      obtain ⟨e, r'⟩ := x
      have := elK_len h
      simp only [List.length_cons] at this h1 h2
      simp only [elsK_fuel m n r' (by omega) (by omega)]
def allK (s : Bs) : Option (List EK) := elsK s.length s
theorem allK_nil : allK [] = some [] := rfl
theorem allK_step {s : Bs} (hs : s ≠ []) : allK s = match elK s with | none => none | some (e, r') => (allK r').map (e :: ·) := by
  cases s with
  | nil => exact absurd rfl hs
  | cons c s =>
    rw [allK, List.length_cons, elsK_cons (by simp)]
    cases h : elK (c :: s) with
    | none => rfl
    | some x =>
      obtain ⟨e, r'⟩ := x
      have := elK_len h
      simp only [List.length_cons] at this
      simp only [allK, elsK_fuel s.length r'.length r' (by omega) (by omega)]
def prsK (s : Bs) : Option (List EK) := if okB s = true then allK s else none
theorem prs_eq (s : Bs) : prs s = (prsK s).map (·.map EK.el) := by
  unfold prs prsK allK
  split
  · exact els_eq _ _
  · rfl
def wholeK : List EK → List EK
  | [] => [.star]
  | e :: l => e :: l
theorem whole_eq (l : List EK) : whole (l.map EK.el) = (wholeK l).map EK.el := by cases l <;> rfl
theorem item_len {s r : Bs} {h h' : UInt8 → Bool} (e : item s h = some (h', r)) : r.length < s.length := by
  have hc : ∀ {s r : Bs} {c : UInt8}, chr s = some (c, r) → r.length < s.length := fun {s r c} e => by
    obtain ⟨t, h1, rfl, _⟩ := chr_loc e
    have := List.length_pos_iff.2 h1
    simp; omega
  unfold item at e
  cases h1 : chr s with
  | none => rw [h1] at e; cases e
  | some x =>
    obtain ⟨lo, r1⟩ := x
    rw [h1] at e
    have h2 := hc h1
    simp only at e
    cases r1 with
    | nil => rw [tail] at e; cases e; exact h2
    | cons c r1 =>
      rw [tail] at e
      split at e
      · cases h3 : chr r1 with
        | none => rw [h3] at e; cases e
        | some y =>
          rw [h3] at e
          have h4 := hc (r := y.2) (c := y.1) (by rw [h3])
          simp only [Option.map_some, Option.some.injEq, Prod.mk.injEq] at e
          obtain ⟨_, rfl⟩ := e
          simp at h2; omega
      · cases e; exact h2
theorem items_fuel : ∀ (m n : Nat) (s : Bs) (h : UInt8 → Bool), s.length ≤ n → s.length ≤ m → items n s h = items m s h
  | 0, 0, s, h, _, _ => rfl
  | 0, n + 1, s, h, _, h2 => by
    have : s = [] := List.length_eq_zero_iff.1 (by omega)
    subst this
    rfl
  | m + 1, 0, s, h, h1, _ => by
    have : s = [] := List.length_eq_zero_iff.1 (by omega)
    subst this
    rfl
  | m + 1, n + 1, s, h, h1, h2 => by
    rw [items, items]
    cases hi : item s h with
    | none => rfl
    | some x =>
      obtain ⟨h', r⟩ := x
      have := item_len hi
      simp only
      cases r with
      | nil => rfl
      | cons c r' =>
        simp only
        split
        · rfl
        · exact items_fuel m n (c :: r') h' (by omega) (by omega)
def itms (s : Bs) (h : UInt8 → Bool) : Option ((UInt8 → Bool) × Bs) := items s.length s h
theorem itms_step (s : Bs) (h : UInt8 → Bool) : itms s h = match item s h with | none => none | some (h', r) => restI h' r := by
  cases s with
  | nil => rfl
  | cons c s =>
    rw [itms, List.length_cons, items]
    cases hi : item (c :: s) h with
    | none => rfl
    | some x =>
      obtain ⟨h', r⟩ := x
      have := item_len hi
      simp only
      cases r with
      | nil => rfl
      | cons d r' =>
        simp only [restI]
        split
        · rfl
        · exact items_fuel _ _ _ _ (by simp at this ⊢; omega) (by simp)
theorem setK_eq (s : Bs) : setK s = (itms (negs s).2 (fun _ => false)).map (fun x => (.set x.1 (negs s).1, x.2)) := rfl
end Go.Glob
set_option maxRecDepth 100000
set_option linter.unusedVariables false
set_option linter.unusedSimpArgs false
namespace Go.Proofs.YtigmnlnomhjecaaGreatDoor
open Go.AM
open Go.Glob (Bs)
abbrev Sv (b : Bs) : AV := .str ⟨b.toArray⟩
theorem bsz (b : Bs) : (ByteArray.mk b.toArray).size = b.length := rfl
theorem bdt (b : Bs) : (ByteArray.mk b.toArray).data.toList = b := rfl
theorem bex (b : Bs) (i j : Nat) : (ByteArray.mk b.toArray).extract i j = ⟨((b.drop i).take (j - i)).toArray⟩ := by
  apply ByteArray.ext
  apply Array.ext'
  simp [ByteArray.data_extract, List.extract_eq_take_drop]
theorem ACalls.ofCalls {P : Program} {f : FuncId} {args : List AV} {H : Heap} {v : AV} (h : ∀ (sn : Snap) (ρ : Env) (w : World) (vs : Array Value), VRs sn ρ args vs.toList → ∃ cv, VR sn ρ v cv ∧ Calls P f vs w fun e w' => e = .returned cv ∧ w' = w) :
    ACalls P f args H (fun o H2 => o = .ret v ∧ H2 = H) := by
  intro sn ρ w vs hR hv
  obtain ⟨cv, h1, h2⟩ := h sn ρ w vs hv
  refine h2.mono ?_
  rintro e w' ⟨rfl, rfl⟩
  exact ⟨sn, ρ, H, .ret v, h1, hR, .refl _ _ _ _, rfl, rfl⟩
set_option maxHeartbeats 1000000 in
theorem sliteIdx (s : ByteArray) (c : Int) (w : World) :
    Calls Tryz.prog 132 #[.string s, .int .u8 c] w fun e w' => e = .returned (.int .i64 (Lib.indexByte s.data.toList c.toNat.toUInt8)) ∧ w' = w := by
  go_enter Tryz.func132, Tryz.ntmps132
  go_wp2
  rw [run_callFunc_extern Tryz.func135 (by kernel_rfl) (by kernel_rfl) (by kernel_rfl) (e := Extern.BytealgIndexByte.indexByte) (by kernel_rfl), Lib.run_indexByteString]
  simp only [Result.andThen]
  rw [Oper.upon_value]
  go_wp2
  go_ret
  exact ⟨rfl, rfl⟩
set_option maxHeartbeats 1000000 in
theorem stringsIdx (s : ByteArray) (c : Int) (w : World) :
    Calls Tryz.prog 125 #[.string s, .int .u8 c] w fun e w' => e = .returned (.int .i64 (Lib.indexByte s.data.toList c.toNat.toUInt8)) ∧ w' = w := by
  go_enter Tryz.func125, Tryz.ntmps125
  go_wp2_with (go_at_call 132; refine (sliteIdx _ _ _).mono ?_; rintro e w' ⟨rfl, rfl⟩)
  go_ret
  exact ⟨rfl, rfl⟩
theorem idxByte_c (l : Bs) (c : UInt8) : ACalls Tryz.prog 125 [Sv l, bv c] [] (fun o H => o = .ret (iv (Lib.indexByte l c)) ∧ H = []) := by
  refine ACalls.ofCalls fun sn ρ w vs hv => ?_
  obtain ⟨l0⟩ := vs
  obtain ⟨hl, hvs⟩ := hv
  match l0, hl, hvs with
  | [u, v], _, hvs =>
    have hu := hvs 0 _ u rfl rfl
    have hv := hvs 1 _ v rfl rfl
    cases hu
    cases hv
    refine ⟨.int .i64 (Lib.indexByte l c), .int _ _ _, ?_⟩
    have := stringsIdx ⟨l.toArray⟩ (c.toNat : Int) w
    rwa [Int.toNat_natCast, show c.toNat.toUInt8 = c from UInt8.ofNat_toNat, bdt] at this
theorem idx_neg (l : Bs) (c : UInt8) : Lib.indexByte l c < 0 ↔ c ∉ l := by
  have hge := Lib.indexByte_ge
  induction l with
  | nil => simp [Lib.indexByte]
  | cons d l ih =>
    have := hge l c
    simp only [Lib.indexByte, List.mem_cons, not_or]
    by_cases h : d = c
    · subst h; simp
    · have h' : ¬ c = d := fun e => h e.symm
      simp only [beq_iff_eq, h, if_false, h', not_false_eq_true, true_and, ← ih]
      split <;> omega
def rd (b r : Bs) : Blk := .rows 2 [[Sv b, iv ((b.length - r.length : Nat) : Int)]]
theorem rd_lt (b r : Bs) (m : Nat) : (rd b r).lt m := by simp [rd, Blk.lt, ltL, AV.lt]
theorem suf_len {b r : Bs} (h : r <:+ b) : r.length ≤ b.length := h.length_le
theorem suf_at {b r : Bs} {c : UInt8} (h : c :: r <:+ b) : b[b.length - (r.length + 1)]? = some c := by
  obtain ⟨t, rfl⟩ := h
  simp
theorem suf_tl {b r : Bs} {c : UInt8} (h : c :: r <:+ b) : r <:+ b := (List.suffix_cons c r).trans h
theorem more_c (b r : Bs) (h : r <:+ b) : ACalls Tryz.prog 65 [.ptr 0 0 0] [rd b r] (fun o H => o = .ret (.bool (!r.isEmpty)) ∧ H = [rd b r]) := by
  refine ACalls.up ?_
  refine ACalls.intro (cs := []) (n := 13) Tryz.func65 rfl rfl rfl (by kernel_rfl) rfl ?_
  have hl := suf_len h
  simp only [go_sem,rd]
  refine draw [.qu 0 0, .qu 0 0, .qu 0 0, .qu 0 0, .qu 0 0, .qu 0 0, .qu 0 0, .qu 0 0, .qu 0 0, .qu 0 0, .qu 0 0] (by kernel_rfl) (by kernel_rfl) ?_
  simp only [go_sem,bsz]
  refine .gc 1 (Nat.le_refl _) (by simp) rfl (by simp [Blk.lt, ltL, AV.lt]) (.done ⟨?_, rfl⟩)
  congr 2
  cases r with
  | nil => simp
  | cons c r => simp at hl ⊢; omega
def noneV : AV := .iface 158 (.agg [])
theorem rtake_c (b r : Bs) (c : UInt8) (h : c :: r <:+ b) (hb : b.length ≤ 1000) : ACalls Tryz.prog 88 [.ptr 0 0 0] [rd b (c :: r)] (fun o H => o = .ret (bv c) ∧ H = [rd b r]) := by
  refine ACalls.up ?_
  refine ACalls.intro (cs := []) (n := 25) Tryz.func88 rfl rfl rfl (by kernel_rfl) rfl ?_
  have hl := suf_len h
  have ha := suf_at h
  simp only [List.length_cons] at hl
  simp only [go_sem]
  refine rK_use (Go.AM.enters_of Tryz.func65 rfl (by decide)) (more_c b (c :: r) h) ?_
  have e1 : iw .i64 (((b.length - (r.length + 1) : Nat) : Int) + 1) = ((b.length - r.length : Nat) : Int) := by rw [iw64] <;> omega
  have e2 : iw .i64 (((b.length - r.length : Nat) : Int) - 1) = ((b.length - (r.length + 1) : Nat) : Int) := by rw [iw64] <;> omega
  simp only [go_sem,List.isEmpty_cons,rd,List.length_cons,e1]
  refine draw [.qu 0 0, .qu 0 0, .qu 0 0, .qu 0 0, .qu 0 0, .qu 0 0, .qu 0 0, .qu 0 0, .qu 0 0, .qu 0 0, .qu 0 0] (by kernel_rfl) (by kernel_rfl) ?_
  have g : (0 : Int) ≤ ((b.length - (r.length + 1) : Nat) : Int) ∧ ((b.length - (r.length + 1) : Nat) : Int) < b.length := by omega
  simp only [go_sem,e2,bsz,bdt,g,ha]
  exact .gc 1 (Nat.le_refl _) (by simp) rfl (by simp [Blk.lt, ltL, AV.lt]) (.done ⟨rfl, rfl⟩)
theorem take_n (b : Bs) : ACalls Tryz.prog 88 [.ptr 0 0 0] [rd b []] (fun o H => o = .pan noneV ∧ H = [.dead]) := by
  refine ACalls.up ?_
  refine ACalls.intro (cs := []) (n := 25) Tryz.func88 rfl rfl rfl (by kernel_rfl) rfl ?_
  simp only [go_sem]
  refine rK_use (Go.AM.enters_of Tryz.func65 rfl (by decide)) (more_c b [] List.nil_suffix) ?_
  simp only [go_sem,List.isEmpty_nil]
  exact .dead 0 (.gc 1 (Nat.le_refl _) (by simp) rfl (by simp [Blk.lt]) (.done ⟨rfl, rfl⟩))
theorem ris_c (b r : Bs) (some_ : Bs) (c : UInt8) (h : c :: r <:+ b) (hb : b.length ≤ 1000) (hc : c ∈ some_) : ACalls Tryz.prog 107 [.ptr 0 0 0, Sv some_] [rd b (c :: r)] (fun o H => o = .ret (.bool true) ∧ H = [rd b r]) := by
  refine ACalls.up ?_
  refine ACalls.intro (cs := []) (n := 29) Tryz.func107 rfl rfl rfl (by kernel_rfl) rfl ?_
  have hl := suf_len h
  have ha := suf_at h
  simp only [List.length_cons] at hl
  have e1 : iw .i64 (((b.length - (r.length + 1) : Nat) : Int) + 1) = ((b.length - r.length : Nat) : Int) := by rw [iw64] <;> omega
  have g : (0 : Int) ≤ ((b.length - (r.length + 1) : Nat) : Int) ∧ ((b.length - (r.length + 1) : Nat) : Int) < b.length := by omega
  simp only [go_sem]
  refine draw [.qu 0 0, .mn 0, .qu 1 1, .qu 1 1, .qu 1 1, .qu 1 1, .qu 1 1, .qu 1 1, .qu 1 1, .qu 1 1, .qu 1 1, .qu 1 1, .qu 1 1, .qu 1 1, .mn 1, .qu 2 2, .qu 2 2] (by kernel_rfl) (by kernel_rfl) ?_
  simp only [go_sem]
  refine dM_call (Go.AM.enters_of Tryz.func65 rfl (by decide)) (more_c b (c :: r) h) ?_
  simp only [go_sem,List.isEmpty_cons,rd,List.length_cons,bsz,bdt,g,ha]
  refine dM_call (Go.AM.enters_of Tryz.func125 rfl (by decide)) (ACalls.pure_use (idxByte_c some_ c) rfl rfl) ?_
  have hn : ¬ Lib.indexByte some_ c < 0 := fun h => (idx_neg some_ c).1 h hc
  simp only [go_sem,hn,e1]
  exact .gc 1 (Nat.le_refl _) (by simp) rfl (by simp [Blk.lt, ltL, AV.lt]) (.done ⟨rfl, rfl⟩)
theorem is_n (b r : Bs) (some_ : Bs) (c : UInt8) (h : c :: r <:+ b) (hb : b.length ≤ 1000) (hc : c ∉ some_) : ACalls Tryz.prog 107 [.ptr 0 0 0, Sv some_] [rd b (c :: r)] (fun o H => o = .ret (.bool false) ∧ H = [rd b (c :: r)]) := by
  refine ACalls.up ?_
  refine ACalls.intro (cs := []) (n := 29) Tryz.func107 rfl rfl rfl (by kernel_rfl) rfl ?_
  have hl := suf_len h
  have ha := suf_at h
  simp only [List.length_cons] at hl
  have g : (0 : Int) ≤ ((b.length - (r.length + 1) : Nat) : Int) ∧ ((b.length - (r.length + 1) : Nat) : Int) < b.length := by omega
  simp only [go_sem]
  refine draw [.qu 0 0, .mn 0, .qu 1 1, .qu 1 1, .qu 1 1, .qu 1 1, .qu 1 1, .qu 1 1, .qu 1 1, .qu 1 1, .qu 1 1, .qu 1 1, .qu 1 1, .qu 1 1, .mn 1, .qu 2 2, .qu 2 2] (by kernel_rfl) (by kernel_rfl) ?_
  simp only [go_sem]
  refine dM_call (Go.AM.enters_of Tryz.func65 rfl (by decide)) (more_c b (c :: r) h) ?_
  simp only [go_sem,List.isEmpty_cons,rd,List.length_cons,bsz,bdt,g,ha]
  refine dM_call (Go.AM.enters_of Tryz.func125 rfl (by decide)) (ACalls.pure_use (idxByte_c some_ c) rfl rfl) ?_
  have hn : Lib.indexByte some_ c < 0 := (idx_neg some_ c).2 hc
  simp only [go_sem,hn]
  exact .gc 1 (Nat.le_refl _) (by simp) rfl (by simp [Blk.lt, ltL, AV.lt]) (.done ⟨rfl, rfl⟩)
theorem is_e (b : Bs) (some_ : Bs) : ACalls Tryz.prog 107 [.ptr 0 0 0, Sv some_] [rd b []] (fun o H => o = .ret (.bool false) ∧ H = [rd b []]) := by
  refine ACalls.up ?_
  refine ACalls.intro (cs := []) (n := 29) Tryz.func107 rfl rfl rfl (by kernel_rfl) rfl ?_
  simp only [go_sem]
  refine draw [.qu 0 0, .mn 0, .qu 1 1, .qu 1 1, .qu 1 1, .qu 1 1, .qu 1 1, .qu 1 1, .qu 1 1, .qu 1 1, .qu 1 1, .qu 1 1, .qu 1 1, .qu 1 1, .mn 1, .qu 2 2, .qu 2 2] (by kernel_rfl) (by kernel_rfl) ?_
  simp only [go_sem]
  refine dM_call (Go.AM.enters_of Tryz.func65 rfl (by decide)) (more_c b [] List.nil_suffix) ?_
  simp only [go_sem,List.isEmpty_nil]
  exact .gc 1 (Nat.le_refl _) (by simp) rfl (by simp [Blk.lt, ltL, AV.lt, rd]) (.done ⟨rfl, rfl⟩)
def nxt (some_ : Bs) : Bs → Bool
  | [] => false
  | c :: _ => decide (c ∈ some_)
def aft (some_ : Bs) : Bs → Bs
  | [] => []
  | c :: r => if c ∈ some_ then r else c :: r
theorem isS_c (b r : Bs) (some_ : Bs) (h : r <:+ b) (hb : b.length ≤ 1000) : ACalls Tryz.prog 107 [.ptr 0 0 0, Sv some_] [rd b r] (fun o H => o = .ret (.bool (nxt some_ r)) ∧ H = [rd b (aft some_ r)]) := by
  cases r with
  | nil => exact is_e b some_
  | cons c r =>
    by_cases hc : c ∈ some_
    · have := ris_c b r some_ c h hb hc
      rw [show nxt some_ (c :: r) = true by simp [nxt, hc], show aft some_ (c :: r) = r by simp [aft, hc]]
      exact this
    · have := is_n b r some_ c h hb hc
      rw [show nxt some_ (c :: r) = false by simp [nxt, hc], show aft some_ (c :: r) = c :: r by simp [aft, hc]]
      exact this
theorem aft_suf (some_ r : Bs) : aft some_ r <:+ r := by
  cases r with
  | nil => exact List.suffix_refl _
  | cons c r =>
    rw [aft]
    split
    · exact List.suffix_cons c r
    · exact List.suffix_refl _
theorem spc_idx (c : UInt8) : Lib.indexByte [93, 91, 58, 45] c < 0 ↔ Glob.spc c = false := by
  rw [idx_neg]
  simp [Glob.spc, and_assoc]
theorem char_c (b s r : Bs) (c : UInt8) (h : s <:+ b) (hb : b.length ≤ 1000) (hc : Glob.chr s = some (c, r)) : ACalls Tryz.prog 108 [.ptr 0 0 0] [rd b s] (fun o H => o = .ret (bv c) ∧ H = [rd b r]) := by
  refine ACalls.up ?_
  refine ACalls.intro (cs := []) (n := 16) Tryz.func108 rfl rfl rfl (by kernel_rfl) rfl ?_
  generalize hpost : (fun (o : Out) (H : Heap) => o = Out.ret (bv c) ∧ H = [rd b r]) = post
  have fin : ∀ d, d = c → ∀ Z, Up 1 post (.ret (bv d)) (rd b r :: Z) := fun d hd Z => .gc 1 (Nat.le_refl _) (by simp) rfl (by simp [rd_lt]) (.done (by rw [← hpost, hd]; exact ⟨rfl, rfl⟩))
  cases s with
  | nil => cases hc
  | cons a s =>
    have h2 := suf_tl h
    simp only [go_sem]
    refine rK_use (Go.AM.enters_of Tryz.func88 rfl (by decide)) (rtake_c b s a h hb) ?_
    simp only [go_sem]
    have ea : ((a.toNat : Int) = 92) ↔ a = 92 := ⟨fun e => UInt8.toNat_inj.1 (by simpa using Int.ofNat.inj e), fun e => by subst e; rfl⟩
    refine condD_dec (fun hd => ?_) (fun hd => ?_)
    · rw [ea] at hd
      cases s with
      | nil => simp [Glob.chr, hd] at hc
      | cons d s =>
        simp only [Glob.chr, if_pos hd, Option.some.injEq, Prod.mk.injEq] at hc
        obtain ⟨rfl, rfl⟩ := hc
        simp only [go_sem]
        refine rK_use (Go.AM.enters_of Tryz.func88 rfl (by decide)) (rtake_c b s d h2 hb) ?_
        simp only [go_sem]
        exact fin _ rfl []
    · rw [ea] at hd
      have hs : Glob.spc a = false := by
        cases h0 : Glob.spc a with
        | false => rfl
        | true => simp [Glob.chr, if_neg hd, h0] at hc
      simp only [Glob.chr, if_neg hd, hs, Bool.false_eq_true, if_false, Option.some.injEq, Prod.mk.injEq] at hc
      obtain ⟨rfl, rfl⟩ := hc
      simp only [go_sem]
      refine rK_use (Go.AM.enters_of Tryz.func125 rfl (by decide)) (ACalls.pure_use (idxByte_c [93, 91, 58, 45] a) rfl rfl) ?_
      have h3 := (spc_idx a).2 hs
      have h4 : ¬ Lib.indexByte [93, 91, 58, 45] a ≥ 0 := by omega
      simp only [go_sem,h4]
      exact fin _ rfl []
theorem char_n (b s : Bs) (h : s <:+ b) (hb : b.length ≤ 1000) (hc : Glob.chr s = none) : ACalls Tryz.prog 108 [.ptr 0 0 0] [rd b s] (fun o H => o = .pan noneV ∧ H = [.dead]) := by
  refine ACalls.up ?_
  refine ACalls.intro (cs := []) (n := 16) Tryz.func108 rfl rfl rfl (by kernel_rfl) rfl ?_
  generalize hpost : (fun (o : Out) (H : Heap) => o = Out.pan noneV ∧ H = [.dead]) = post
  have fin : ∀ X Z, Up 1 post (.pan noneV) (X :: Z) := fun X Z => .dead 0 (.gc 1 (Nat.le_refl _) (by simp) rfl (by simp [Blk.lt]) (.done (by rw [← hpost]; exact ⟨rfl, rfl⟩)))
  cases s with
  | nil =>
    simp only [go_sem]
    refine rK_pans (Go.AM.enters_of Tryz.func88 rfl (by decide)) (take_n b) ?_
    simp only [go_sem]
    exact fin _ []
  | cons a s =>
    have h2 := suf_tl h
    simp only [go_sem]
    refine rK_use (Go.AM.enters_of Tryz.func88 rfl (by decide)) (rtake_c b s a h hb) ?_
    simp only [go_sem]
    have ea : ((a.toNat : Int) = 92) ↔ a = 92 := ⟨fun e => UInt8.toNat_inj.1 (by simpa using Int.ofNat.inj e), fun e => by subst e; rfl⟩
    refine condD_dec (fun hd => ?_) (fun hd => ?_)
    · rw [ea] at hd
      cases s with
      | nil =>
        simp only [go_sem]
        refine rK_pans (Go.AM.enters_of Tryz.func88 rfl (by decide)) (take_n b) ?_
        simp only [go_sem]
        exact fin _ []
      | cons d s => simp [Glob.chr, if_pos hd] at hc
    · rw [ea] at hd
      have hs : Glob.spc a = true := by
        cases h0 : Glob.spc a with
        | true => rfl
        | false => simp [Glob.chr, if_neg hd, h0] at hc
      simp only [go_sem]
      refine rK_use (Go.AM.enters_of Tryz.func125 rfl (by decide)) (ACalls.pure_use (idxByte_c [93, 91, 58, 45] a) rfl rfl) ?_
      have h3 := mt (spc_idx a).1 (by simp [hs])
      have h4 : Lib.indexByte [93, 91, 58, 45] a ≥ 0 := by omega
      simp only [go_sem,h4]
      exact fin _ []
end Go.Proofs.YtigmnlnomhjecaaGreatDoor
set_option maxRecDepth 100000
set_option linter.unusedVariables false
set_option linter.unusedSimpArgs false
namespace Go.Proofs.YtigmnlnomhjecaaGreatDoor
open Go.AM
open Go.Glob (Bs EK)
def tab (n : Nat) (v : Nat → Bool) : List AV := (List.range n).map fun i => .bool (v i)
theorem tab_len (n : Nat) (v : Nat → Bool) : (tab n v).length = n := by simp [tab]
theorem tab_get {n i : Nat} (h : i < n) (v : Nat → Bool) : (tab n v)[i]? = some (.bool (v i)) := by simp [tab, h]
theorem tab_ext {n : Nat} {v w : Nat → Bool} (h : ∀ i, i < n → v i = w i) : tab n v = tab n w := List.map_congr_left fun i hi => by rw [h i (List.mem_range.1 hi)]
def upd (v : Nat → Bool) (i : Nat) (b : Bool) : Nat → Bool := fun j => if j = i then b else v j
theorem tab_set {n i : Nat} (v : Nat → Bool) (b : Bool) : (tab n v).set i (.bool b) = tab n (upd v i b) := by
  apply List.ext_getElem?
  intro k
  rw [List.getElem?_set]
  by_cases hk : k < n
  · rw [tab_get hk]
    by_cases e : i = k
    · subst e; rw [if_pos rfl, if_pos (by rw [tab_len]; exact hk), tab_get hk]; simp [upd]
    · have e' : ¬ k = i := fun h => e h.symm
      simp [e, tab_get hk, upd, e']
  · have h1 : (tab n (upd v i b))[k]? = none := List.getElem?_eq_none (by rw [tab_len]; omega)
    have h2 : (tab n v)[k]? = none := List.getElem?_eq_none (by rw [tab_len]; omega)
    rw [h1, h2]
    split <;> simp [tab_len]
    omega
theorem tab_put {n c : Nat} (h : c < n) (v : Nat → Bool) (b : Bool) : List.take c (tab n v) ++ AV.bool b :: List.drop (c + 1) (tab n v) = tab n (upd v c b) := by
  rw [← tab_set, List.set_eq_take_append_cons_drop, if_pos (by rw [tab_len]; exact h)]
theorem tab_lt (n m : Nat) (v : Nat → Bool) : ltL m (tab n v) = true := by
  unfold tab
  induction List.range n with
  | nil => rfl
  | cons x l ih => simp [ltL, AV.lt, ih]
theorem tab_pure (n : Nat) (v : Nat → Bool) : ∀ row ∈ [tab n v], ∀ x ∈ row, x.pure = true := by
  intro row hr x hx
  simp at hr
  subst hr
  obtain ⟨k, _, rfl⟩ := List.mem_map.1 hx
  rfl
theorem tab_one (n : Nat) (v : Nat → Bool) : (tab n v).all AV.one = true := by simp [tab, AV.one]
def setT (h : UInt8 → Bool) : Nat → Bool := fun i => h (UInt8.ofNat i)
def ekF : EK → AV
  | .star => .nilfunc
  | .any => .func (.func 89) [] []
  | .set h n => .func (.func 109) [] [.cptr (tab 256 (setT h)) 0, .cptr [.bool n] 0]
  | .one c => .func (.func 110) [] [.cptr [bv c] 0]
def ekS : EK → Bool
  | .star => true
  | _ => false
def ekR (e : EK) : List AV := [.bool (ekS e), ekF e]
theorem ekS_el (e : EK) : e.el.star = ekS e := by cases e <;> rfl
theorem ekF_lt (e : EK) (m : Nat) : (ekF e).lt m = true := by cases e <;> rfl
theorem ekR_lt (e : EK) (m : Nat) : ltL m (ekR e) = true := by simp [ekR, ltL, ekF_lt, AV.lt]
theorem u8_beq (d c : UInt8) : (d == c) = decide ((d.toNat : Int) = (c.toNat : Int)) := by
  rw [Bool.eq_iff_iff, decide_eq_true_iff, beq_iff_eq]
  exact ⟨fun h => by rw [h], fun h => UInt8.toNat_inj.1 (Int.ofNat.inj h)⟩
theorem single_c (c : UInt8) : ACalls Tryz.prog 91 [bv c] [] (fun o H => o = .ret (ekF (.one c)) ∧ H = []) := by
  refine ACalls.up ?_
  refine ACalls.intro (cs := []) (n := 4) Tryz.func91 rfl rfl rfl (by kernel_rfl) rfl ?_
  simp only [go_sem]
  refine up_one 0 1 [[bv c]] rfl (by simp [ltL, AV.lt]) (by simp [Out.fzOk, AV.fzOk, fzOkL]) (by simp [Out.fz, AV.fz, fzL, Out.lt, AV.lt, ltL]) ⟨?_, rfl⟩
  simp [Out.fz, AV.fz, fzL, ekF]
theorem has_one (c d : UInt8) : ACalls Tryz.prog 110 [bv d, .cptr [bv c] 0] [] (fun o H => o = .ret (.bool (d == c)) ∧ H = []) := by
  refine ACalls.up ?_
  refine ACalls.intro (cs := []) (n := 7) Tryz.func110 rfl rfl rfl (by kernel_rfl) rfl ?_
  simp only [go_sem]
  refine finv rfl ⟨?_, rfl⟩ _
  rw [u8_beq]
theorem has_any (d : UInt8) : ACalls Tryz.prog 89 [bv d] [] (fun o H => o = .ret (.bool true) ∧ H = []) := by
  refine ACalls.up ?_
  refine ACalls.intro (cs := []) (n := 3) Tryz.func89 rfl rfl rfl (by kernel_rfl) rfl ?_
  simp only [go_sem]
  exact finv rfl ⟨rfl, rfl⟩ _
theorem has_set (h : UInt8 → Bool) (n : Bool) (d : UInt8) : ACalls Tryz.prog 109 [bv d, .cptr (tab 256 (setT h)) 0, .cptr [.bool n] 0] [] (fun o H => o = .ret (.bool (h d != n)) ∧ H = []) := by
  refine ACalls.up ?_
  refine ACalls.intro (cs := []) (n := 10) Tryz.func109 rfl rfl rfl (by kernel_rfl) rfl ?_
  have hd := d.toNat_lt
  have g : (0 : Int) ≤ (d.toNat : Int) ∧ (d.toNat : Int) < 256 := by omega
  simp only [go_sem]
  refine draw [.qu 0 0, .qu 0 0, .qu 0 0, .qu 0 0, .qu 0 0, .qu 0 0] (by kernel_rfl) (by kernel_rfl) ?_
  simp only [go_sem,g,tab_get (show d.toNat < 256 by omega),tab_len]
  exact finv rfl ⟨by simp [setT], rfl⟩ _
theorem negs_is (s : Bs) : Glob.negs s = (nxt [33, 94] s, aft [33, 94] s) := by
  cases s with
  | nil => rfl
  | cons c r => by_cases h : c = 33 ∨ c = 94 <;> simp [Glob.negs, nxt, aft, h]
theorem restI_no {s : Bs} (h : UInt8 → Bool) (hn : nxt [93] s = false) : Glob.restI h s = Glob.itms s h ∧ aft [93] s = s := by
  cases s with
  | nil => exact ⟨rfl, rfl⟩
  | cons c r =>
    have hc : ¬ c = 93 := by simpa [nxt] using hn
    exact ⟨by rw [Glob.restI, if_neg hc, Glob.itms]; rfl, by simp [aft, hc]⟩
theorem restI_yes {s : Bs} (h : UInt8 → Bool) (hn : nxt [93] s = true) : Glob.restI h s = some (h, aft [93] s) := by
  cases s with
  | nil => simp [nxt] at hn
  | cons c r =>
    have hc : c = 93 := by simpa [nxt] using hn
    subst hc
    simp [Glob.restI, aft]
def setO (b s : Bs) : Out × Heap := match Glob.setK s with
  | some (e, r) => (.ret (ekF e), [rd b r])
  | none => (.pan noneV, [.dead])
theorem setO_eq (b s : Bs) : setO b s = match Glob.itms (aft [33, 94] s) (fun _ => false) with
  | some (h, r) => (.ret (ekF (.set h (nxt [33, 94] s))), [rd b r])
  | none => (.pan noneV, [.dead]) := by
  rw [setO, Glob.setK_eq, negs_is]
  cases Glob.itms (aft [33, 94] s) (fun _ => false) <;> rfl
theorem set_end {post : CQ} (b r : Bs) (v : Nat → Bool) (n : Bool) (h : post (.ret (.func (.func 109) [] [.cptr (tab 256 v) 0, .cptr [.bool n] 0])) [rd b r]) :
    Up 1 post (.ret (.func (.func 109) [] [.ptr 2 0 0, .ptr 1 0 0])) [rd b r, .rows 1 [[.bool n]], .rows 256 [tab 256 v]] := by
  refine .fz 2 256 [tab 256 v] rfl (tab_pure _ _) (by simp [Out.fzOk, AV.fzOk, fzOkL]) (by simp [Blk.fzOk, fzOkL, AV.fzOk, rd]) ?_
  refine .fz 1 1 [[.bool n]] rfl (by simp [AV.lt]) (by simp [Out.fz, AV.fz, fzL, Out.fzOk, AV.fzOk, fzOkL]) (by simp [Blk.fzOk, fzOkL, AV.fzOk, rd, Blk.fz, AV.fz]) ?_
  refine .gc 1 (Nat.le_refl _) (by simp) (by simp [Out.fz, AV.fz, fzL, Out.lt, AV.lt, ltL]) (by simp [Blk.fz, AV.fz, rd, Blk.lt, ltL, AV.lt]) (.done ?_)
  simpa [Out.fz, AV.fz, fzL, Blk.fz, rd] using h
theorem set_out {post : CQ} (X : Blk) (Z : Heap) (h : post (.pan noneV) [.dead]) : Up 1 post (.pan noneV) (X :: Z) := .dead 0 (.gc 1 (Nat.le_refl _) (by simp) rfl (by simp [Blk.lt]) (.done h))
theorem rdU {f : FuncId} {args : List AV} {b s r : Bs} {v : AV} (hc : ACalls Tryz.prog f (.ptr 0 0 0 :: args) [rd b s] fun o H => o = .ret v ∧ H = [rd b r]) (ha : ltL 0 args = true) (hv : v.lt 0 = true) (Z : Heap) : ACalls Tryz.prog f (.ptr 0 0 0 :: args) (rd b s :: Z) fun o H => o = .ret v ∧ H = rd b r :: Z :=
  hc.useE [0] v (rd b r :: Z) (by simp) rfl (by simp) (by simp [Blk.ren, AV.ren, rd, pi]) (by rw [List.map_cons, renL_pure' ha]; simp [AV.ren, pi]) (ren_pure hv) (by simp [patch, setMany, Blk.ren, AV.ren, rd])
theorem rdPan {f : FuncId} {args : List AV} {b s : Bs} {v : AV} (hc : ACalls Tryz.prog f (.ptr 0 0 0 :: args) [rd b s] fun o H => o = .pan v ∧ H = [.dead]) (ha : ltL 0 args = true) (hv : v.lt 0 = true) (Z : Heap) : ACalls Tryz.prog f (.ptr 0 0 0 :: args) (rd b s :: Z) fun o H => o = .pan v ∧ H = .dead :: Z :=
  hc.panE [0] v (.dead :: Z) (by simp) rfl (by simp) (by simp [Blk.ren, AV.ren, rd, pi]) (by rw [List.map_cons, renL_pure' ha]; simp [AV.ren, pi]) (ren_pure hv) (by simp [patch, setMany, Blk.ren])
theorem u8_of (n : Nat) (h : n < 256) : (UInt8.ofNat n).toNat = n := by simp; omega
theorem rset_c (b s : Bs) (hs : s <:+ b) (hb : b.length ≤ 1000) : ACalls Tryz.prog 90 [.ptr 0 0 0] [rd b s] (fun o H => (o, H) = setO b s) := by
  refine ACalls.up ?_
  refine ACalls.intro (cs := [6, 10]) (n := 35) Tryz.func90 rfl rfl rfl (by kernel_rfl) rfl ?_
  generalize hpost : (fun (o : Out) (H : Heap) => (o, H) = setO b s) = post
  simp only [go_sem]
  refine rK_use (Go.AM.enters_of Tryz.func107 rfl (by decide)) (isS_c b s [33, 94] hs hb) ?_
  simp only [go_sem]
  rw [setO_eq] at hpost
  have hs0 := (aft_suf [33, 94] s).trans hs
  generalize nxt [33, 94] s = n at *
  generalize aft [33, 94] s = s0 at *
  refine loop_fam (fun q : Bool × (UInt8 → Bool) × Bs => ((((Ch.nil.put 0 (.ptr 0 0 0)).put 3 (.ptr 1 0 0)).put 4 (.ptr 2 0 0)).put 5 (.bool q.1)))
    (fun q => [rd b q.2.2, .rows 1 [[.bool n]], .rows 256 [tab 256 (setT q.2.1)]]) (fun q => q.2.2.length) (fun q => q.2.2 <:+ b ∧ Glob.itms s0 (fun _ => false) = if q.1 = true then Glob.itms q.2.2 q.2.1 else Glob.restI q.2.1 q.2.2) (true, (fun _ => false), s0) (by kernel_rfl)
    ⟨hs0, rfl⟩ (Wk.slots' rfl (by simp [wkS, Ch.get])) ?_
  rintro ⟨first, h, s1⟩ ⟨hs1, hinv⟩ K hK
  simp only at hs1 hinv
  simp only [go_sem]
  have hend : ∀ h' r, Glob.itms s0 (fun _ => false) = some (h', r) → Up 1 post (.ret (.func (.func 109) [] [.ptr 2 0 0, .ptr 1 0 0])) [rd b r, .rows 1 [[.bool n]], .rows 256 [tab 256 (setT h')]] := fun h' r e => set_end b r _ n (by rw [← hpost, e]; rfl)
  have hout : Glob.itms s0 (fun _ => false) = none → ∀ X Z, Up 1 post (.pan noneV) (X :: Z) := fun e X Z => set_out X Z (by rw [← hpost, e])
  refine seq_cut (fun _ : Unit => ((Ch.nil.put 0 (.ptr 0 0 0)).put 3 (.ptr 1 0 0)).put 4 (.ptr 2 0 0)) (fun _ => [rd b s1, .rows 1 [[.bool n]], .rows 256 [tab 256 (setT h)]]) (fun _ => Glob.itms s0 (fun _ => false) = Glob.itms s1 h) (by kernel_rfl) ?_ ?_
  · intro K2 hK2
    cases first with
    | true =>
      simp only [go_sem]
      exact hK2 () _ _ hinv (Wk.slots' rfl (by simp [wkS, Ch.get]))
    | false =>
      simp only [go_sem]
      have hinv : Glob.itms s0 (fun _ => false) = Glob.restI h s1 := hinv
      refine rK_use (Go.AM.enters_of Tryz.func107 rfl (by decide)) ((isS_c b s1 [93] hs1 hb).useE [0] (.bool (nxt [93] s1)) [rd b (aft [93] s1), .rows 1 [[.bool n]], .rows 256 [tab 256 (setT h)]] (by simp) rfl (by simp) (by simp [Blk.ren, AV.ren, rd, pi]) (by simp [AV.ren, pi]) rfl (by simp [patch, setMany, Blk.ren, AV.ren, rd])) ?_
      simp only [go_sem]
      refine condD_bool (fun hd => ?_) (fun hd => ?_)
      · have hd : nxt [93] s1 = false := by simpa using hd
        simp only [go_sem]
        obtain ⟨e1, e2⟩ := restI_no h hd
        rw [e2]
        exact hK2 () _ _ (by rw [hinv, e1]) (Wk.slots' rfl (by simp [wkS, Ch.get]))
      · have hd : nxt [93] s1 = true := by simpa using hd
        simp only [go_sem]
        exact hend h _ (by rw [hinv, restI_yes h hd])
  · rintro _ hi
    rw [Glob.itms_step s1 h, Glob.item] at hi
    simp only [go_sem]
    cases hc : Glob.chr s1 with
    | none =>
      refine rK_pans (Go.AM.enters_of Tryz.func108 rfl (by decide)) (rdPan (char_n b s1 hs1 hb hc) rfl rfl _) ?_
      simp only [go_sem]
      exact hout (by rw [hi, hc]) _ _
    | some y =>
    obtain ⟨lo, r1⟩ := y
    rw [hc] at hi
    simp only at hi
    obtain ⟨t1, ht1, hst1, _⟩ := Glob.chr_loc hc
    have hr1 : r1 <:+ b := List.IsSuffix.trans ⟨t1, hst1.symm⟩ hs1
    refine rK_use (Go.AM.enters_of Tryz.func108 rfl (by decide)) (rdU (char_c b s1 r1 lo hs1 hb hc) rfl rfl _) ?_
    simp only [go_sem]
    refine seq_cut (fun q : UInt8 × Bs => ((((Ch.nil.put 0 (.ptr 0 0 0)).put 3 (.ptr 1 0 0)).put 4 (.ptr 2 0 0)).put 6 (bv lo)).put 7 (bv q.1)) (fun q => [rd b q.2, .rows 1 [[.bool n]], .rows 256 [tab 256 (setT h)]])
      (fun q => Glob.item s1 h = some (Glob.rng lo q.1 h, q.2) ∧ q.2 <:+ b) (by kernel_rfl) ?_ ?_
    · intro K2 hK2
      simp only [go_sem]
      refine rK_use (Go.AM.enters_of Tryz.func107 rfl (by decide)) (rdU (isS_c b r1 [45] hr1 hb) rfl rfl _) ?_
      simp only [go_sem]
      refine condD_bool (fun hd => ?_) (fun hd => ?_)
      · cases r1 with
        | nil => simp [nxt] at hd
        | cons c r2 =>
          have hc45 : c = 45 := by simpa [nxt] using hd
          subst hc45
          have ha : aft [45] (45 :: r2) = r2 := by simp [aft]
          simp only [go_sem,ha]
          have hr2 := suf_tl hr1
          cases hc2 : Glob.chr r2 with
          | none =>
            refine rK_pans (Go.AM.enters_of Tryz.func108 rfl (by decide)) (rdPan (char_n b r2 hr2 hb hc2) rfl rfl _) ?_
            simp only [go_sem]
            exact hout (by rw [hi]; simp [Glob.tail, hc2]) _ _
          | some y =>
            obtain ⟨hi2, r3⟩ := y
            obtain ⟨t2, ht2, hst2, _⟩ := Glob.chr_loc hc2
            have hr3 : r3 <:+ b := List.IsSuffix.trans ⟨t2, hst2.symm⟩ hr2
            refine rK_use (Go.AM.enters_of Tryz.func108 rfl (by decide)) (rdU (char_c b r2 r3 hi2 hr2 hb hc2) rfl rfl _) ?_
            simp only [go_sem]
            exact hK2 (hi2, r3) _ _ ⟨by rw [Glob.item, hc]; simp [Glob.tail, hc2], hr3⟩ (Wk.slots' rfl (by simp [wkS, Ch.get]))
      · have ha : aft [45] r1 = r1 ∧ Glob.tail lo h r1 = some (Glob.rng lo lo h, r1) := by
          cases r1 with
          | nil => exact ⟨rfl, rfl⟩
          | cons c r2 =>
            have hc45 : ¬ c = 45 := by simpa [nxt] using hd
            exact ⟨by simp [aft, hc45], by simp [Glob.tail, hc45]⟩
        simp only [go_sem,ha.1]
        exact hK2 (lo, r1) _ _ ⟨by rw [Glob.item, hc]; exact ha.2, hr1⟩ (Wk.slots' rfl (by simp [wkS, Ch.get]))
    · rintro ⟨hi2, r3⟩ ⟨hit, hr3⟩
      have hi' : Glob.itms s0 (fun _ => false) = Glob.restI (Glob.rng lo hi2 h) r3 := by
        rw [hi]
        rw [Glob.item, hc] at hit
        simp only at hit ⊢
        rw [hit]
      have hlen := Glob.item_len hit
      have hlo := lo.toNat_lt
      have hhi := hi2.toNat_lt
      simp only [go_sem]
      have e0 : iw .i64 (lo.toNat : Int) = lo.toNat := by rw [iw64] <;> omega
      have e1 : iw .i64 (hi2.toNat : Int) = hi2.toNat := by rw [iw64] <;> omega
      simp only [go_sem,e0]
      refine loop_fam (fun c : Nat => (((((Ch.nil.put 0 (.ptr 0 0 0)).put 3 (.ptr 1 0 0)).put 4 (.ptr 2 0 0)).put 7 (bv hi2)).put 8 (iv c)))
        (fun c => [rd b r3, .rows 1 [[.bool n]], .rows 256 [tab 256 (fun j => setT h j || decide (lo.toNat ≤ j ∧ j < c))]]) (fun c => 256 - c) (fun c => lo.toNat ≤ c ∧ c ≤ 256 ∧ (c ≤ lo.toNat ∨ c ≤ hi2.toNat + 1)) lo.toNat (by kernel_rfl)
        ⟨Nat.le_refl _, by omega, .inl (Nat.le_refl _)⟩ (Wk.slots' ?_ (by simp [wkS, Ch.get])) ?_
      · congr 5
        refine tab_ext fun j hj => ?_
        have : ¬ (lo.toNat ≤ j ∧ j < lo.toNat) := by omega
        simp [this]
      rintro c ⟨hc1, hc2, hc3⟩ K3 hK3
      simp only [go_sem,e1]
      refine condD_dec (fun hd => ?_) (fun hd => ?_)
      · have g : (0 : Int) ≤ (c : Int) ∧ (c : Int) < 256 := by omega
        have e2 : iw .i64 ((c : Int) + 1) = ((c + 1 : Nat) : Int) := by rw [iw64] <;> omega
        have g3 : c ≤ 255 := by omega
        simp only [go_sem,g,tab_len,g3,tab_put (show c < 256 by omega),e2]
        refine hK3 (c + 1) _ _ ⟨by omega, by omega, by omega⟩ (by omega) (Wk.slots' ?_ (by simp [wkS, Ch.get]))
        congr 5
        refine tab_ext fun j hj => ?_
        unfold upd
        split
        · rename_i e; subst e; simp [hc1]
        · rename_i e
          have : (lo.toNat ≤ j ∧ j < c + 1) ↔ (lo.toNat ≤ j ∧ j < c) := by omega
          simp only [this]
      · simp only [go_sem]
        refine hK (false, Glob.rng lo hi2 h, r3) _ _ ⟨hr3, hi'⟩ hlen (Wk.slots' ?_ (by simp [wkS, Ch.get]))
        congr 5
        refine tab_ext fun j hj => ?_
        have hj' := u8_of j hj
        have : (lo.toNat ≤ j ∧ j < c) ↔ (lo ≤ UInt8.ofNat j ∧ UInt8.ofNat j ≤ hi2) := by
          rw [UInt8.le_iff_toNat_le, UInt8.le_iff_toNat_le, hj']
          omega
        simp only [setT, Glob.rng, this, Bool.decide_and]
end Go.Proofs.YtigmnlnomhjecaaGreatDoor
set_option maxRecDepth 100000
set_option linter.unusedVariables false
set_option linter.unusedSimpArgs false
namespace Go.Proofs.YtigmnlnomhjecaaGreatDoor
open Go.AM
open Go.Glob (Bs EK)
theorem set_ok {b s r : Bs} {e : EK} (hs : s <:+ b) (hb : b.length ≤ 1000) (h : Glob.setK s = some (e, r)) : ACalls Tryz.prog 90 [.ptr 0 0 0] [rd b s] (fun o H => o = .ret (ekF e) ∧ H = [rd b r]) :=
  (rset_c b s hs hb).mono fun o H e => by rw [setO, h] at e; exact Prod.mk.inj e
theorem set_no {b s : Bs} (hs : s <:+ b) (hb : b.length ≤ 1000) (h : Glob.setK s = none) : ACalls Tryz.prog 90 [.ptr 0 0 0] [rd b s] (fun o H => o = .pan noneV ∧ H = [.dead]) :=
  (rset_c b s hs hb).mono fun o H e => by rw [setO, h] at e; exact Prod.mk.inj e
def elO (b s : Bs) : Out × Heap := match Glob.elK s with
  | some (e, r) => (.ret (.agg (ekR e)), [rd b r])
  | none => (.pan noneV, [.dead])
theorem u8_i (a : UInt8) (k : Nat) (hk : k < 256) : ((a.toNat : Int) = (k : Int)) ↔ a = UInt8.ofNat k :=
  ⟨fun e => UInt8.toNat_inj.1 (by rw [u8_of k hk]; exact Int.ofNat.inj e), fun e => by rw [e, u8_of k hk]⟩
theorem element_c (b s : Bs) (hs : s <:+ b) (hb : b.length ≤ 1000) : ACalls Tryz.prog 66 [.ptr 0 0 0] [rd b s] (fun o H => (o, H) = elO b s) := by
  refine ACalls.up ?_
  refine ACalls.intro (cs := []) (n := 32) Tryz.func66 rfl rfl rfl (by kernel_rfl) rfl ?_
  generalize hpost : (fun (o : Out) (H : Heap) => (o, H) = elO b s) = post
  have fin : ∀ e r, Glob.elK s = some (e, r) → ∀ x y, x = .bool (ekS e) → y = ekF e → ∀ Z, Up 1 post (.ret (.agg [x, y])) (rd b r :: Z) := fun e r h x y hx hy Z => by
    subst hx hy
    exact .gc 1 (Nat.le_refl _) (by simp) (by simp [Out.lt, AV.lt, ltL, ekF_lt]) (by simp [rd_lt]) (.done (by rw [← hpost, elO, h]; rfl))
  have hout : Glob.elK s = none → ∀ X Z, Up 1 post (.pan noneV) (X :: Z) := fun e X Z => set_out X Z (by rw [← hpost, elO, e])
  simp only [go_sem]
  cases s with
  | nil =>
    refine rK_pans (Go.AM.enters_of Tryz.func88 rfl (by decide)) (rdPan (take_n b) rfl rfl _) ?_
    simp only [go_sem]
    exact hout rfl _ _
  | cons c r =>
    have hr := suf_tl hs
    rw [Glob.elK_cons] at fin hout
    refine rK_use (Go.AM.enters_of Tryz.func88 rfl (by decide)) (rdU (rtake_c b r c hs hb) rfl rfl _) ?_
    simp only [go_sem]
    have e1 : ((c.toNat : Int) = 42) ↔ c = 42 := u8_i c 42 (by decide)
    have e2 : ((c.toNat : Int) = 63) ↔ c = 63 := u8_i c 63 (by decide)
    have e3 : ((c.toNat : Int) = 91) ↔ c = 91 := u8_i c 91 (by decide)
    have e4 : ((c.toNat : Int) = 92) ↔ c = 92 := u8_i c 92 (by decide)
    have e5 : ((c.toNat : Int) = 93) ↔ c = 93 := u8_i c 93 (by decide)
    have e6 : ((c.toNat : Int) = 58) ↔ c = 58 := u8_i c 58 (by decide)
    refine condD_dec (fun hd => ?_) (fun hd => ?_)
    · simp only [go_sem]
      exact fin .star r (by rw [if_pos (e1.1 hd)]) _ _ rfl rfl _
    have h1 := mt e1.2 hd
    simp only [if_neg h1] at fin hout
    simp only [go_sem]
    refine condD_dec (fun hd => ?_) (fun hd => ?_)
    · simp only [go_sem]
      exact fin .any r (by rw [if_pos (e2.1 hd)]) _ _ rfl rfl _
    have h2 := mt e2.2 hd
    simp only [if_neg h2] at fin hout
    simp only [go_sem]
    refine condD_dec (fun hd => ?_) (fun hd => ?_)
    · simp only [go_sem]
      simp only [if_pos (e3.1 hd)] at fin hout
      cases hk : Glob.setK r with
      | none =>
        refine rK_pans (Go.AM.enters_of Tryz.func90 rfl (by decide)) (rdPan (set_no hr hb hk) rfl rfl _) ?_
        simp only [go_sem]
        exact hout hk _ _
      | some y =>
        obtain ⟨e, r2⟩ := y
        obtain ⟨h', n', rfl⟩ : ∃ h' n', e = EK.set h' n' := by
          have hk2 := hk
          rw [Glob.setK] at hk2
          cases hi : Glob.items (Glob.negs r).2.length (Glob.negs r).2 (fun _ => false) with
          | none => rw [hi] at hk2; cases hk2
          | some z => rw [hi] at hk2; cases hk2; exact ⟨_, _, rfl⟩
        refine rK_use (Go.AM.enters_of Tryz.func90 rfl (by decide)) (rdU (set_ok hr hb hk) rfl rfl _) ?_
        simp only [go_sem,ekF]
        exact fin (.set h' n') r2 hk _ _ rfl rfl _
    have h3 := mt e3.2 hd
    simp only [if_neg h3] at fin hout
    simp only [go_sem]
    refine condD_dec (fun hd => ?_) (fun hd => ?_)
    · simp only [if_pos (e4.1 hd)] at fin hout
      simp only [go_sem]
      cases r with
      | nil =>
        refine rK_pans (Go.AM.enters_of Tryz.func88 rfl (by decide)) (rdPan (take_n b) rfl rfl _) ?_
        simp only [go_sem]
        exact hout rfl _ _
      | cons d r2 =>
        refine rK_use (Go.AM.enters_of Tryz.func88 rfl (by decide)) (rdU (rtake_c b r2 d hr hb) rfl rfl _) ?_
        simp only [go_sem]
        refine rK_use (Go.AM.enters_of Tryz.func91 rfl (by decide)) (ACalls.pure_use (single_c d) rfl rfl) ?_
        simp only [go_sem,ekF]
        exact fin (.one d) r2 rfl _ _ rfl rfl _
    have h4 := mt e4.2 hd
    simp only [if_neg h4] at fin hout
    simp only [go_sem]
    refine condD_dec (fun hd => ?_) (fun hd => ?_)
    · simp only [go_sem,eq_true hd]
      exact hout (by rw [if_pos (.inl (e5.1 hd))]) _ _
    have h5 := mt e5.2 hd
    simp only [go_sem]
    refine condD_dec (fun hd => ?_) (fun hd => ?_)
    · simp only [go_sem]
      exact hout (by rw [if_pos (.inr (e6.1 hd))]) _ _
    have h6 := mt e6.2 hd
    simp only [go_sem]
    refine rK_use (Go.AM.enters_of Tryz.func91 rfl (by decide)) (ACalls.pure_use (single_c c) rfl rfl) ?_
    simp only [go_sem,ekF]
    exact fin (.one c) r (by rw [if_neg (fun h => h.elim h5 h6)]) _ _ rfl rfl _
theorem elem_ok {b s r : Bs} {e : EK} (hs : s <:+ b) (hb : b.length ≤ 1000) (h : Glob.elK s = some (e, r)) : ACalls Tryz.prog 66 [.ptr 0 0 0] [rd b s] (fun o H => o = .ret (.agg (ekR e)) ∧ H = [rd b r]) :=
  (element_c b s hs hb).mono fun o H e => by rw [elO, h] at e; exact Prod.mk.inj e
theorem elem_no {b s : Bs} (hs : s <:+ b) (hb : b.length ≤ 1000) (h : Glob.elK s = none) : ACalls Tryz.prog 66 [.ptr 0 0 0] [rd b s] (fun o H => o = .pan noneV ∧ H = [.dead]) :=
  (element_c b s hs hb).mono fun o H e => by rw [elO, h] at e; exact Prod.mk.inj e
theorem outP_c (x : Int) : ACalls Tryz.prog 64 [.int .i32 x] [] (fun o H => o = .ret (.bool (decide (x < 33 ∨ 126 < x))) ∧ H = []) := by
  refine ACalls.up ?_
  refine ACalls.intro (cs := []) (n := 9) Tryz.func64 rfl rfl rfl (by kernel_rfl) rfl ?_
  generalize hpost : (fun (o : Out) (H : Heap) => o = Out.ret (.bool (decide (x < 33 ∨ 126 < x))) ∧ H = []) = post
  simp only [go_sem]
  refine gD_dec (fun hd => ?_) (fun hd => ?_)
  · simp only [go_sem,eq_true hd]
    exact finv rfl (by rw [← hpost]; simp [hd]) _
  · simp only [go_sem,hd]
    exact finv rfl (by rw [← hpost]; simp [hd]) _
def bad (c : UInt8) : Bool := decide ((c.toNat : Int) < 33 ∨ 126 < (c.toNat : Int))
def badI : Bs → Int → Int
  | [], _ => -1
  | c :: r, i => if bad c = true then i else badI r (i + 1)
theorem decA_ok {b : Bs} {i : Nat} {c : UInt8} (hc : b[i]? = some c) (h : c.toNat < 128) : Utf8.decode ⟨b.toArray⟩ i = (c.toNat, 1) := by
  obtain ⟨h1, h2⟩ := List.getElem?_eq_some_iff.1 hc
  have e : (ByteArray.mk b.toArray)[i]'h1 = c := h2
  rw [decode_ascii ⟨b.toArray⟩ i h1 (by rw [e]; exact h), e]
theorem dec_hi {b : Bs} {i : Nat} {c : UInt8} (hc : b[i]? = some c) (h : 128 ≤ c.toNat) : 128 ≤ (Utf8.decode ⟨b.toArray⟩ i).1 := by
  obtain ⟨h1, h2⟩ := List.getElem?_eq_some_iff.1 hc
  have e : (ByteArray.mk b.toArray)[i]'h1 = c := h2
  exact (decode_high ⟨b.toArray⟩ i h1 (by rw [e]; exact h)).1
theorem SWp.loop_fam {P : Program} {n : Nat} {D : Fx} {body : Code} {Q : XQ} {s : Ch} {H : Heap} {A : Type} (st : A → Ch) (hp : A → Heap) (μ : A → Nat) (inv : A → Prop) (a0 : A) (h0 : inv a0) (hw : Wk D.B n s H (st a0) (hp a0))
    (step : ∀ a, inv a → ∀ K : KQ, (∀ a' s' H', inv a' → μ a' < μ a → Wk D.B n s' H' (st a') (hp a') → K s' H') → SWp P n D body (thenX K Q) (st a) (hp a)) : SWp P n D (.loop body) Q s H := by
  have key : ∀ (k : Nat) (a : A) (s : Ch) (H : Heap), μ a < k → inv a → Wk D.B n s H (st a) (hp a) → rounds (SWp P n D body) Q k s H := by
    intro k
    induction k with
    | zero => intro a s H h; exact absurd h (Nat.not_lt_zero _)
    | succ k ih =>
      intro a s H hlt hi hw
      exact rounds_wk hw (step a hi _ fun a' s' H' hi' hm hw' => ih a' s' H' (by omega) hi' hw')
  exact SWp.loop (k := μ a0 + 1) (key _ a0 s H (Nat.lt_succ_self _) h0 hw)
theorem idxF_c (b : Bs) (hb : b.length ≤ 1000000) : ACalls Tryz.prog 106 [Sv b, .func (.func 64) [] [], .bool true] [] (fun o H => o = .ret (iv (badI b 0)) ∧ H = []) := by
  refine ACalls.up ?_
  refine ACalls.intro (cs := [1]) (n := 21) Tryz.func106 rfl rfl rfl (by kernel_rfl) rfl ?_
  generalize hpost : (fun (o : Out) (H : Heap) => o = Out.ret (iv (badI b 0)) ∧ H = []) = post
  have fin : ∀ n H, n = badI b 0 → Up 0 post (.ret (iv n)) H := fun n H h => finv rfl (by rw [← hpost, ← h]; exact ⟨rfl, rfl⟩) H
  simp only [go_sem]
  refine seq_cutS (fun _ : Unit => ((Ch.nil.put 0 (Sv b)).put 1 (.func (.func 64) [] [])).put 2 (.bool true)) (fun _ => []) (fun _ => True) ?_ ?_
  · intro K hK
    simp only [go_sem]
    exact hK () _ _ trivial (Wk.slots' rfl (by simp [wkS, Ch.get]))
  intro _ _
  refine SWp.seq (K := fun s' H' => badI b 0 = -1) ?_ ?_
  · refine SWp.seq (K := fun s' H' => Wk 0 21 s' H' ((((Ch.nil.put 0 (Sv b)).put 1 (.func (.func 64) [] [])).put 2 (.bool true)).put 10 (.ptr 0 0 0)) [.raw (fun o => o = .stringIter ⟨b.toArray⟩ 0)]) ?_ ?_
    · refine SOpsC.region (SOpsC.val rfl rfl rfl rfl ?_)
      simp only [go_sem,valP]
      refine SOpsC.rng rfl rfl rfl rfl (by kernel_rfl) (by simp [cev, Ch.get]; rfl) (SOpsC.done ?_)
      exact (show Wk _ _ _ _ _ _ from Wk.slots' rfl (by simp [wkS, Ch.get, Ch.put?, cev]))
    · intro s' H' hw
      refine SWp.block (SWp.loop_fam (fun _ : Nat => (((Ch.nil.put 0 (Sv b)).put 1 (.func (.func 64) [] [])).put 2 (.bool true)).put 10 (.ptr 0 0 0)) (fun i => [.raw (fun o => o = .stringIter ⟨b.toArray⟩ i)]) (fun i => b.length - i) (fun i => i ≤ b.length ∧ badI b 0 = badI (b.drop i) i) 0 ⟨Nat.zero_le _, rfl⟩ hw ?_)
      rintro i ⟨hi, hx⟩ K hK
      by_cases hlt : i < b.length
      · obtain ⟨c, hc⟩ := at_lt hlt
        rw [Go.AM.drop_at hc, badI] at hx
        refine SWp.seq (K := fun s' H' => Wk 0 21 s' H' ((((((Ch.nil.put 0 (Sv b)).put 1 (.func (.func 64) [] [])).put 2 (.bool true)).put 10 (.ptr 0 0 0)).put 11 (.tuple [.bool true, .int .i64 i, .int .i32 (Utf8.decode ⟨b.toArray⟩ i).1])).put 12 (.bool true)) [.raw (fun o => o = .stringIter ⟨b.toArray⟩ (i + (Utf8.decode ⟨b.toArray⟩ i).2))]) ?_ ?_
        · refine SOpsC.region (SOpsC.next rfl rfl rfl rfl rfl rfl hlt (SOpsC.val rfl rfl rfl rfl ?_))
          simp only [go_sem,valP]
          exact SOpsC.done (show Wk _ _ _ _ _ _ from Wk.slots' rfl (by simp [wkS, Ch.get, Ch.put?, cev]))
        · intro s' H' hw
          refine SWp.wk hw (cwp_sound _ (by kernel_rfl) _ _ _ ?_)
          generalize hR : Utf8.decode ⟨b.toArray⟩ i = R
          simp only [go_sem]
          refine rK_use (Go.AM.enters_of Tryz.func64 rfl (by decide)) (ACalls.pure_use (outP_c R.1) rfl rfl) ?_
          simp only [go_sem]
          have hcases : (bad c = true ∧ (((R.1 : Nat) : Int) < 33 ∨ 126 < ((R.1 : Nat) : Int))) ∨ (bad c = false ∧ ¬ (((R.1 : Nat) : Int) < 33 ∨ 126 < ((R.1 : Nat) : Int)) ∧ R.2 = 1) := by
            by_cases h1 : c.toNat < 128
            · have := decA_ok hc h1
              rw [hR] at this
              subst this
              by_cases h2 : (c.toNat : Int) < 33 ∨ 126 < (c.toNat : Int)
              · exact .inl ⟨by simp [bad, h2], h2⟩
              · exact .inr ⟨by simp [bad, h2], h2, rfl⟩
            · have := dec_hi hc (by omega)
              rw [hR] at this
              exact .inl ⟨by simp [bad]; omega, by omega⟩
          rcases hcases with ⟨h1, h2⟩ | ⟨h1, h2, h3⟩
          · simp only [go_sem,eq_true h2,beq_self_eq_true]
            exact fin _ _ (by rw [hx, if_pos h1])
          · simp only [go_sem,h2,show (false == true) = false from rfl]
            rw [h3]
            exact hK (i + 1) _ _ ⟨hlt, by rw [hx, h1]; simp⟩ (by omega) (Wk.slots' rfl (by simp [wkS, Ch.get]))
      · have hil : i = b.length := by omega
        subst hil
        refine SWp.seq (K := fun s' H' => Wk 0 21 s' H' (Ch.nil.put 12 (.bool false)) [.raw (fun o => o = .stringIter ⟨b.toArray⟩ b.length)]) ?_ ?_
        · refine SOpsC.region (SOpsC.over rfl rfl rfl rfl rfl rfl hlt (SOpsC.val rfl rfl rfl rfl ?_))
          simp only [go_sem,valP]
          exact SOpsC.done (show Wk _ _ _ _ _ _ from Wk.slots' rfl (by simp [wkS, Ch.get, Ch.put?, cev]))
        · intro s' H' hw
          refine SWp.wk hw (cwp_sound _ (by kernel_rfl) _ _ _ ?_)
          simp only [go_sem]
          rw [hx]
          simp [badI]
  · intro s' H' he
    refine cwp_sound _ (by kernel_rfl) _ _ _ ?_
    simp only [go_sem]
    exact fin _ _ he.symm
end Go.Proofs.YtigmnlnomhjecaaGreatDoor
set_option maxRecDepth 100000
set_option linter.unusedVariables false
set_option linter.unusedSimpArgs false
namespace Go.Proofs.YtigmnlnomhjecaaGreatDoor
open Go.AM
open Go.Glob (Bs EK)
theorem stIdxF_c (b : Bs) (hb : b.length ≤ 1000000) : ACalls Tryz.prog 87 [Sv b, .func (.func 64) [] []] [] (fun o H => o = .ret (iv (badI b 0)) ∧ H = []) := by
  refine ACalls.up ?_
  refine ACalls.intro (cs := []) (n := 8) Tryz.func87 rfl rfl rfl (by kernel_rfl) rfl ?_
  simp only [go_sem]
  refine rK_use (Go.AM.enters_of Tryz.func106 rfl (by decide)) (ACalls.pure_use (idxF_c b hb) rfl rfl) ?_
  simp only [go_sem]
  exact finv rfl ⟨rfl, rfl⟩ _
theorem contF_c (b : Bs) (hb : b.length ≤ 1000000) : ACalls Tryz.prog 63 [Sv b, .func (.func 64) [] []] [] (fun o H => o = .ret (.bool (decide (0 ≤ badI b 0))) ∧ H = []) := by
  refine ACalls.up ?_
  refine ACalls.intro (cs := []) (n := 9) Tryz.func63 rfl rfl rfl (by kernel_rfl) rfl ?_
  simp only [go_sem]
  refine rK_use (Go.AM.enters_of Tryz.func87 rfl (by decide)) (ACalls.pure_use (stIdxF_c b hb) rfl rfl) ?_
  simp only [go_sem]
  exact finv rfl ⟨rfl, rfl⟩ _
theorem badI_all : ∀ (b : Bs) (i : Int), 0 ≤ i → (0 ≤ badI b i ↔ b.all (fun c => decide (33 ≤ c) && decide (c ≤ 126)) = false)
  | [], i, h => by simp [badI]
  | c :: r, i, h => by
    have hb : bad c = !(decide (33 ≤ c) && decide (c ≤ 126)) := by
      have e1 : (33 : UInt8) ≤ c ↔ 33 ≤ c.toNat := UInt8.le_iff_toNat_le
      have e2 : c ≤ (126 : UInt8) ↔ c.toNat ≤ 126 := UInt8.le_iff_toNat_le
      rw [Bool.eq_iff_iff]
      simp only [bad, e1, e2, decide_eq_true_eq, Bool.not_eq_true', Bool.and_eq_false_iff, decide_eq_false_iff_not]
      omega
    rw [badI, List.all_cons, ← Bool.not_not (decide (33 ≤ c) && decide (c ≤ 126)), ← hb]
    cases bad c with
    | true => simp [h]
    | false => simpa using badI_all r (i + 1) (by omega)
def elsV (b : Bs) : AV := match Glob.prsK b with
  | some l => .tuple [.view false 2 (l.map ekR), .bool true]
  | none => .tuple [.view false 2 [], .bool false]
theorem rd_ren (π : Nat → Nat) (b r : Bs) : (rd b r).ren π = rd b r := by simp [rd, Blk.ren, AV.ren]
theorem ekR_ren (π : Nat → Nat) (e : EK) : (ekR e).map (AV.ren π) = ekR e := by
  rw [← renL_map]; exact renL_pure (ekR_lt e 0)
theorem ekR_rens (π : Nat → Nat) (l : List EK) : Blk.ren π (.rows 2 (l.map ekR)) = .rows 2 (l.map ekR) := by
  rw [Blk.ren]
  congr 1
  rw [List.map_map]
  exact List.map_congr_left fun e _ => ekR_ren π e
theorem ekR_rows (l : List EK) : ∀ row ∈ l.map ekR, ltL 0 row = true := rows_lt (fun e => ekR_lt e 0) l
theorem els_pick (b r2 : Bs) (acc : List EK) (e : EK) (X Y : Blk) : [0, 1, 2, 5].map (fun i => ([.rows 1 [[.sl 5 0 (acc.length + 1) none]], .rows 1 [[.bool false]], rd b r2, X, Y, .rows 2 (acc.map ekR ++ [ekR e])] : Heap)[i]?) =
    ([.rows 1 [[.sl 3 0 (acc ++ [e]).length none]], .rows 1 [[.bool false]], rd b r2, .rows 2 ((acc ++ [e]).map ekR)] : Heap).map (fun b => some (b.ren (pi [0, 1, 2, 5] 6))) := by
  simp only [List.map_cons, List.map_nil, rd_ren, ekR_rens]
  simp [Blk.ren, AV.ren, pi]
theorem elements_res : Tryz.f39.results.toList = [ResultVar.cell 2 69, ResultVar.cell 3 4] := rfl
theorem ekF_one (e : EK) : (ekF e).one = true := by cases e <;> rfl
theorem elements_c (b : Bs) : ACalls Tryz.prog 39 [Sv b] [] (fun o H => o = .ret (elsV b) ∧ H = []) := by
  refine ACalls.up ?_
  refine ACalls.introD (n := 24) Tryz.func39 rfl (by kernel_rfl) rfl ?_
  refine DWp.seq (by kernel_rfl) ?_
  generalize hpost : (fun (o : Out) (H : Heap) => o = Out.ret (elsV b) ∧ H = []) = post
  simp only [go_sem]
  refine DWp.defer (by kernel_rfl) rfl (by kernel_rfl) (by kernel_rfl) ?_
  simp only [go_sem]
  refine ⟨(Go.AM.enters_of Tryz.func62 rfl (by decide)), fun d => ?_⟩
  have no : Glob.prsK b = none → ∀ H v, v = AV.view true 0 [] → Up 0 post (.ret (.tuple [v, .bool false])) H := fun h H v hv => by
    subst hv
    refine .gc 0 (Nat.le_refl _) (Nat.zero_le _) rfl (by simp) (.le (.ret (.tuple (.cons (.nil true false 0 2 (by simp)) (.cons (.refl _) .nil)))) .nil (.done ?_))
    rw [← hpost, elsV, h]
    exact ⟨rfl, rfl⟩
  simp only [go_sem,List.size_toArray]
  refine gD_dec (fun hd => ?_) (fun hd => ?_)
  · simp only [go_sem,eq_true hd]
    refine ADef.intro (n := 16) Tryz.func62 rfl rfl (by kernel_rfl) rfl (by kernel_rfl) ?_
    simp only [go_sem]
    refine no ?_ _ _ rfl
    rw [Glob.prsK, if_neg]
    simp [Glob.okB]
    omega
  simp only [go_sem,hd]
  refine rK_use (Go.AM.enters_of Tryz.func63 rfl (by decide)) (ACalls.pure_use (contF_c b (by omega)) rfl rfl) ?_
  simp only [go_sem]
  have hall := badI_all b 0 (Int.le_refl _)
  refine condD_dec (fun hc => ?_) (fun hc => ?_)
  · simp only [go_sem]
    refine ADef.intro (n := 16) Tryz.func62 rfl rfl (by kernel_rfl) rfl (by kernel_rfl) ?_
    simp only [go_sem]
    refine no ?_ _ _ rfl
    rw [Glob.prsK, if_neg]
    rw [Glob.okB, hall.1 hc]
    simp
  have hok : Glob.prsK b = Glob.allK b := by
    rw [Glob.prsK, if_pos]
    rw [Glob.okB]
    have : b.all (fun c => decide (33 ≤ c) && decide (c ≤ 126)) = true := by simpa using mt hall.2 hc
    rw [this]
    simp; omega
  simp only [go_sem]
  have hb64 : b.length ≤ 64 := by omega
  refine loop_fam (fun q : List EK × Bs => (((Ch.nil.put 2 (.ptr 0 0 0)).put 3 (.ptr 1 0 0)).put 4 (.ptr 2 0 0)))
    (fun q => [.rows 1 [[.sl 3 0 q.1.length none]], .rows 1 [[.bool false]], rd b q.2, .rows 2 (q.1.map ekR)]) (fun q => q.2.length) (fun q => q.2 <:+ b ∧ Glob.prsK b = (Glob.allK q.2).map (q.1 ++ ·) ∧ q.1.length + q.2.length ≤ 64) ([], b) (by kernel_rfl)
    ⟨List.suffix_refl _, by rw [hok]; simp, by simpa using hb64⟩ ?_ ?_
  · rw [show rd b b = .rows 2 [[Sv b, iv 0]] by simp [rd]]
    refine (Wk.slots' rfl (by simp [wkS, Ch.get])).trans ((Wk.ghost (.rows 2 [])).trans (Wk.leH (.cons (.rows 1 (.cons (.cons (.sl0 0 3 0) .nil) .nil)) (LeH.refl _))))
  rintro ⟨acc, r⟩ ⟨hr, hp, hl⟩ K hK
  simp only at hr hp hl
  simp only [go_sem]
  refine rK_use (Go.AM.enters_of Tryz.func65 rfl (by decide)) ((more_c b r hr).useE [2] (.bool (!r.isEmpty)) [.rows 1 [[.sl 3 0 acc.length none]], .rows 1 [[.bool false]], rd b r, .rows 2 (acc.map ekR)] (by simp) rfl (by simp) (by simp [Blk.ren, AV.ren, rd, pi]) (by simp [AV.ren, pi]) rfl (by simp [patch, setMany, Blk.ren, AV.ren, rd])) ?_
  cases r with
  | nil =>
    simp only [go_sem,List.isEmpty_nil]
    refine ADef.intro (n := 16) Tryz.func62 rfl rfl (by kernel_rfl) rfl (by kernel_rfl) ?_
    simp only [go_sem]
    refine up_one 3 2 (acc.map ekR) rfl (ekR_rows _) (by simp [Out.fzOk, AV.fzOk, fzOkL]) (by simp [Out.fz, AV.fz, fzL, Out.lt, AV.lt, ltL]) ?_
    rw [← hpost, elsV, hp]
    simp [Out.fz, AV.fz, fzL, Glob.allK_nil]
    rw [List.take_of_length_le (by simp)]
  | cons c r =>
    simp only [go_sem,List.isEmpty_cons]
    cases he : Glob.elK (c :: r) with
    | none =>
      have hno : Glob.prsK b = none := by rw [hp, Glob.allK_step (by simp), he]; rfl
      have hcall := (elem_no hr (by omega) he).panE [2] noneV [.rows 1 [[.sl 3 0 acc.length none]], .rows 1 [[.bool false]], .dead, .rows 2 (acc.map ekR)] (H := [.rows 1 [[.sl 3 0 acc.length none]], .rows 1 [[.bool false]], rd b (c :: r), .rows 2 (acc.map ekR)]) (by simp) rfl (by simp) (by simp [Blk.ren, AV.ren, rd, pi]) (args := [.ptr 2 0 0]) (by simp [AV.ren, pi]) rfl (by simp [patch, setMany, Blk.ren, AV.ren])
      have hend : ∀ s : Ch, s.get 2 = .ptr 0 0 0 → s.get 3 = .ptr 1 0 0 → lX Tryz.prog Tryz.f39 (Up 0 post) 62 [.ptr 0 0 0, .ptr 1 0 0] (.pan noneV) s [.rows 1 [[.sl 3 0 acc.length none]], .rows 1 [[.bool false]], .dead, .rows 2 (acc.map ekR)] := fun s h2 h3 => by
        simp only [go_sem]
        refine ADef.intro (n := 16) Tryz.func62 rfl rfl (by kernel_rfl) rfl (by kernel_rfl) ?_
        simp only [go_sem,noneV,h2,h3,elements_res]
        exact no hno _ _ rfl
      have hload : ∀ s : Ch, s.get 2 = .ptr 0 0 0 → aop Tryz.prog s [.rows 1 [[.sl 3 0 acc.length none]], .rows 1 [[.bool false]], rd b (c :: r), .rows 2 (acc.map ekR)] (.load 69 (.tmp 2)) = .val (.sl 3 0 acc.length none) := fun s h2 => by
        simp only [go_sem,h2]
      refine SOpsC.draw (by kernel_rfl) (fun t => SOpsC.of (by kernel_rfl) ?_)
      refine any_stepL (R := fun l => SOps _ _ _ _ l _ _ _) (fuel := 5) [0, 1] (by kernel_rfl) (by simp) (fun i hi t => ?_) t
      have hi : i = 0 ∨ i = 1 := by simpa using hi
      rcases hi with rfl | rfl
      · refine SOps.val rfl rfl rfl (hload _ rfl) ?_
        refine any_stepL (R := fun l => SOps _ _ _ _ l _ _ _) (fuel := 4) [1] (by kernel_rfl) (by simp) (fun i hi t => ?_) t
        obtain rfl : i = 1 := by simpa using hi
        refine SOps.val rfl rfl rfl rfl ?_
        refine any_stepL (R := fun l => SOps _ _ _ _ l _ _ _) (fuel := 3) [2] (by kernel_rfl) (by simp) (fun i hi t => ?_) t
        obtain rfl : i = 2 := by simpa using hi
        exact SOps.pans rfl rfl rfl rfl (Go.AM.enters_of Tryz.func66 rfl (by decide)) hcall (hend _ rfl rfl)
      · refine SOps.val rfl rfl rfl rfl ?_
        refine any_stepL (R := fun l => SOps _ _ _ _ l _ _ _) (fuel := 4) [0, 2] (by kernel_rfl) (by simp) (fun i hi t => ?_) t
        have hi : i = 0 ∨ i = 2 := by simpa using hi
        rcases hi with rfl | rfl
        · refine SOps.val rfl rfl rfl (hload _ rfl) ?_
          refine any_stepL (R := fun l => SOps _ _ _ _ l _ _ _) (fuel := 3) [2] (by kernel_rfl) (by simp) (fun i hi t => ?_) t
          obtain rfl : i = 2 := by simpa using hi
          exact SOps.pans rfl rfl rfl rfl (Go.AM.enters_of Tryz.func66 rfl (by decide)) hcall (hend _ rfl rfl)
        · exact SOps.pans rfl rfl rfl rfl (Go.AM.enters_of Tryz.func66 rfl (by decide)) hcall (hend _ rfl rfl)
    | some y =>
      obtain ⟨e, r2⟩ := y
      have hlen := Glob.elK_len he
      have hr2 : r2 <:+ b := by
        obtain ⟨t, _, ht⟩ := Glob.elK_suf he
        exact List.IsSuffix.trans ⟨t, ht.symm⟩ hr
      simp only [List.length_cons] at hl hlen
      refine draw [.rd 0 2, .qu 0 0, .mn 0, .mn 1, .mn 2, .mn 3] (by kernel_rfl) (by kernel_rfl) ?_
      simp only [go_sem]
      refine dM_call (Go.AM.enters_of Tryz.func66 rfl (by decide)) ((elem_ok hr (by omega) he).useE [2] (.agg (ekR e)) [.rows 1 [[.sl 3 0 acc.length none]], .rows 1 [[.bool false]], rd b r2, .rows 2 (acc.map ekR)] (by simp) rfl (by simp) (by simp [Blk.ren, AV.ren, rd, pi]) (by simp [AV.ren, pi]) (ren_pure (by simp [AV.lt, ekR_lt])) (by simp [patch, setMany, Blk.ren, AV.ren, rd])) ?_
      have hnx : Glob.prsK b = (Glob.allK r2).map ((acc ++ [e]) ++ ·) := by
        rw [hp, Glob.allK_step (by simp), he]
        simp only [Option.map_map]
        congr 1
        funext l
        simp
      rcases e with _ | _ | ⟨h', n'⟩ | c' <;> simp only [go_sem,ekR,ekF,ekS,List.length_map]
      · refine ⟨by omega, hK (acc ++ [.star], r2) _ _ ⟨hr2, hnx, by simp; omega⟩ (by simp; omega) (Wk.pick [0, 1, 2, 5] (by simp) rfl ?_ (by simp [wkP, Ch.get, AV.ren, pi]))⟩
        rw [List.take_of_length_le (by simp)]
        exact els_pick b r2 acc .star _ _
      · refine ⟨by omega, hK (acc ++ [.any], r2) _ _ ⟨hr2, hnx, by simp; omega⟩ (by simp; omega) (Wk.pick [0, 1, 2, 5] (by simp) rfl ?_ (by simp [wkP, Ch.get, AV.ren, pi]))⟩
        rw [List.take_of_length_le (by simp)]
        exact els_pick b r2 acc .any _ _
      · refine ⟨by omega, hK (acc ++ [(.set h' n')], r2) _ _ ⟨hr2, hnx, by simp; omega⟩ (by simp; omega) (Wk.pick [0, 1, 2, 5] (by simp) rfl ?_ (by simp [wkP, Ch.get, AV.ren, pi]))⟩
        rw [List.take_of_length_le (by simp)]
        exact els_pick b r2 acc (.set h' n') _ _
      · refine ⟨by omega, hK (acc ++ [(.one c')], r2) _ _ ⟨hr2, hnx, by simp; omega⟩ (by simp; omega) (Wk.pick [0, 1, 2, 5] (by simp) rfl ?_ (by simp [wkP, Ch.get, AV.ren, pi]))⟩
        rw [List.take_of_length_le (by simp)]
        exact els_pick b r2 acc (.one c') _ _
end Go.Proofs.YtigmnlnomhjecaaGreatDoor
set_option maxRecDepth 100000
set_option linter.unusedVariables false
set_option linter.unusedSimpArgs false
namespace Go.Proofs.YtigmnlnomhjecaaGreatDoor
open Go.AM
open Go.Glob (Bs EK El)
def wholeV (b : Bs) : AV := match Glob.prsK b with
  | some l => .tuple [.view false 2 ((Glob.wholeK l).map ekR), .bool true]
  | none => .tuple [.view false 2 [], .bool false]
theorem whole_c (b : Bs) : ACalls Tryz.prog 24 [Sv b] [] (fun o H => o = .ret (wholeV b) ∧ H = []) := by
  refine ACalls.up ?_
  refine ACalls.intro (cs := []) (n := 21) Tryz.func24 rfl rfl rfl (by kernel_rfl) rfl ?_
  generalize hpost : (fun (o : Out) (H : Heap) => o = Out.ret (wholeV b) ∧ H = []) = post
  simp only [go_sem]
  cases h : Glob.prsK b with
  | none =>
    have he : elsV b = .tuple [.view false 2 [], .bool false] := by rw [elsV, h]
    refine rK_use (Go.AM.enters_of Tryz.func39 rfl (by decide)) (ACalls.pure_use (elements_c b) rfl (by rw [he]; rfl)) ?_
    simp only [go_sem,he]
    exact finv rfl (by rw [← hpost, wholeV, h]; exact ⟨rfl, rfl⟩) _
  | some l =>
    have he : elsV b = .tuple [.view false 2 (l.map ekR), .bool true] := by rw [elsV, h]
    refine rK_use (Go.AM.enters_of Tryz.func39 rfl (by decide)) (ACalls.pure_use (elements_c b) rfl (by rw [he]; rfl)) ?_
    simp only [go_sem,he,List.length_map]
    cases l with
    | nil =>
      simp only [go_sem]
      refine up_one 0 2 [ekR .star] rfl (by simp [ekR_lt]) (by simp [Out.fzOk, AV.fzOk, fzOkL]) (by simp [Out.fz, AV.fz, fzL, Out.lt, AV.lt, ltL]) ?_
      rw [← hpost, wholeV, h]
      exact ⟨rfl, rfl⟩
    | cons e l =>
      have hn : ¬ ((l.length + 1 : Nat) : Int) = 0 := by omega
      simp only [go_sem,hn]
      exact finv rfl (by rw [← hpost, wholeV, h]; exact ⟨rfl, rfl⟩) _
theorem tab_take (n : Nat) (v : Nat → Bool) : List.take n (tab n v) = tab n v := List.take_of_length_le (by rw [tab_len]; exact Nat.le_refl _)
theorem tab_drop (n : Nat) (v : Nat → Bool) : List.drop n (tab n v) = [] := List.drop_eq_nil_of_le (by rw [tab_len]; exact Nat.le_refl _)
noncomputable def stX : { f : (Nat → Bool) → List AV // ∀ v, f v = tab 66 v } := Classical.choice ⟨⟨tab 66, fun _ => rfl⟩⟩
noncomputable def st (v : Nat → Bool) : List AV := stX.1 v
theorem st_eq (v : Nat → Bool) : st v = tab 66 v := stX.2 v
theorem st_len (v : Nat → Bool) : (st v).length = 66 := by rw [st_eq, tab_len]
theorem st_get {i : Nat} (h : i < 66) (v : Nat → Bool) : (st v)[i]? = some (.bool (v i)) := by rw [st_eq, tab_get h]
theorem st_put {c : Nat} (h : c < 66) (v : Nat → Bool) (b : Bool) : List.take c (st v) ++ AV.bool b :: List.drop (c + 1) (st v) = st (upd v c b) := by rw [st_eq, st_eq, tab_put h]
theorem st_take (v : Nat → Bool) : List.take 66 (st v) = st v := by rw [st_eq, tab_take]
theorem st_drop (v : Nat → Bool) : List.drop 66 (st v) = [] := by rw [st_eq, tab_drop]
theorem st_one (v : Nat → Bool) : (st v).all AV.one = true := by rw [st_eq, tab_one]
theorem st_lt (m : Nat) (v : Nat → Bool) : ltL m (st v) = true := by rw [st_eq, tab_lt]
theorem st_ext {v w : Nat → Bool} (h : ∀ i, i < 66 → v i = w i) : st v = st w := by rw [st_eq, st_eq, tab_ext h]
theorem st_zero : (AV.bool false :: AV.bool false :: AV.bool false :: AV.bool false :: AV.bool false :: AV.bool false :: AV.bool false :: AV.bool false :: AV.bool false :: AV.bool false :: AV.bool false :: AV.bool false :: AV.bool false :: AV.bool false :: AV.bool false :: AV.bool false :: AV.bool false :: AV.bool false :: AV.bool false :: AV.bool false :: AV.bool false :: AV.bool false :: AV.bool false :: AV.bool false :: AV.bool false :: AV.bool false :: AV.bool false :: AV.bool false :: AV.bool false :: AV.bool false :: AV.bool false :: AV.bool false :: AV.bool false :: AV.bool false :: AV.bool false :: AV.bool false :: AV.bool false :: AV.bool false :: AV.bool false :: AV.bool false :: AV.bool false :: AV.bool false :: AV.bool false :: AV.bool false :: AV.bool false :: AV.bool false :: AV.bool false :: AV.bool false :: AV.bool false :: AV.bool false :: AV.bool false :: AV.bool false :: AV.bool false :: AV.bool false :: AV.bool false :: AV.bool false :: AV.bool false :: AV.bool false :: AV.bool false :: AV.bool false :: AV.bool false :: AV.bool false :: AV.bool false :: AV.bool false :: AV.bool false :: AV.bool false :: []) = st (fun _ => false) := by rw [st_eq]; rfl
def eqT (v w : Nat → Bool) : Bool := (List.range 66).all fun i => v i == w i
theorem eqT_iff {v w : Nat → Bool} : eqT v w = true ↔ ∀ i, i < 66 → v i = w i := by simp [eqT]
theorem eqCs_bools (v w : Nat → Bool) : ∀ (l : List Nat), eqCs (List.replicate l.length .b) (l.map fun i => AV.bool (v i)) (l.map fun i => AV.bool (w i)) = some (l.all fun i => v i == w i)
  | [] => rfl
  | x :: l => by
    simp only [List.length_cons, List.replicate_succ, List.map_cons, eqCs, eqC, eqCs_bools v w l, List.all_cons]
    rfl
theorem eq66 (v w : Nat → Bool) : eqCs (CT.b :: CT.b :: CT.b :: CT.b :: CT.b :: CT.b :: CT.b :: CT.b :: CT.b :: CT.b :: CT.b :: CT.b :: CT.b :: CT.b :: CT.b :: CT.b :: CT.b :: CT.b :: CT.b :: CT.b :: CT.b :: CT.b :: CT.b :: CT.b :: CT.b :: CT.b :: CT.b :: CT.b :: CT.b :: CT.b :: CT.b :: CT.b :: CT.b :: CT.b :: CT.b :: CT.b :: CT.b :: CT.b :: CT.b :: CT.b :: CT.b :: CT.b :: CT.b :: CT.b :: CT.b :: CT.b :: CT.b :: CT.b :: CT.b :: CT.b :: CT.b :: CT.b :: CT.b :: CT.b :: CT.b :: CT.b :: CT.b :: CT.b :: CT.b :: CT.b :: CT.b :: CT.b :: CT.b :: CT.b :: CT.b :: CT.b :: []) (st v) (st w) = some (eqT v w) := by rw [st_eq, st_eq]; exact eqCs_bools v w (List.range 66)
abbrev elL (l : List EK) : List El := l.map EK.el
theorem opn_idem (l : List El) (v : Nat → Bool) : ∀ j, Glob.opn l (Glob.opn l v) j = Glob.opn l v j
  | 0 => rfl
  | j + 1 => by
    rw [Glob.opn, opn_idem l v j]
    cases h : l[j]? with
    | none => simp
    | some e => simp only [Glob.opn, h]; cases v (j + 1) <;> cases e.star <;> cases Glob.opn l v j <;> rfl
theorem opn_false (l : List El) {v : Nat → Bool} (n : Nat) (h : ∀ i, i < n → v i = false) : ∀ j, j < n → Glob.opn l v j = false
  | 0, hj => h 0 hj
  | j + 1, hj => by
    rw [Glob.opn, h _ hj, opn_false l n h j (by omega)]
    cases l[j]? <;> simp
def swp (l : List El) (v : Nat → Bool) (i : Nat) : Nat → Bool := fun j => if j ≤ i then Glob.opn l v j else v j
theorem swp_step (l : List El) (v : Nat → Bool) (i : Nat) {e : El} (h : l[i]? = some e) (j : Nat) : swp l v (i + 1) j = (if swp l v i i && e.star then upd (swp l v i) (i + 1) true else swp l v i) j := by
  have h1 : swp l v i i = Glob.opn l v i := by simp [swp]
  rw [h1]
  by_cases hj : j = i + 1
  · subst hj
    have h2 : swp l v (i + 1) (i + 1) = Glob.opn l v (i + 1) := by simp [swp]
    have h3 : swp l v i (i + 1) = v (i + 1) := by
      have : ¬ i + 1 ≤ i := by omega
      simp [swp, this]
    rw [h2, Glob.opn, h]
    simp only
    cases e.star <;> cases Glob.opn l v i <;> simp [upd, h3]
  · have h2 : swp l v (i + 1) j = swp l v i j := by
      by_cases h3 : j ≤ i
      · simp [swp, h3, show j ≤ i + 1 by omega]
      · simp [swp, h3, show ¬ j ≤ i + 1 by omega]
    rw [h2]
    split <;> simp [upd, hj]
theorem swp_zero (l : List El) (v : Nat → Bool) (j : Nat) : swp l v 0 j = v j := by
  unfold swp
  split
  · rename_i h
    obtain rfl : j = 0 := by omega
    rfl
  · rfl
def opW (l : List El) (v : Nat → Bool) : Nat → Nat → Bool
  | 0 => fun _ => false
  | 1 => v
  | _ => Glob.opn l v
def opN (l : List El) (v : Nat → Bool) : Nat → Nat → Bool
  | 0 => v
  | _ => Glob.opn l v
theorem open_c (l : List EK) (hl : l.length ≤ 64) (v : Nat → Bool) : ACalls Tryz.prog 25 [.view false 2 (l.map ekR), .agg (st v)] [] (fun o H => o = .ret (.agg (st (Glob.opn (elL l) v))) ∧ H = []) := by
  refine ACalls.up ?_
  refine ACalls.intro (cs := []) (n := 33) Tryz.func25 rfl rfl rfl (by kernel_rfl) rfl ?_
  generalize hpost : (fun (o : Out) (H : Heap) => o = Out.ret (.agg (st (Glob.opn (elL l) v))) ∧ H = []) = post
  simp only [go_sem,st_one,st_len]
  have hL : ∀ i : Nat, (elL l)[i]? = (l[i]?).map EK.el := fun i => by simp [elL]
  refine loop_fam (fun _ : Nat => (((Ch.nil.put 0 (.view false 2 (l.map ekR))).put 3 (.ptr 0 0 0)).put 4 (.ptr 1 0 0)).put 5 (.ptr 2 0 0))
    (fun p => [.rows 66 [st (opN (elL l) v p)], .rows 66 [st (fun _ => false)], .rows 66 [st (opW (elL l) v p)]]) (fun p => 2 - p) (fun p => p ≤ 2) 0 (by kernel_rfl) (by omega) (Wk.slots' (show _ = [Blk.rows 66 [st v], Blk.rows 66 [st (fun _ => false)], Blk.rows 66 [st (fun _ => false)]] by rw [← st_zero]) (by simp [wkS, Ch.get])) ?_
  rintro p hp K hK
  simp only [go_sem,st_take,st_len,eq66]
  refine condD_bool (fun hd => ?_) (fun hd => ?_)
  · have hp2 : p < 2 := by
      rcases Nat.lt_or_ge p 2 with h | h
      · exact h
      · obtain rfl : p = 2 := by omega
        have : eqT (opW (elL l) v 2) (opN (elL l) v 2) = true := eqT_iff.2 fun _ _ => rfl
        rw [this] at hd; cases hd
    simp only [go_sem,st_take,st_drop,st_one,st_len,List.length_map]
    generalize hn : opN (elL l) v p = w
    refine loop_fam (fun i : Nat => (((((((Ch.nil.put 0 (.view false 2 (l.map ekR))).put 3 (.ptr 0 0 0)).put 4 (.ptr 1 0 0)).put 5 (.ptr 2 0 0)).put 13 (.view false 2 (l.map ekR))).put 14 (iv l.length)).put 15 (iv i)))
      (fun i => [.rows 66 [st (swp (elL l) w i)], .rows 66 [st (fun _ => false)], .rows 66 [st w]]) (fun i => l.length - i) (fun i => i ≤ l.length) 0 (by kernel_rfl) (Nat.zero_le _) (Wk.slots' (by rw [st_ext (fun j _ => swp_zero (elL l) w j)]) (by simp [wkS, Ch.get])) ?_
    rintro i hi K2 hK2
    simp only [go_sem]
    refine condD_dec (fun hc => ?_) (fun hc => ?_)
    · have hc' : i < l.length := by omega
      obtain ⟨e, he⟩ := at_lt hc'
      have g1 : (0 : Int) ≤ (i : Int) ∧ (i : Int) < l.length := by omega
      have g2 : (0 : Int) ≤ (i : Int) ∧ (i : Int) < 66 := by omega
      have e1 : iw .i64 ((i : Int) + 1) = ((i + 1 : Nat) : Int) := by rw [iw64] <;> omega
      have hmid : ∀ Z, Wk 0 33 (((((((Ch.nil.put 0 (.view false 2 (l.map ekR))).put 3 (.ptr 0 0 0)).put 4 (.ptr 1 0 0)).put 5 (.ptr 2 0 0)).put 13 (.view false 2 (l.map ekR))).put 14 (iv l.length)).put 15 (iv (i + 1 : Nat)))
          ([.rows 66 [st (if swp (elL l) w i i && ekS e then upd (swp (elL l) w i) (i + 1) true else swp (elL l) w i)], .rows 66 [st (fun _ => false)], .rows 66 [st w]] ++ Z)
          (((((((Ch.nil.put 0 (.view false 2 (l.map ekR))).put 3 (.ptr 0 0 0)).put 4 (.ptr 1 0 0)).put 5 (.ptr 2 0 0)).put 13 (.view false 2 (l.map ekR))).put 14 (iv l.length)).put 15 (iv (i + 1 : Nat)))
          [.rows 66 [st (swp (elL l) w (i + 1))], .rows 66 [st (fun _ => false)], .rows 66 [st w]] := fun Z => by
        refine Wk.drop (m := 3) (by simp [wkS, Ch.get]) (Nat.zero_le _) (by simp) (by simp [chLt, AV.lt]) ?_ (by simp [Blk.lt, st_lt])
        rw [show st (swp (elL l) w (i + 1)) = st (if swp (elL l) w i i && ekS e then upd (swp (elL l) w i) (i + 1) true else swp (elL l) w i) from st_ext fun j _ => by
          rw [swp_step (elL l) w i (e := e.el) (by rw [hL, he]; rfl) j, ekS_el]]
        rfl
      simp only [go_sem,g1,g2,e1,List.length_map,List.getElem?_map,he,ekR,↓ekF_one,st_get (show i < 66 by omega),st_len]
      have g3 : (0 : Int) ≤ ((i + 1 : Nat) : Int) ∧ ((i + 1 : Nat) : Int) < 66 := by omega
      have g4 : i ≤ 64 := by omega
      refine gD_bool (fun h1 => ?_) (fun h1 => ?_)
      · simp only [go_sem,h1]
        refine condD_bool (fun h2 => ?_) (fun h2 => ?_)
        · simp only [go_sem,e1,g3,g4,st_len,st_put (show i + 1 < 66 by omega)]
          refine hK2 (i + 1) _ _ hc' (by omega) (Wk.trans (Wk.slots' ?_ (by simp [wkS, Ch.get])) (hmid [.rows 2 [[.bool (ekS e), ekF e]]]))
          simp only [h1, h2, Bool.and_self, if_true, List.cons_append, List.nil_append]
        · simp only [go_sem,e1]
          refine hK2 (i + 1) _ _ hc' (by omega) (Wk.trans (Wk.slots' ?_ (by simp [wkS, Ch.get])) (hmid [.rows 2 [[.bool (ekS e), ekF e]]]))
          simp only [h1, h2, Bool.and_false, Bool.false_eq_true, if_false, List.cons_append, List.nil_append]
      · simp only [go_sem,h1,e1]
        refine hK2 (i + 1) _ _ hc' (by omega) (Wk.trans (Wk.slots' ?_ (by simp [wkS, Ch.get])) (hmid [.rows 2 [[.bool (ekS e), ekF e]]]))
        simp only [h1, Bool.false_and, Bool.false_eq_true, if_false, List.cons_append, List.nil_append]
    · simp only [go_sem,st_take,st_drop,st_one,st_len]
      refine hK (p + 1) _ _ (by omega) (by omega) (Wk.push (A := [.rows 66 [st (opN (elL l) v (p + 1))], .rows 66 [st (fun _ => false)]]) (b := .rows 66 [st (opW (elL l) v (p + 1))]) 3 ?_ ?_ (by simp) (by simp [Blk.lt, st_lt]) (by simp [Blk.lt, st_lt]) (by simp) (by simp [wkP, Ch.get, AV.ren, pu_lt, pu_eq]))
      · obtain rfl : i = l.length := by omega
        have : st (swp (elL l) w l.length) = st (opN (elL l) v (p + 1)) := st_ext fun j hj => by
          have h1 : swp (elL l) w l.length j = Glob.opn (elL l) w j := by
            unfold swp
            split
            · rfl
            · rename_i h
              obtain ⟨m, rfl⟩ : ∃ m, j = m + 1 := ⟨j - 1, by omega⟩
              rw [Glob.opn, hL, List.getElem?_eq_none (by omega)]
              simp
          rw [h1, ← hn]
          obtain rfl | rfl : p = 0 ∨ p = 1 := by omega
          · rfl
          · exact opn_idem _ _ j
        rw [this]
        rfl
      · rw [← hn]
        obtain rfl | rfl : p = 0 ∨ p = 1 := by omega
        · rfl
        · rfl
  · have hd := eqT_iff.1 (by simpa using hd)
    simp only [go_sem,st_take,st_drop,st_one,st_len]
    refine finv (by simp [AV.lt, st_lt]) ?_ _
    rw [← hpost]
    refine ⟨?_, rfl⟩
    congr 2
    refine st_ext fun j hj => ?_
    match p, hp with
    | 0, _ => exact (opn_false (elL l) 66 (fun i hi => (hd i hi).symm) j hj ▸ (hd j hj).symm)
    | 1, _ => rfl
    | 2, _ => rfl
end Go.Proofs.YtigmnlnomhjecaaGreatDoor
set_option maxRecDepth 100000
set_option linter.unusedVariables false
set_option linter.unusedSimpArgs false
namespace Go.Proofs.YtigmnlnomhjecaaGreatDoor
open Go.AM
open Go.Glob (Bs EK El)
def ekG : EK → FuncId
  | .star => 0
  | .any => 89
  | .set _ _ => 109
  | .one _ => 110
def ekC : EK → List AV
  | .set h n => [.cptr (tab 256 (setT h)) 0, .cptr [.bool n] 0]
  | .one c => [.cptr [bv c] 0]
  | _ => []
theorem ekF_eq {e : EK} (h : ekS e = false) : ekF e = .func (.func (ekG e)) [] (ekC e) := by
  cases e <;> first | rfl | cases h
theorem ekG_in {e : EK} (h : ekS e = false) : Enters Tryz.prog (ekG e) := by
  cases e with
  | star => cases h
  | any => exact (Go.AM.enters_of Tryz.func89 rfl (by decide))
  | set f n => exact (Go.AM.enters_of Tryz.func109 rfl (by decide))
  | one c => exact (Go.AM.enters_of Tryz.func110 rfl (by decide))
theorem ekC_lt (e : EK) : ltL 0 (ekC e) = true := by cases e <;> rfl
theorem ekH_c {e : EK} (h : ekS e = false) (d : UInt8) : ACalls Tryz.prog (ekG e) (bv d :: ekC e) [] (fun o H => o = .ret (.bool (e.el.has d)) ∧ H = []) := by
  cases e with
  | star => cases h
  | any => exact has_any d
  | set f n => exact has_set f n d
  | one c => exact has_one c d
theorem has_u {e : EK} (h : ekS e = false) (d : UInt8) (H : Heap) : ACalls Tryz.prog (ekG e) (bv d :: ekC e) H (fun o H2 => o = .ret (.bool (e.el.has d)) ∧ H2 = H) :=
  ACalls.pure_use (ekH_c h d) (by simp [ltL, AV.lt, ekC_lt]) rfl
def stpA (l : List El) (v : Nat → Bool) (j : Nat) : Bool := match l[j]? with | some e => e.star && v j | none => false
def stpB (l : List El) (c : UInt8) (v : Nat → Bool) (j : Nat) : Bool := match l[j]? with | some e => !e.star && e.has c && v j | none => false
def np (l : List El) (c : UInt8) (v : Nat → Bool) (i j : Nat) : Bool := (decide (j < i) && stpA l v j) || (match j with | 0 => false | m + 1 => decide (m < i) && stpB l c v m)
theorem np_zero (l : List El) (c : UInt8) (v : Nat → Bool) (j : Nat) : np l c v 0 j = false := by
  cases j <;> simp [np]
theorem np_end (l : List El) (c : UInt8) (v : Nat → Bool) (j : Nat) : np l c v l.length j = Glob.stp l c v j := by
  have h1 : ∀ j, (decide (j < l.length) && stpA l v j) = stpA l v j := fun j => by
    by_cases h : j < l.length
    · simp [h]
    · simp [h, stpA]
  have h2 : ∀ j, (decide (j < l.length) && stpB l c v j) = stpB l c v j := fun j => by
    by_cases h : j < l.length
    · simp [h]
    · simp [h, stpB]
  unfold np Glob.stp
  rw [h1]
  cases j with
  | zero => rfl
  | succ m =>
    simp only
    rw [h2]
    rfl
theorem np_same {l : List El} {c : UInt8} {v : Nat → Bool} {i : Nat} {e : El} (h : l[i]? = some e) (h1 : v i = false ∨ (e.star = false ∧ e.has c = false)) (j : Nat) : np l c v (i + 1) j = np l c v i j := by
  have ha : stpA l v i = false := by rcases h1 with h1 | h1 <;> simp [stpA, h, h1]
  have hb : stpB l c v i = false := by rcases h1 with h1 | h1 <;> simp [stpB, h, h1]
  have e1 : ∀ j, (decide (j < i + 1) && stpA l v j) = (decide (j < i) && stpA l v j) := fun j => by
    by_cases hj : j = i
    · subst hj; simp [ha]
    · have : j < i + 1 ↔ j < i := by omega
      simp [this]
  have e2 : ∀ j, (decide (j < i + 1) && stpB l c v j) = (decide (j < i) && stpB l c v j) := fun j => by
    by_cases hj : j = i
    · subst hj; simp [hb]
    · have : j < i + 1 ↔ j < i := by omega
      simp [this]
  unfold np
  rw [e1]
  cases j with
  | zero => rfl
  | succ m => simp only; rw [e2]
theorem np_star {l : List El} {c : UInt8} {v : Nat → Bool} {i : Nat} {e : El} (h : l[i]? = some e) (h1 : v i = true) (h2 : e.star = true) (j : Nat) : np l c v (i + 1) j = upd (np l c v i) i true j := by
  have ha : stpA l v i = true := by simp [stpA, h, h1, h2]
  have hb : stpB l c v i = false := by simp [stpB, h, h2]
  have e2 : ∀ j, (decide (j < i + 1) && stpB l c v j) = (decide (j < i) && stpB l c v j) := fun j => by
    by_cases hj : j = i
    · subst hj; simp [hb]
    · have : j < i + 1 ↔ j < i := by omega
      simp [this]
  unfold upd
  by_cases hj : j = i
  · subst hj
    rw [if_pos rfl]
    unfold np
    rw [ha]
    simp
  · rw [if_neg hj]
    have : j < i + 1 ↔ j < i := by omega
    unfold np
    simp only [this]
    cases j with
    | zero => rfl
    | succ m => simp only; rw [e2]
theorem np_one {l : List El} {c : UInt8} {v : Nat → Bool} {i : Nat} {e : El} (h : l[i]? = some e) (h1 : v i = true) (h2 : e.star = false) (h3 : e.has c = true) (j : Nat) : np l c v (i + 1) j = upd (np l c v i) (i + 1) true j := by
  have ha : stpA l v i = false := by simp [stpA, h, h2]
  have hb : stpB l c v i = true := by simp [stpB, h, h1, h2, h3]
  have e1 : ∀ j, (decide (j < i + 1) && stpA l v j) = (decide (j < i) && stpA l v j) := fun j => by
    by_cases hj : j = i
    · subst hj; simp [ha]
    · have : j < i + 1 ↔ j < i := by omega
      simp [this]
  unfold upd
  by_cases hj : j = i + 1
  · subst hj
    rw [if_pos rfl]
    unfold np
    simp [hb]
  · rw [if_neg hj]
    unfold np
    rw [e1]
    cases j with
    | zero => rfl
    | succ m =>
      have : m < i + 1 ↔ m < i := by omega
      simp only [this]
theorem elsK_len : ∀ (n : Nat) (s : Bs) (l : List EK), Glob.elsK n s = some l → l.length ≤ n
  | n, [], l, h => by rw [Glob.elsK_nil] at h; cases h; simp
  | 0, _ :: _, l, h => by cases h
  | n + 1, c :: r, l, h => by
    rw [Glob.elsK_cons (by simp)] at h
    cases he : Glob.elK (c :: r) with
    | none => rw [he] at h; cases h
    | some y =>
      obtain ⟨e, r'⟩ := y
      rw [he] at h
      simp only at h
      cases hr : Glob.elsK n r' with
      | none => rw [hr] at h; cases h
      | some l' =>
        rw [hr] at h
        cases h
        have := elsK_len n r' l' hr
        simp; omega
theorem prsK_len {b : Bs} {l : List EK} (h : Glob.prsK b = some l) : (Glob.wholeK l).length ≤ 64 := by
  unfold Glob.prsK at h
  split at h
  · rename_i hok
    have h1 : b.length ≤ 64 := by
      simp only [Glob.okB, Bool.and_eq_true, decide_eq_true_eq] at hok
      exact hok.1
    have := elsK_len _ _ _ h
    cases l with
    | nil => decide
    | cons e l => simpa [Glob.wholeK] using (by simp at this; omega : l.length + 1 ≤ 64)
  · cases h
theorem whole_el (l : List EK) : Glob.whole (elL l) = elL (Glob.wholeK l) := Glob.whole_eq l
theorem st_start : (AV.bool true :: AV.bool false :: AV.bool false :: AV.bool false :: AV.bool false :: AV.bool false :: AV.bool false :: AV.bool false :: AV.bool false :: AV.bool false :: AV.bool false :: AV.bool false :: AV.bool false :: AV.bool false :: AV.bool false :: AV.bool false :: AV.bool false :: AV.bool false :: AV.bool false :: AV.bool false :: AV.bool false :: AV.bool false :: AV.bool false :: AV.bool false :: AV.bool false :: AV.bool false :: AV.bool false :: AV.bool false :: AV.bool false :: AV.bool false :: AV.bool false :: AV.bool false :: AV.bool false :: AV.bool false :: AV.bool false :: AV.bool false :: AV.bool false :: AV.bool false :: AV.bool false :: AV.bool false :: AV.bool false :: AV.bool false :: AV.bool false :: AV.bool false :: AV.bool false :: AV.bool false :: AV.bool false :: AV.bool false :: AV.bool false :: AV.bool false :: AV.bool false :: AV.bool false :: AV.bool false :: AV.bool false :: AV.bool false :: AV.bool false :: AV.bool false :: AV.bool false :: AV.bool false :: AV.bool false :: AV.bool false :: AV.bool false :: AV.bool false :: AV.bool false :: AV.bool false :: AV.bool false :: []) = st Glob.start := by rw [st_eq]; rfl
theorem glob_c (b s : Bs) (hs : s.length ≤ 1000000) : ACalls Tryz.prog 10 [Sv b, Sv s] [] (fun o H => o = .ret (.bool (Glob.gl b s)) ∧ H = []) := by
  refine ACalls.up ?_
  refine ACalls.intro (cs := []) (n := 63) Tryz.func10 rfl rfl rfl (by kernel_rfl) rfl ?_
  generalize hpost : (fun (o : Out) (H : Heap) => o = Out.ret (.bool (Glob.gl b s)) ∧ H = []) = post
  simp only [go_sem]
  cases h : Glob.prsK b with
  | none =>
    have he : wholeV b = .tuple [.view false 2 [], .bool false] := by rw [wholeV, h]
    refine rK_use (Go.AM.enters_of Tryz.func24 rfl (by decide)) (ACalls.pure_use (whole_c b) rfl (by rw [he]; rfl)) ?_
    simp only [go_sem,he]
    exact finv rfl (by rw [← hpost, Glob.gl, Glob.prs_eq, h]; exact ⟨rfl, rfl⟩) _
  | some l0 =>
    have he : wholeV b = .tuple [.view false 2 ((Glob.wholeK l0).map ekR), .bool true] := by rw [wholeV, h]
    refine rK_use (Go.AM.enters_of Tryz.func24 rfl (by decide)) (ACalls.pure_use (whole_c b) rfl (by rw [he]; rfl)) ?_
    have hl := prsK_len h
    have hgl : Glob.gl b s = Glob.glob (elL (Glob.wholeK l0)) s := by rw [Glob.gl, Glob.prs_eq, h]; exact congrArg (Glob.glob · s) (whole_el l0)
    generalize Glob.wholeK l0 = l at *
    simp only [go_sem,he,st_start]
    refine rK_use (Go.AM.enters_of Tryz.func25 rfl (by decide)) (ACalls.pure_use (open_c l hl Glob.start) (by simp [ltL, AV.lt, st_lt]) (by simp [AV.lt, st_lt])) ?_
    simp only [go_sem,st_take,st_len,st_one,st_drop,List.size_toArray]
    refine loop_fam (fun q : Nat × (Nat → Bool) => (((((Ch.nil.put 1 (Sv s)).put 5 (.view false 2 (l.map ekR))).put 7 (.ptr 0 0 0)).put 23 (iv s.length)).put 24 (iv q.1)))
      (fun q => [.rows 66 [st q.2]]) (fun q => s.length - q.1) (fun q => q.1 ≤ s.length ∧ Glob.glob (elL l) s = Glob.run (elL l) (s.drop q.1) q.2 l.length) (0, Glob.opn (elL l) Glob.start) (by kernel_rfl) ⟨Nat.zero_le _, by simp [Glob.glob]⟩ (Wk.slots' rfl (by simp [wkS, Ch.get])) ?_
    rintro ⟨k, v⟩ ⟨hk, hv⟩ K hK
    simp only at hk hv
    simp only [go_sem]
    refine condD_dec (fun hc => ?_) (fun hc => ?_)
    · have hc' : k < s.length := by omega
      obtain ⟨c, hsc⟩ := at_lt hc'
      rw [Go.AM.drop_at hsc, Glob.run] at hv
      have ek : iw .i64 ((k : Int) + 1) = ((k + 1 : Nat) : Int) := by rw [iw64] <;> omega
      simp only [go_sem,List.length_map]
      refine loop_fam (fun i : Nat => ((((((((((Ch.nil.put 1 (Sv s)).put 5 (.view false 2 (l.map ekR))).put 7 (.ptr 0 0 0)).put 23 (iv s.length)).put 24 (iv k)).put 8 (iv k)).put 9 (.ptr 1 0 0)).put 27 (.view false 2 (l.map ekR))).put 28 (iv l.length)).put 29 (iv i)))
        (fun i => [.rows 66 [st v], .rows 66 [st (np (elL l) c v i)]]) (fun i => l.length - i) (fun i => i ≤ l.length) 0 (by kernel_rfl) (Nat.zero_le _) (Wk.slots' (show _ = [Blk.rows 66 [st v], Blk.rows 66 [st (np (elL l) c v 0)]] by rw [st_ext (fun j _ => np_zero (elL l) c v j), ← st_zero]) (by simp [wkS, Ch.get])) ?_
      rintro i hi K2 hK2
      simp only [go_sem]
      refine condD_dec (fun hd => ?_) (fun hd => ?_)
      · have hi' : i < l.length := by omega
        obtain ⟨e, he2⟩ := at_lt hi'
        have g1 : (0 : Int) ≤ (i : Int) ∧ (i : Int) < l.length := by omega
        have g2 : (0 : Int) ≤ (i : Int) ∧ (i : Int) < 66 := by omega
        have g3 : (0 : Int) ≤ ((i + 1 : Nat) : Int) ∧ ((i + 1 : Nat) : Int) < 66 := by omega
        have g4 : i ≤ 64 := by omega
        have g5 : i ≤ 65 := by omega
        have g6 : (0 : Int) ≤ (k : Int) ∧ (k : Int) < s.length := by omega
        have e1 : iw .i64 ((i : Int) + 1) = ((i + 1 : Nat) : Int) := by rw [iw64] <;> omega
        have hLi : (elL l)[i]? = some e.el := by simp [elL, he2]
        simp only [go_sem,g1,g2,e1,List.length_map,List.getElem?_map,he2,ekR,↓ekF_one,st_get (show i < 66 by omega),st_len]
        have next : ∀ (w : Nat → Bool) (Z : Heap) (s' : Ch), (∀ j, np (elL l) c v (i + 1) j = w j) → wkS ((((((((((Ch.nil.put 1 (Sv s)).put 5 (.view false 2 (l.map ekR))).put 7 (.ptr 0 0 0)).put 23 (iv s.length)).put 24 (iv k)).put 8 (iv k)).put 9 (.ptr 1 0 0)).put 27 (.view false 2 (l.map ekR))).put 28 (iv l.length)).put 29 (iv (i + 1 : Nat))) s' → K2 s' (.rows 66 [st v] :: .rows 66 [st w] :: Z) := fun w Z s' hw hs => by
          refine hK2 (i + 1) _ _ hi' (by omega) (Wk.drop (m := 2) hs (Nat.zero_le _) (by simp) (by simp [chLt, AV.lt]) ?_ (by simp [Blk.lt, st_lt]))
          rw [st_ext (fun j _ => hw j)]
          rfl
        refine condD_bool (fun h1 => ?_) (fun h1 => ?_)
        · have h1 : v i = false := by simpa using h1
          simp only [go_sem,e1]
          exact next _ _ _ (np_same hLi (.inl h1)) (by simp [wkS, Ch.get])
        have h1 : v i = true := by simpa using h1
        simp only [go_sem]
        refine condD_bool (fun h2 => ?_) (fun h2 => ?_)
        · simp only [go_sem,g2,g5,st_len,st_put (show i < 66 by omega),e1]
          exact next _ _ _ (np_star hLi h1 (by rw [ekS_el]; exact h2)) (by simp [wkS, Ch.get])
        · simp only [go_sem]
          refine draw [.qu 0 0, .qu 0 0, .qu 0 0, .qu 0 0, .qu 0 0, .mn 0, .qu 1 1] (by kernel_rfl) (by kernel_rfl) ?_
          simp only [go_sem,ekF_eq h2,g6,bsz,bdt,hsc]
          refine dM_call (ekG_in h2) (has_u h2 c _) ?_
          simp only [go_sem]
          refine condD_bool (fun h3 => ?_) (fun h3 => ?_)
          · simp only [go_sem,e1,g3,g4,st_len,st_put (show i + 1 < 66 by omega)]
            exact next _ _ _ (np_one hLi h1 (by rw [ekS_el]; exact h2) h3) (by simp [wkS, Ch.get])
          · simp only [go_sem,e1]
            exact next _ _ _ (np_same hLi (.inr ⟨by rw [ekS_el]; exact h2, h3⟩)) (by simp [wkS, Ch.get])
      · simp only [go_sem,st_take,st_len,st_one,st_drop]
        obtain rfl : i = l.length := by omega
        have hnp : np (elL l) c v l.length = Glob.stp (elL l) c v := funext fun j => by
          have := np_end (elL l) c v j
          rwa [show (elL l).length = l.length by simp [elL]] at this
        rw [hnp]
        refine rK_use (Go.AM.enters_of Tryz.func25 rfl (by decide)) (ACalls.pure_use (open_c l hl (Glob.stp (elL l) c v)) (by simp [ltL, AV.lt, st_lt]) (by simp [AV.lt, st_lt])) ?_
        simp only [go_sem,st_take,st_len,st_one,st_drop,ek]
        refine hK (k + 1, _) _ _ ⟨hc', hv⟩ (by simp; omega) (Wk.drop (m := 1) (by simp [wkS, Ch.get]) (Nat.zero_le _) (by simp) (by simp [chLt, AV.lt]) rfl (by simp [Blk.lt, st_lt]))
    · have hks : k = s.length := by omega
      subst hks
      have g1 : (0 : Int) ≤ (l.length : Int) ∧ (l.length : Int) < 66 := by omega
      simp only [go_sem,List.length_map,g1,st_get (show l.length < 66 by omega),st_len]
      refine finv rfl ?_ _
      rw [← hpost, hgl, hv]
      simp [Glob.run]
end Go.Proofs.YtigmnlnomhjecaaGreatDoor
set_option maxRecDepth 100000
set_option linter.unusedVariables false
set_option linter.unusedSimpArgs false
namespace Go.Proofs.YtigmnlnomhjecaaGreatDoor
open Go.AM
open Go.Glob (Bs EK El)
def bothAt (e f : El) (n : Nat) : Bool := (e.star || e.has (UInt8.ofNat n)) && (f.star || f.has (UInt8.ofNat n))
theorem bothB_no {e f : El} (h : ∀ n, n < 256 → bothAt e f n = false) : Glob.bothB e f = false := by
  rw [Bool.eq_false_iff]
  intro hb
  obtain ⟨n, hn, h1⟩ := List.any_eq_true.1 hb
  have := h n (List.mem_range.1 hn)
  rw [bothAt] at this
  rw [this] at h1
  cases h1
theorem bothB_yes {e f : El} {n : Nat} (hn : n < 256) (h : bothAt e f n = true) : Glob.bothB e f = true := List.any_eq_true.2 ⟨n, List.mem_range.2 hn, h⟩
theorem some_c (a b : EK) : ACalls Tryz.prog 27 [.agg (ekR a), .agg (ekR b)] [] (fun o H => o = .ret (.bool (Glob.bothB a.el b.el)) ∧ H = []) := by
  refine ACalls.up ?_
  refine ACalls.intro (cs := []) (n := 30) Tryz.func27 rfl rfl rfl (by kernel_rfl) rfl ?_
  generalize hpost : (fun (o : Out) (H : Heap) => o = Out.ret (.bool (Glob.bothB a.el b.el)) ∧ H = []) = post
  have yes : ∀ H, Glob.bothB a.el b.el = true → Up 0 post (.ret (.bool true)) H := fun H h => finv rfl (by rw [← hpost, h]; exact ⟨rfl, rfl⟩) H
  have no : ∀ H, Glob.bothB a.el b.el = false → Up 0 post (.ret (.bool false)) H := fun H h => finv rfl (by rw [← hpost, h]; exact ⟨rfl, rfl⟩) H
  simp only [go_sem,ekR,↓ekF_one]
  refine loop_fam (fun c : Nat => ((Ch.nil.put 2 (.ptr 0 0 0)).put 3 (.ptr 1 0 0)).put 6 (iv c)) (fun _ => [.rows 2 [[.bool (ekS a), ekF a]], .rows 2 [[.bool (ekS b), ekF b]]]) (fun c => 256 - c) (fun c => c ≤ 256 ∧ ∀ n, n < c → bothAt a.el b.el n = false) 0 (by kernel_rfl) ⟨by omega, fun n hn => absurd hn (Nat.not_lt_zero _)⟩ (Wk.slots' rfl (by simp [wkS, Ch.get])) ?_
  rintro c ⟨hc, hno⟩ K hK
  simp only [go_sem]
  refine condD_dec (fun hd => ?_) (fun hd => ?_)
  · have hc' : c < 256 := by omega
    have e1 : iw .i64 ((c : Int) + 1) = ((c + 1 : Nat) : Int) := by rw [iw64] <;> omega
    have e2 : iw .u8 (c : Int) = ((UInt8.ofNat c).toNat : Int) := by rw [iwu8 (by omega) (by omega), u8_of c hc']
    have next : ∀ s' H', H' = [.rows 2 [[.bool (ekS a), ekF a]], .rows 2 [[.bool (ekS b), ekF b]]] → wkS (((Ch.nil.put 2 (.ptr 0 0 0)).put 3 (.ptr 1 0 0)).put 6 (iv (c + 1 : Nat))) s' → bothAt a.el b.el c = false → K s' H' := fun s' H' hH hs hb => by
      refine hK (c + 1) _ _ ⟨hc', fun n hn => ?_⟩ (by omega) (Wk.slots' hH hs)
      rcases Nat.lt_or_eq_of_le (Nat.le_of_lt_succ hn) with h | rfl
      · exact hno n h
      · exact hb
    have hat : bothAt a.el b.el c = ((ekS a || a.el.has (UInt8.ofNat c)) && (ekS b || b.el.has (UInt8.ofNat c))) := by rw [bothAt, ekS_el, ekS_el]
    simp only [go_sem]
    refine gD_bool (fun h1 => ?_) (fun h1 => ?_)
    · simp only [go_sem,h1]
      refine gD_bool (fun h2 => ?_) (fun h2 => ?_)
      · simp only [go_sem,h2]
        exact yes _ (bothB_yes hc' (by rw [hat, h1, h2]; rfl))
      · simp only [go_sem,h2,ekF_eq h2,e2]
        refine rK_use (ekG_in h2) (has_u h2 (UInt8.ofNat c) _) ?_
        simp only [go_sem]
        refine condD_bool (fun h3 => ?_) (fun h3 => ?_)
        · simp only [go_sem]
          exact yes _ (bothB_yes hc' (by rw [hat, h1, h2, h3]; rfl))
        · simp only [go_sem,e1]
          exact next _ _ (by simp only [h1, h2, ekF_eq h2]) (by simp [wkS, Ch.get]) (by rw [hat, h1, h2, h3]; rfl)
    · simp only [go_sem,h1,ekF_eq h1,e2]
      refine rK_use (ekG_in h1) (has_u h1 (UInt8.ofNat c) _) ?_
      simp only [go_sem]
      refine gD_bool (fun h3 => ?_) (fun h3 => ?_)
      · simp only [go_sem,h3]
        refine gD_bool (fun h2 => ?_) (fun h2 => ?_)
        · simp only [go_sem,h2]
          exact yes _ (bothB_yes hc' (by rw [hat, h1, h2, h3]; rfl))
        · simp only [go_sem,h2,ekF_eq h2,e2]
          refine rK_use (ekG_in h2) (has_u h2 (UInt8.ofNat c) _) ?_
          simp only [go_sem]
          refine condD_bool (fun h4 => ?_) (fun h4 => ?_)
          · simp only [go_sem]
            exact yes _ (bothB_yes hc' (by rw [hat, h1, h2, h3, h4]; rfl))
          · simp only [go_sem,e1]
            exact next _ _ (by simp only [h1, h2, ekF_eq h2, ekF_eq h1]) (by simp [wkS, Ch.get]) (by rw [hat, h1, h2, h3, h4]; rfl)
      · simp only [go_sem,h3,e1]
        exact next _ _ (by simp only [h1, ekF_eq h1]) (by simp [wkS, Ch.get]) (by rw [hat, h1, h3]; rfl)
  · simp only [go_sem]
    obtain rfl : c = 256 := by omega
    exact no _ (bothB_no hno)
end Go.Proofs.YtigmnlnomhjecaaGreatDoor
set_option maxRecDepth 100000
set_option linter.unusedVariables false
set_option linter.unusedSimpArgs false
namespace Go.Proofs.YtigmnlnomhjecaaGreatDoor
open Go.AM
open Go.Glob (Bs EK El)
def pr (A B : Nat → Bool) (i j : Nat) : Bool := (decide (j < i) && A j) || (match j with | 0 => false | m + 1 => decide (m < i) && B m)
theorem pr_zero (A B : Nat → Bool) (j : Nat) : pr A B 0 j = false := by cases j <;> simp [pr]
theorem pr_lt {A : Nat → Bool} {i : Nat} (h : A i = false) (j : Nat) : (decide (j < i + 1) && A j) = (decide (j < i) && A j) := by
  by_cases hj : j = i
  · subst hj; simp [h]
  · have : j < i + 1 ↔ j < i := by omega
    simp [this]
theorem pr_same {A B : Nat → Bool} {i : Nat} (h1 : A i = false) (h2 : B i = false) (j : Nat) : pr A B (i + 1) j = pr A B i j := by
  unfold pr
  rw [pr_lt h1]
  cases j with
  | zero => rfl
  | succ m => simp only; rw [pr_lt h2]
theorem pr_a {A B : Nat → Bool} {i : Nat} (h1 : A i = true) (h2 : B i = false) (j : Nat) : pr A B (i + 1) j = upd (pr A B i) i true j := by
  unfold upd
  by_cases hj : j = i
  · subst hj
    rw [if_pos rfl]
    unfold pr
    rw [h1]
    simp
  · rw [if_neg hj]
    have : j < i + 1 ↔ j < i := by omega
    unfold pr
    simp only [this]
    cases j with
    | zero => rfl
    | succ m => simp only; rw [pr_lt h2]
theorem pr_b {A B : Nat → Bool} {i : Nat} (h1 : A i = false) (h2 : B i = true) (j : Nat) : pr A B (i + 1) j = upd (pr A B i) (i + 1) true j := by
  unfold upd
  by_cases hj : j = i + 1
  · subst hj
    rw [if_pos rfl]
    unfold pr
    simp [h2]
  · rw [if_neg hj]
    unfold pr
    rw [pr_lt h1]
    cases j with
    | zero => rfl
    | succ m =>
      have : m < i + 1 ↔ m < i := by omega
      simp only [this]
def rs (m : List El) (v : Nat → Bool) (i : Nat) : Nat → Bool := fun j => if j ≤ i then Glob.rst m Glob.anyB v j else v j
theorem rs_zero (m : List El) (v : Nat → Bool) (j : Nat) : rs m v 0 j = v j := by
  unfold rs
  split
  · rename_i h
    obtain rfl : j = 0 := by omega
    rfl
  · rfl
theorem rs_step (m : List El) (v : Nat → Bool) (i : Nat) {f : El} (h : m[i]? = some f) (j : Nat) : rs m v (i + 1) j = (if rs m v i i && Glob.anyB f then upd (rs m v i) (i + 1) true else rs m v i) j := by
  have h1 : rs m v i i = Glob.rst m Glob.anyB v i := by simp [rs]
  rw [h1]
  by_cases hj : j = i + 1
  · subst hj
    have h2 : rs m v (i + 1) (i + 1) = Glob.rst m Glob.anyB v (i + 1) := by simp [rs]
    have h3 : rs m v i (i + 1) = v (i + 1) := by
      have : ¬ i + 1 ≤ i := by omega
      simp [rs, this]
    rw [h2, Glob.rst, h]
    simp only
    cases Glob.anyB f <;> cases Glob.rst m Glob.anyB v i <;> simp [upd, h3]
  · have h2 : rs m v (i + 1) j = rs m v i j := by
      by_cases h3 : j ≤ i
      · simp [rs, h3, show j ≤ i + 1 by omega]
      · simp [rs, h3, show ¬ j ≤ i + 1 by omega]
    rw [h2]
    split <;> simp [upd, hj]
theorem rs_end (m : List El) (v : Nat → Bool) (j : Nat) : rs m v m.length j = Glob.rst m Glob.anyB v j := by
  unfold rs
  split
  · rfl
  · rename_i h
    obtain ⟨k, rfl⟩ : ∃ k, j = k + 1 := ⟨j - 1, by omega⟩
    rw [Glob.rst, List.getElem?_eq_none (by omega)]
    simp
theorem any_both (e f : El) (he : e.star = true) : (f.star || Glob.bothB e f) = Glob.anyB f := by
  unfold Glob.anyB Glob.bothB
  cases hf : f.star with
  | true => rfl
  | false => simp [he]
def roA (m : List El) (e : El) (v : Nat → Bool) (j : Nat) : Bool := match m[j]? with | some f => f.star && (v j && Glob.bothB e f) | none => false
def roB (m : List El) (e : El) (v : Nat → Bool) (j : Nat) : Bool := match m[j]? with | some f => !f.star && (v j && Glob.bothB e f) | none => false
theorem pr_end (m : List El) (e : El) (v : Nat → Bool) (j : Nat) : pr (roA m e v) (roB m e v) m.length j = Glob.ron m (Glob.bothB e) v j := by
  have h1 : ∀ j, (decide (j < m.length) && roA m e v j) = roA m e v j := fun j => by
    by_cases h : j < m.length
    · simp [h]
    · simp [h, roA]
  have h2 : ∀ j, (decide (j < m.length) && roB m e v j) = roB m e v j := fun j => by
    by_cases h : j < m.length
    · simp [h]
    · simp [h, roB]
  unfold pr Glob.ron
  rw [h1]
  cases j with
  | zero => rfl
  | succ k =>
    simp only
    rw [h2]
    rfl
theorem set_st (R : List (Nat → Bool)) (i : Nat) (v : Nat → Bool) : (R.map st).set i (st v) = (R.set i v).map st := by rw [List.map_set]
theorem stR_lt (R : List (Nat → Bool)) : ∀ row ∈ R.map st, ltL 0 row = true := rows_lt (fun v => st_lt 0 v) R
theorem stR_lt' (m : Nat) (R : List (Nat → Bool)) : (Blk.rows 66 (R.map st)).lt m := blt0 (stR_lt R)
def zz : Nat → Bool := fun _ => false
def zr (n : Nat) : List (Nat → Bool) := List.replicate n zz
theorem zr_len (n : Nat) : (zr n).length = n := by simp [zr]
theorem zr_get {n i : Nat} (h : i < n) : (zr n)[i]? = some zz := by simp [zr, h]
theorem zr_put (n : Nat) : List.take n ((zr n).map st) ++ [st zz] = (zr (n + 1)).map st := by
  rw [List.take_of_length_le (by simp [zr]), zr, zr, List.replicate_succ', List.map_append]
  rfl
theorem st_zz : (AV.bool false :: AV.bool false :: AV.bool false :: AV.bool false :: AV.bool false :: AV.bool false :: AV.bool false :: AV.bool false :: AV.bool false :: AV.bool false :: AV.bool false :: AV.bool false :: AV.bool false :: AV.bool false :: AV.bool false :: AV.bool false :: AV.bool false :: AV.bool false :: AV.bool false :: AV.bool false :: AV.bool false :: AV.bool false :: AV.bool false :: AV.bool false :: AV.bool false :: AV.bool false :: AV.bool false :: AV.bool false :: AV.bool false :: AV.bool false :: AV.bool false :: AV.bool false :: AV.bool false :: AV.bool false :: AV.bool false :: AV.bool false :: AV.bool false :: AV.bool false :: AV.bool false :: AV.bool false :: AV.bool false :: AV.bool false :: AV.bool false :: AV.bool false :: AV.bool false :: AV.bool false :: AV.bool false :: AV.bool false :: AV.bool false :: AV.bool false :: AV.bool false :: AV.bool false :: AV.bool false :: AV.bool false :: AV.bool false :: AV.bool false :: AV.bool false :: AV.bool false :: AV.bool false :: AV.bool false :: AV.bool false :: AV.bool false :: AV.bool false :: AV.bool false :: AV.bool false :: AV.bool false :: []) = st zz := st_zero
theorem two_lt (R : List (Nat → Bool)) (x : Bool) (e : EK) (n : Nat) : ∀ b ∈ ([.rows 66 (R.map st), .rows 2 [[.bool x, ekF e]]] : Heap), b.lt n := by
  intro b hb
  rcases List.mem_cons.1 hb with rfl | hb
  · exact stR_lt' _ _
  · rw [List.mem_singleton.1 hb]
    simp [Blk.lt, ltL, AV.lt, ekF_lt]
theorem meet_c (a b : Bs) : ACalls Tryz.prog 12 [Sv a, Sv b] [] (fun o H => o = .ret (.bool (Glob.mtB a b)) ∧ H = []) := by
  refine ACalls.up ?_
  refine ACalls.intro (cs := []) (n := 148) Tryz.func12 rfl rfl rfl (by kernel_rfl) rfl ?_
  generalize hpost : (fun (o : Out) (H : Heap) => o = Out.ret (.bool (Glob.mtB a b)) ∧ H = []) = post
  have hmt : Glob.mtB a b = match Glob.prsK a, Glob.prsK b with
      | some l, some m => Glob.meet (elL (Glob.wholeK l)) (elL (Glob.wholeK m)) Glob.anyB Glob.bothB
      | _, _ => false := by
    rw [Glob.mtB, Glob.prs_eq, Glob.prs_eq]
    cases Glob.prsK a with
    | none => rfl
    | some l =>
      cases Glob.prsK b with
      | none => rfl
      | some m => simp only [Option.map_some, whole_el]
  have no : Glob.mtB a b = false → ∀ H, Up 0 post (.ret (.bool false)) H := fun h H => finv rfl (by rw [← hpost, h]; exact ⟨rfl, rfl⟩) H
  have hw : ∀ b : Bs, ∃ xs ok, wholeV b = .tuple [.view false 2 xs, .bool ok] ∧ (wholeV b).lt 0 = true := fun b => by
    unfold wholeV
    split
    · exact ⟨_, _, rfl, rfl⟩
    · exact ⟨_, _, rfl, rfl⟩
  simp only [go_sem]
  refine rK_use (Go.AM.enters_of Tryz.func24 rfl (by decide)) (ACalls.pure_use (whole_c a) rfl (hw a).choose_spec.choose_spec.2) ?_
  obtain ⟨xa, oa, ea, _⟩ := hw a
  simp only [go_sem,ea]
  refine rK_use (Go.AM.enters_of Tryz.func24 rfl (by decide)) (ACalls.pure_use (whole_c b) rfl (hw b).choose_spec.choose_spec.2) ?_
  obtain ⟨xb, ob, eb, _⟩ := hw b
  simp only [go_sem,eb]
  cases h1 : Glob.prsK a with
  | none =>
    rw [wholeV, h1] at ea
    cases ea
    simp only [go_sem]
    exact no (by rw [hmt, h1]) _
  | some la =>
  rw [wholeV, h1] at ea
  cases ea
  cases h2 : Glob.prsK b with
  | none =>
    rw [wholeV, h2] at eb
    cases eb
    simp only [go_sem]
    exact no (by rw [hmt, h1, h2]) _
  | some lb =>
  rw [wholeV, h2] at eb
  cases eb
  rw [h1, h2] at hmt
  simp only at hmt
  have hl := prsK_len h1
  have hm := prsK_len h2
  generalize Glob.wholeK la = l at *
  generalize Glob.wholeK lb = m at *
  have e0 : iw .i64 ((l.length : Int) + 1) = ((l.length + 1 : Nat) : Int) := by rw [iw64] <;> omega
  simp only [go_sem,List.length_map,e0]
  refine loop_fam (fun i : Nat => (((((Ch.nil.put 5 (.view false 2 (l.map ekR))).put 7 (.view false 2 (m.map ekR))).put 9 (.sl 0 0 i none)).put 35 (iv (l.length + 1 : Nat))).put 36 (iv i)))
    (fun i => [.rows 66 ((zr i).map st)]) (fun i => l.length + 1 - i) (fun i => i ≤ l.length + 1) 0 (by kernel_rfl) (Nat.zero_le _) ?_ ?_
  · refine (Wk.slots' (s' := (((((Ch.nil.put 5 (.view false 2 (l.map ekR))).put 7 (.view false 2 (m.map ekR))).put 9 (.sl 0 0 0 (some 0))).put 35 (iv (l.length + 1 : Nat))).put 36 (iv 0))) rfl (by simp [wkS, Ch.get])).trans (Wk.le (.cons _ (.cons _ (.cons _ (LeC.refl _) (.cap _ _ _ _)) (.refl _)) (.refl _)) (LeH.refl _))
  · rintro i hi K hK
    simp only [go_sem]
    refine condD_dec (fun hd => ?_) (fun hd => ?_)
    · have e1 : iw .i64 ((i : Int) + 1) = ((i + 1 : Nat) : Int) := by rw [iw64] <;> omega
      have g1 : i ≤ 68719476735 := by omega
      simp only [go_sem,st_zz,st_one,st_len,e1,List.length_map,zr_len,g1,zr_put]
      exact hK (i + 1) _ _ (by omega) (by omega) (Wk.push (A := []) (b := .rows 66 ((zr (i + 1)).map st)) 2 rfl rfl (by simp) (by simp) (stR_lt' _ _) (by simp) (by simp [wkP, Ch.get, AV.ren, pu_lt, pu_eq]))
    · obtain rfl : i = l.length + 1 := by omega
      have g1 : (0 : Int) < ((l.length + 1 : Nat) : Int) := by omega
      have g2 : (0 : Nat) < l.length + 1 := by omega
      simp only [go_sem,st_start]
      refine rK_use (Go.AM.enters_of Tryz.func25 rfl (by decide)) (ACalls.pure_use (open_c m hm Glob.start) (by simp [ltL, AV.lt, st_lt]) (by simp [AV.lt, st_lt])) ?_
      simp only [go_sem,List.length_map,zr_len,List.getElem?_map,zr_get g2,g1,g2,st_take,st_drop,st_one,st_len,set_st]
      refine loop_fam (fun q : Nat × List (Nat → Bool) => (((((Ch.nil.put 5 (.view false 2 (l.map ekR))).put 7 (.view false 2 (m.map ekR))).put 9 (.sl 0 0 (l.length + 1) none)).put 48 (.view false 2 (l.map ekR))).put 49 (iv l.length)).put 50 (iv q.1))
        (fun q => [.rows 66 (q.2.map st)]) (fun q => l.length - q.1)
        (fun q => q.1 ≤ l.length ∧ q.2.length = l.length + 1 ∧ (∀ j, q.1 < j → j ≤ l.length → q.2[j]? = some zz) ∧ ∃ v, q.2[q.1]? = some v ∧ Glob.meet (elL l) (elL m) Glob.anyB Glob.bothB = Glob.rows (elL m) Glob.anyB Glob.bothB ((elL l).drop q.1) v m.length)
        (0, (zr (l.length + 1)).set 0 (Glob.opn (elL m) Glob.start)) (by kernel_rfl) ⟨Nat.zero_le _, by simp [zr_len], ?_, Glob.opn (elL m) Glob.start, ?_, ?_⟩ (Wk.slots' rfl (by simp [wkS, Ch.get])) ?_
      · intro j h1 h2
        rw [List.getElem?_set_ne (by omega), zr_get (by omega)]
      · rw [List.getElem?_set_self (by rw [zr_len]; omega)]
      · rw [Glob.meet, List.drop_zero]
        simp [elL]
      rintro ⟨i, R⟩ ⟨hi, hRl, hRz, v, hRv, hv⟩ K hK
      simp only at hi hRl hRz hRv hv
      simp only [go_sem]
      refine condD_dec (fun hd => ?_) (fun hd => ?_)
      · have hi' : i < l.length := by omega
        obtain ⟨e, he⟩ := at_lt hi'
        have hLi : (elL l)[i]? = some e.el := by simp [elL, he]
        have g3 : (0 : Int) ≤ (i : Int) ∧ (i : Int) < l.length := by omega
        have g4 : (0 : Int) ≤ (i : Int) ∧ (i : Int) < ((l.length + 1 : Nat) : Int) := by omega
        have g5 : (0 : Int) ≤ ((i + 1 : Nat) : Int) ∧ ((i + 1 : Nat) : Int) < ((l.length + 1 : Nat) : Int) := by omega
        have e1 : iw .i64 ((i : Int) + 1) = ((i + 1 : Nat) : Int) := by rw [iw64] <;> omega
        have hRn := hRz (i + 1) (by omega) (by omega)
        have hdr : Glob.rows (elL m) Glob.anyB Glob.bothB ((elL l).drop i) v m.length = Glob.rows (elL m) Glob.anyB Glob.bothB ((elL l).drop (i + 1)) (if e.el.star = true then Glob.rst (elL m) Glob.anyB v else Glob.opn (elL m) (Glob.ron (elL m) (Glob.bothB e.el) v)) m.length := by
          rw [Go.AM.drop_at hLi, Glob.rows]
        simp only [go_sem,g3,e1,List.length_map,List.getElem?_map,he,ekR,↓ekF_one]
        refine condD_bool (fun hs => ?_) (fun hs => ?_)
        · simp only [go_sem,List.length_map]
          refine loop_fam (fun k : Nat => (((((((((((Ch.nil.put 5 (.view false 2 (l.map ekR))).put 7 (.view false 2 (m.map ekR))).put 9 (.sl 0 0 (l.length + 1) none)).put 10 (iv i)).put 11 (.ptr 1 0 0)).put 48 (.view false 2 (l.map ekR))).put 49 (iv l.length)).put 50 (iv i)).put 57 (.view false 2 (m.map ekR))).put 58 (iv m.length)).put 59 (iv k))) (fun k => [.rows 66 ((R.set i (rs (elL m) v k)).map st), .rows 2 [[.bool (ekS e), ekF e]]]) (fun k => m.length - k) (fun k => k ≤ m.length) 0 (by kernel_rfl) (Nat.zero_le _) (Wk.slots' ?_ (by simp [wkS, Ch.get])) ?_
          · rw [show rs (elL m) v 0 = v from funext (rs_zero _ _), List.set_getElem?_self' hRv]
          rintro k hk K2 hK2
          simp only [go_sem]
          refine condD_dec (fun hc => ?_) (fun hc => ?_)
          · have hk' : k < m.length := by omega
            obtain ⟨f, hf⟩ := at_lt hk'
            have hMk : (elL m)[k]? = some f.el := by simp [elL, hf]
            have q1 : (0 : Int) ≤ (k : Int) ∧ (k : Int) < m.length := by omega
            have q2 : (0 : Int) ≤ (k : Int) ∧ (k : Int) < 66 := by omega
            have q3 : (0 : Int) ≤ ((k + 1 : Nat) : Int) ∧ ((k + 1 : Nat) : Int) < 66 := by omega
            have q4 : k ≤ 64 := by omega
            have q5 : i < l.length + 1 := by omega
            have e2 : iw .i64 ((k : Int) + 1) = ((k + 1 : Nat) : Int) := by rw [iw64] <;> omega
            have hgi : (R.set i (rs (elL m) v k))[i]? = some (rs (elL m) v k) := List.getElem?_set_self (by omega)
            have next : ∀ (w : Nat → Bool) (Z : Heap) (s' : Ch), (∀ j, rs (elL m) v (k + 1) j = w j) → wkS ((((((((((((Ch.nil.put 5 (.view false 2 (l.map ekR))).put 7 (.view false 2 (m.map ekR))).put 9 (.sl 0 0 (l.length + 1) none)).put 10 (iv i)).put 11 (.ptr 1 0 0)).put 48 (.view false 2 (l.map ekR))).put 49 (iv l.length)).put 50 (iv i)).put 57 (.view false 2 (m.map ekR))).put 58 (iv m.length)).put 59 (iv (k + 1 : Nat)))) s' → K2 s' (.rows 66 ((R.set i w).map st) :: .rows 2 [[.bool (ekS e), ekF e]] :: Z) := fun w Z s' hw hs' => by
              refine hK2 (k + 1) _ _ hk' (by omega) (Wk.drop (m := 2) hs' (Nat.zero_le _) (by simp) (by simp [chLt, AV.lt]) ?_ (two_lt _ _ _ _))
              rw [show rs (elL m) v (k + 1) = w from funext hw]
              rfl
            have hany := any_both e.el f.el (by rw [ekS_el]; exact hs)
            rw [ekS_el] at hany
            have hstep := rs_step (elL m) v k hMk
            simp only [go_sem,q1,List.length_map,List.getElem?_map,hf,ekR,↓ekF_one,List.length_set,hRl,g4,hgi,q2,st_get (show k < 66 by omega),st_len]
            refine gD_bool (fun h3 => ?_) (fun h3 => ?_)
            · simp only [go_sem,h3]
              refine gD_bool (fun h4 => ?_) (fun h4 => ?_)
              · simp only [go_sem,h4,List.length_map,List.getElem?_map,↓ekF_one,List.length_set,hRl,g4,g5,e1,hgi,q2,q3,q4,st_len,e2,st_put (show k + 1 < 66 by omega),set_st,List.set_set,q5]
                exact next _ _ _ (fun j => by rw [hstep, h3, ← hany, h4]; rfl) (by simp [wkS, Ch.get])
              · simp only [go_sem,h4]
                have hsm := some_c e f
                simp only [ekR, h4] at hsm
                refine rK_use (Go.AM.enters_of Tryz.func27 rfl (by decide)) (ACalls.pure_use hsm (by simp [ltL, AV.lt, ekF_lt]) rfl) ?_
                simp only [go_sem]
                refine condD_bool (fun h5 => ?_) (fun h5 => ?_)
                · simp only [go_sem,List.length_map,List.getElem?_map,↓ekF_one,List.length_set,hRl,g4,g5,e1,hgi,q2,q3,q4,st_len,e2,st_put (show k + 1 < 66 by omega),set_st,List.set_set,q5]
                  exact next _ _ _ (fun j => by rw [hstep, h3, ← hany, h4, h5]; rfl) (by simp [wkS, Ch.get])
                · simp only [go_sem,e2]
                  exact next _ _ _ (fun j => by rw [hstep, h3, ← hany, h4, h5]; rfl) (by simp [wkS, Ch.get])
            · simp only [go_sem,h3,e2]
              exact next _ _ _ (fun j => by rw [hstep, h3]; rfl) (by simp [wkS, Ch.get])
          · obtain rfl : k = m.length := by omega
            have q5 : i < l.length + 1 := by omega
            have q7 : i + 1 < l.length + 1 := by omega
            have hgi : (R.set i (rs (elL m) v m.length))[i]? = some (rs (elL m) v m.length) := List.getElem?_set_self (by omega)
            have hgn : (R.set i (rs (elL m) v m.length))[i + 1]? = some zz := by rw [List.getElem?_set_ne (by omega), hRn]
            simp only [go_sem,List.length_map,List.getElem?_map,List.length_set,hRl,g4,g5,e1,hgi,hgn,st_take,st_drop,st_len,st_one,set_st,q5,q7]
            refine hK (i + 1, (R.set i (rs (elL m) v m.length)).set (i + 1) (rs (elL m) v m.length)) _ _ ⟨hi', by simp [hRl], ?_, rs (elL m) v m.length, ?_, ?_⟩ (by simp; omega) (Wk.drop (m := 1) (by simp [wkS, Ch.get]) (Nat.zero_le _) (by simp) (by simp [chLt, AV.lt]) rfl (fun b hb => by rw [List.mem_singleton.1 hb]; exact stR_lt' _ _))
            · intro j h1 h2
              rw [List.getElem?_set_ne (by simp at h1; omega), List.getElem?_set_ne (by simp at h1; omega)]
              exact hRz j (by simp at h1; omega) h2
            · exact List.getElem?_set_self (by simp [hRl]; omega)
            · have hrs : rs (elL m) v m.length = Glob.rst (elL m) Glob.anyB v := funext fun j => by
                have := rs_end (elL m) v j
                rwa [show (elL m).length = m.length by simp [elL]] at this
              rw [hv, hdr, if_pos (by rw [ekS_el]; exact hs), hrs]
        · simp only [go_sem,List.length_map]
          refine loop_fam (fun k : Nat => (((((((((((Ch.nil.put 5 (.view false 2 (l.map ekR))).put 7 (.view false 2 (m.map ekR))).put 9 (.sl 0 0 (l.length + 1) none)).put 10 (iv i)).put 11 (.ptr 1 0 0)).put 48 (.view false 2 (l.map ekR))).put 49 (iv l.length)).put 50 (iv i)).put 94 (.view false 2 (m.map ekR))).put 95 (iv m.length)).put 96 (iv k))) (fun k => [.rows 66 ((R.set (i + 1) (pr (roA (elL m) e.el v) (roB (elL m) e.el v) k)).map st), .rows 2 [[.bool (ekS e), ekF e]]]) (fun k => m.length - k) (fun k => k ≤ m.length) 0 (by kernel_rfl) (Nat.zero_le _) (Wk.slots' ?_ (by simp [wkS, Ch.get])) ?_
          · rw [show pr (roA (elL m) e.el v) (roB (elL m) e.el v) 0 = zz from funext (pr_zero _ _), List.set_getElem?_self' hRn]
          rintro k hk K2 hK2
          simp only [go_sem]
          refine condD_dec (fun hc => ?_) (fun hc => ?_)
          · have hk' : k < m.length := by omega
            obtain ⟨f, hf⟩ := at_lt hk'
            have hMk : (elL m)[k]? = some f.el := by simp [elL, hf]
            have q1 : (0 : Int) ≤ (k : Int) ∧ (k : Int) < m.length := by omega
            have q2 : (0 : Int) ≤ (k : Int) ∧ (k : Int) < 66 := by omega
            have q3 : (0 : Int) ≤ ((k + 1 : Nat) : Int) ∧ ((k + 1 : Nat) : Int) < 66 := by omega
            have q4 : k ≤ 64 := by omega
            have q6 : k ≤ 65 := by omega
            have q5 : i + 1 < l.length + 1 := by omega
            have e2 : iw .i64 ((k : Int) + 1) = ((k + 1 : Nat) : Int) := by rw [iw64] <;> omega
            have hgi : ∀ w, (R.set (i + 1) w)[i]? = some v := fun w => by rw [List.getElem?_set_ne (by omega), hRv]
            have hgn : ∀ w, (R.set (i + 1) w)[i + 1]? = some w := fun w => List.getElem?_set_self (by omega)
            have next : ∀ (w : Nat → Bool) (Z : Heap) (s' : Ch), (∀ j, pr (roA (elL m) e.el v) (roB (elL m) e.el v) (k + 1) j = w j) → wkS ((((((((((((Ch.nil.put 5 (.view false 2 (l.map ekR))).put 7 (.view false 2 (m.map ekR))).put 9 (.sl 0 0 (l.length + 1) none)).put 10 (iv i)).put 11 (.ptr 1 0 0)).put 48 (.view false 2 (l.map ekR))).put 49 (iv l.length)).put 50 (iv i)).put 94 (.view false 2 (m.map ekR))).put 95 (iv m.length)).put 96 (iv (k + 1 : Nat)))) s' → K2 s' (.rows 66 ((R.set (i + 1) w).map st) :: .rows 2 [[.bool (ekS e), ekF e]] :: Z) := fun w Z s' hw hs' => by
              refine hK2 (k + 1) _ _ hk' (by omega) (Wk.drop (m := 2) hs' (Nat.zero_le _) (by simp) (by simp [chLt, AV.lt]) ?_ (two_lt _ _ _ _))
              rw [show pr (roA (elL m) e.el v) (roB (elL m) e.el v) (k + 1) = w from funext hw]
              rfl
            have hA : roA (elL m) e.el v k = (ekS f && (v k && Glob.bothB e.el f.el)) := by rw [roA, hMk, ← ekS_el]
            have hB : roB (elL m) e.el v k = (!ekS f && (v k && Glob.bothB e.el f.el)) := by rw [roB, hMk, ← ekS_el]
            simp only [go_sem,q1,List.length_map,List.getElem?_map,hf,ekR,↓ekF_one,List.length_set,hRl,g4,hgi,q2,st_get (show k < 66 by omega),st_len]
            refine gD_bool (fun h3 => ?_) (fun h3 => ?_)
            · simp only [go_sem,h3]
              refine rK_use (Go.AM.enters_of Tryz.func27 rfl (by decide)) (ACalls.pure_use (some_c e f) (by simp [ltL, AV.lt, ekR_lt]) rfl) ?_
              simp only [go_sem]
              refine condD_bool (fun h5 => ?_) (fun h5 => ?_)
              · simp only [go_sem]
                refine condD_bool (fun h4 => ?_) (fun h4 => ?_)
                · simp only [go_sem,List.length_map,List.getElem?_map,↓ekF_one,List.length_set,hRl,g4,g5,e1,hgn,q2,q3,q4,q6,q5,st_len,e2,set_st,List.set_set,st_put (show k < 66 by omega)]
                  exact next _ _ _ (pr_a (by rw [hA, h3, h4, h5]; rfl) (by rw [hB, h4]; rfl)) (by simp [wkS, Ch.get])
                · simp only [go_sem,List.length_map,List.getElem?_map,↓ekF_one,List.length_set,hRl,g4,g5,e1,hgn,q2,q3,q4,q6,q5,st_len,e2,set_st,List.set_set,st_put (show k + 1 < 66 by omega)]
                  exact next _ _ _ (pr_b (by rw [hA, h4]; rfl) (by rw [hB, h3, h4, h5]; rfl)) (by simp [wkS, Ch.get])
              · simp only [go_sem,e2]
                exact next _ _ _ (pr_same (by rw [hA, h5]; simp) (by rw [hB, h5]; simp)) (by simp [wkS, Ch.get])
            · simp only [go_sem,h3,e2]
              exact next _ _ _ (pr_same (by rw [hA, h3]; simp) (by rw [hB, h3]; simp)) (by simp [wkS, Ch.get])
          · obtain rfl : k = m.length := by omega
            have q5 : i + 1 < l.length + 1 := by omega
            have hgn : ∀ w, (R.set (i + 1) w)[i + 1]? = some w := fun w => List.getElem?_set_self (by omega)
            simp only [go_sem,List.length_map,List.getElem?_map,List.length_set,hRl,g4,g5,e1,hgn,st_take,st_drop,st_len,st_one]
            have hpr : pr (roA (elL m) e.el v) (roB (elL m) e.el v) m.length = Glob.ron (elL m) (Glob.bothB e.el) v := funext fun j => by
              have := pr_end (elL m) e.el v j
              rwa [show (elL m).length = m.length by simp [elL]] at this
            refine rK_use (Go.AM.enters_of Tryz.func25 rfl (by decide)) (ACalls.pure_use (open_c m hm _) (by simp [ltL, AV.lt, st_lt]) (by simp [AV.lt, st_lt])) ?_
            simp only [go_sem,List.length_map,List.getElem?_map,List.length_set,hRl,g4,g5,e1,hgn,st_take,st_drop,st_len,st_one,set_st,List.set_set,q5]
            refine hK (i + 1, R.set (i + 1) _) _ _ ⟨hi', by simp [hRl], ?_, _, hgn _, ?_⟩ (by simp; omega) (Wk.drop (m := 1) (by simp [wkS, Ch.get]) (Nat.zero_le _) (by simp) (by simp [chLt, AV.lt]) rfl (fun b hb => by rw [List.mem_singleton.1 hb]; exact stR_lt' _ _))
            · intro j h1 h2
              rw [List.getElem?_set_ne (by simp at h1; omega)]
              exact hRz j (by simp at h1; omega) h2
            · rw [hv, hdr, if_neg (by rw [ekS_el, hs]; decide), hpr]
      · obtain rfl : i = l.length := by omega
        have g3 : (0 : Int) ≤ (l.length : Int) ∧ (l.length : Int) < ((l.length + 1 : Nat) : Int) := by omega
        have g4 : (0 : Int) ≤ (m.length : Int) ∧ (m.length : Int) < 66 := by omega
        simp only [go_sem,List.length_map,g3,hRl,List.getElem?_map,hRv,g4,st_get (show m.length < 66 by omega),st_len]
        refine finv rfl ?_ _
        rw [← hpost, hmt, hv]
        rw [List.drop_eq_nil_of_le (by simp [elL])]
        exact ⟨rfl, rfl⟩
end Go.Proofs.YtigmnlnomhjecaaGreatDoor
