/- Texts joined, without what is not needed. No condition. -/
import Derived.Test.YtfiflailjbmlpaaGreatDoorZ3
import Derived.Test.YtfiflailjbmlpaaGreatDoorProg
import Derived.KernelRfl
set_option maxRecDepth 100000
namespace Go.Proofs.YtfiflailjbmlpaaGreatDoor
open Go.AM
theorem T1 : tinfo Tryz.prog 1 = some ⟨1, 8, [.nilfunc], .func⟩ := by kernel_rfl
theorem Z1 : tzero Tryz.prog 1 = some (.nilfunc) := by kernel_rfl
theorem T2 : tinfo Tryz.prog 2 = some ⟨1, 8, [.int .i64 0], .int .i64⟩ := by kernel_rfl
theorem Z2 : tzero Tryz.prog 2 = some (.int .i64 0) := by kernel_rfl
theorem T3 : tinfo Tryz.prog 3 = some ⟨1, 8, [.int .i64 0], .int .i64⟩ := by kernel_rfl
theorem Z3 : tzero Tryz.prog 3 = some (.int .i64 0) := by kernel_rfl
theorem T4 : tinfo Tryz.prog 4 = some ⟨1, 1, [.bool false], .bool⟩ := by kernel_rfl
theorem Z4 : tzero Tryz.prog 4 = some (.bool false) := by kernel_rfl
theorem T5 : tinfo Tryz.prog 5 = some ⟨1, 1, [.int .u8 0], .int .u8⟩ := by kernel_rfl
theorem Z5 : tzero Tryz.prog 5 = some (.int .u8 0) := by kernel_rfl
theorem T7 : tinfo Tryz.prog 7 = some ⟨4, 24, [.int .i64 0, .int .i64 0, .bool false, .int .u8 0], .struct [(0, 2), (1, 3), (2, 4), (3, 6)]⟩ := by kernel_rfl
theorem Z7 : tzero Tryz.prog 7 = some (.agg [.int .i64 0, .int .i64 0, .bool false, .int .u8 0]) := by kernel_rfl
theorem T9 : tinfo Tryz.prog 9 = some ⟨1, 16, [.str ⟨#[]⟩], .str⟩ := by kernel_rfl
theorem Z9 : tzero Tryz.prog 9 = some (.str ⟨#[]⟩) := by kernel_rfl
theorem T12 : tinfo Tryz.prog 12 = some ⟨1, 8, [.int .u64 0], .int .u64⟩ := by kernel_rfl
theorem Z12 : tzero Tryz.prog 12 = some (.int .u64 0) := by kernel_rfl
theorem T13 : tinfo Tryz.prog 13 = some ⟨2, 24, [.str ⟨#[]⟩, .int .u64 0], .struct [(0, 9), (1, 12)]⟩ := by kernel_rfl
theorem Z13 : tzero Tryz.prog 13 = some (.agg [.str ⟨#[]⟩, .int .u64 0]) := by kernel_rfl
theorem T15 : tinfo Tryz.prog 15 = some ⟨1, 8, [.nilptr], .ptr 209⟩ := by kernel_rfl
theorem Z15 : tzero Tryz.prog 15 = some (.nilptr) := by kernel_rfl
theorem T16 : tinfo Tryz.prog 16 = some ⟨1, 8, [.nilptr], .ptr 212⟩ := by kernel_rfl
theorem Z16 : tzero Tryz.prog 16 = some (.nilptr) := by kernel_rfl
theorem T20 : tinfo Tryz.prog 20 = some ⟨1, 16, [.nilif], .iface⟩ := by kernel_rfl
theorem Z20 : tzero Tryz.prog 20 = some (.nilif) := by kernel_rfl
theorem T21 : tinfo Tryz.prog 21 = some ⟨1, 4, [.int .i32 0], .int .i32⟩ := by kernel_rfl
theorem Z21 : tzero Tryz.prog 21 = some (.int .i32 0) := by kernel_rfl
theorem T22 : tinfo Tryz.prog 22 = some ⟨1, 24, [.view true 0 []], .slice 3⟩ := by kernel_rfl
theorem Z22 : tzero Tryz.prog 22 = some (.view true 0 []) := by kernel_rfl
theorem T23 : tinfo Tryz.prog 23 = some ⟨1, 24, [.view true 0 []], .slice 5⟩ := by kernel_rfl
theorem Z23 : tzero Tryz.prog 23 = some (.view true 0 []) := by kernel_rfl
theorem T24 : tinfo Tryz.prog 24 = some ⟨2, 48, [.view true 0 [], .view true 0 []], .struct [(0, 22), (1, 23)]⟩ := by kernel_rfl
theorem Z24 : tzero Tryz.prog 24 = some (.agg [.view true 0 [], .view true 0 []]) := by kernel_rfl
theorem T25 : tinfo Tryz.prog 25 = some ⟨2, 48, [.view true 0 [], .view true 0 []], .struct [(0, 22), (1, 23)]⟩ := by kernel_rfl
theorem Z25 : tzero Tryz.prog 25 = some (.agg [.view true 0 [], .view true 0 []]) := by kernel_rfl
theorem T26 : tinfo Tryz.prog 26 = some ⟨1, 24, [.view true 0 []], .slice 92⟩ := by kernel_rfl
theorem Z26 : tzero Tryz.prog 26 = some (.view true 0 []) := by kernel_rfl
theorem T27 : tinfo Tryz.prog 27 = some ⟨3, 72, [.view true 0 [], .view true 0 [], .view true 0 []], .struct [(0, 25), (2, 26)]⟩ := by kernel_rfl
theorem Z27 : tzero Tryz.prog 27 = some (.agg [.view true 0 [], .view true 0 [], .view true 0 []]) := by kernel_rfl
theorem T28 : tinfo Tryz.prog 28 = some ⟨3, 72, [.view true 0 [], .view true 0 [], .view true 0 []], .struct [(0, 25), (2, 26)]⟩ := by kernel_rfl
theorem Z28 : tzero Tryz.prog 28 = some (.agg [.view true 0 [], .view true 0 [], .view true 0 []]) := by kernel_rfl
theorem T29 : tinfo Tryz.prog 29 = some ⟨8, 64, [.int .i64 0, .int .i64 0, .int .i64 0, .int .i64 0, .int .i64 0, .int .i64 0, .int .i64 0, .int .i64 0], .array 8 2⟩ := by kernel_rfl
theorem Z29 : tzero Tryz.prog 29 = some (.agg [.int .i64 0, .int .i64 0, .int .i64 0, .int .i64 0, .int .i64 0, .int .i64 0, .int .i64 0, .int .i64 0]) := by kernel_rfl
theorem T30 : tinfo Tryz.prog 30 = some ⟨9, 72, [.int .i64 0, .int .i64 0, .int .i64 0, .int .i64 0, .int .i64 0, .int .i64 0, .int .i64 0, .int .i64 0, .int .i64 0], .struct [(0, 29), (8, 2)]⟩ := by kernel_rfl
theorem Z30 : tzero Tryz.prog 30 = some (.agg [.int .i64 0, .int .i64 0, .int .i64 0, .int .i64 0, .int .i64 0, .int .i64 0, .int .i64 0, .int .i64 0, .int .i64 0]) := by kernel_rfl
theorem E31 : aEqTy Tryz.prog 31 = some [.i, .i, .i, .i, .i, .i, .i, .i, .i] := by kernel_rfl
theorem T31 : tinfo Tryz.prog 31 = some ⟨9, 72, [.int .i64 0, .int .i64 0, .int .i64 0, .int .i64 0, .int .i64 0, .int .i64 0, .int .i64 0, .int .i64 0, .int .i64 0], .struct [(0, 29), (8, 2)]⟩ := by kernel_rfl
theorem Z31 : tzero Tryz.prog 31 = some (.agg [.int .i64 0, .int .i64 0, .int .i64 0, .int .i64 0, .int .i64 0, .int .i64 0, .int .i64 0, .int .i64 0, .int .i64 0]) := by kernel_rfl
theorem T32 : tinfo Tryz.prog 32 = some ⟨1, 8, [.nilfunc], .func⟩ := by kernel_rfl
theorem Z32 : tzero Tryz.prog 32 = some (.nilfunc) := by kernel_rfl
theorem T33 : tinfo Tryz.prog 33 = some ⟨2, 16, [.int .i64 0, .int .i64 0], .struct [(0, 3), (1, 2)]⟩ := by kernel_rfl
theorem Z33 : tzero Tryz.prog 33 = some (.agg [.int .i64 0, .int .i64 0]) := by kernel_rfl
theorem E34 : aEqTy Tryz.prog 34 = some [.i, .i] := by kernel_rfl
theorem T34 : tinfo Tryz.prog 34 = some ⟨2, 16, [.int .i64 0, .int .i64 0], .struct [(0, 3), (1, 2)]⟩ := by kernel_rfl
theorem Z34 : tzero Tryz.prog 34 = some (.agg [.int .i64 0, .int .i64 0]) := by kernel_rfl
theorem T35 : tinfo Tryz.prog 35 = some ⟨4, 32, [.int .i64 0, .int .i64 0, .int .i64 0, .int .i64 0], .struct [(0, 3), (1, 3), (2, 34)]⟩ := by kernel_rfl
theorem Z35 : tzero Tryz.prog 35 = some (.agg [.int .i64 0, .int .i64 0, .int .i64 0, .int .i64 0]) := by kernel_rfl
theorem E36 : aEqTy Tryz.prog 36 = some [.i, .i, .i, .i] := by kernel_rfl
theorem T36 : tinfo Tryz.prog 36 = some ⟨4, 32, [.int .i64 0, .int .i64 0, .int .i64 0, .int .i64 0], .struct [(0, 3), (1, 3), (2, 34)]⟩ := by kernel_rfl
theorem Z36 : tzero Tryz.prog 36 = some (.agg [.int .i64 0, .int .i64 0, .int .i64 0, .int .i64 0]) := by kernel_rfl
theorem T37 : tinfo Tryz.prog 37 = some ⟨4, 32, [.int .i64 0, .int .i64 0, .int .i64 0, .int .i64 0], .struct [(0, 3), (1, 3), (2, 3), (3, 2)]⟩ := by kernel_rfl
theorem Z37 : tzero Tryz.prog 37 = some (.agg [.int .i64 0, .int .i64 0, .int .i64 0, .int .i64 0]) := by kernel_rfl
theorem E38 : aEqTy Tryz.prog 38 = some [.i, .i, .i, .i] := by kernel_rfl
theorem T38 : tinfo Tryz.prog 38 = some ⟨4, 32, [.int .i64 0, .int .i64 0, .int .i64 0, .int .i64 0], .struct [(0, 3), (1, 3), (2, 3), (3, 2)]⟩ := by kernel_rfl
theorem Z38 : tzero Tryz.prog 38 = some (.agg [.int .i64 0, .int .i64 0, .int .i64 0, .int .i64 0]) := by kernel_rfl
theorem T39 : tinfo Tryz.prog 39 = some ⟨19, 168, [.int .i64 0, .int .i64 0, .int .i64 0, .int .i64 0, .int .i64 0, .int .i64 0, .int .i64 0, .int .i64 0, .int .i64 0, .int .i64 0, .view true 0 [], .int .i64 0, .int .i64 0, .int .i64 0, .int .i64 0, .int .i64 0, .int .i64 0, .int .i64 0, .int .i64 0], .struct [(0, 31), (9, 2), (10, 23), (11, 36), (15, 38)]⟩ := by kernel_rfl
theorem Z39 : tzero Tryz.prog 39 = some (.agg [.int .i64 0, .int .i64 0, .int .i64 0, .int .i64 0, .int .i64 0, .int .i64 0, .int .i64 0, .int .i64 0, .int .i64 0, .int .i64 0, .view true 0 [], .int .i64 0, .int .i64 0, .int .i64 0, .int .i64 0, .int .i64 0, .int .i64 0, .int .i64 0, .int .i64 0]) := by kernel_rfl
theorem T40 : tinfo Tryz.prog 40 = some ⟨19, 168, [.int .i64 0, .int .i64 0, .int .i64 0, .int .i64 0, .int .i64 0, .int .i64 0, .int .i64 0, .int .i64 0, .int .i64 0, .int .i64 0, .view true 0 [], .int .i64 0, .int .i64 0, .int .i64 0, .int .i64 0, .int .i64 0, .int .i64 0, .int .i64 0, .int .i64 0], .struct [(0, 31), (9, 2), (10, 23), (11, 36), (15, 38)]⟩ := by kernel_rfl
theorem Z40 : tzero Tryz.prog 40 = some (.agg [.int .i64 0, .int .i64 0, .int .i64 0, .int .i64 0, .int .i64 0, .int .i64 0, .int .i64 0, .int .i64 0, .int .i64 0, .int .i64 0, .view true 0 [], .int .i64 0, .int .i64 0, .int .i64 0, .int .i64 0, .int .i64 0, .int .i64 0, .int .i64 0, .int .i64 0]) := by kernel_rfl
theorem T41 : tinfo Tryz.prog 41 = some ⟨1, 8, [.int .i64 0], .int .i64⟩ := by kernel_rfl
theorem Z41 : tzero Tryz.prog 41 = some (.int .i64 0) := by kernel_rfl
theorem T43 : tinfo Tryz.prog 43 = some ⟨1, 8, [.nilfunc], .func⟩ := by kernel_rfl
theorem Z43 : tzero Tryz.prog 43 = some (.nilfunc) := by kernel_rfl
theorem T44 : tinfo Tryz.prog 44 = some ⟨21, 184, [.int .i64 0, .int .i64 0, .int .i64 0, .int .i64 0, .int .i64 0, .int .i64 0, .int .i64 0, .int .i64 0, .int .i64 0, .int .i64 0, .view true 0 [], .int .i64 0, .int .i64 0, .int .i64 0, .int .i64 0, .int .i64 0, .int .i64 0, .int .i64 0, .int .i64 0, .int .i64 0, .int .i64 0], .struct [(0, 40), (19, 3), (20, 41)]⟩ := by kernel_rfl
theorem Z44 : tzero Tryz.prog 44 = some (.agg [.int .i64 0, .int .i64 0, .int .i64 0, .int .i64 0, .int .i64 0, .int .i64 0, .int .i64 0, .int .i64 0, .int .i64 0, .int .i64 0, .view true 0 [], .int .i64 0, .int .i64 0, .int .i64 0, .int .i64 0, .int .i64 0, .int .i64 0, .int .i64 0, .int .i64 0, .int .i64 0, .int .i64 0]) := by kernel_rfl
theorem T45 : tinfo Tryz.prog 45 = some ⟨21, 184, [.int .i64 0, .int .i64 0, .int .i64 0, .int .i64 0, .int .i64 0, .int .i64 0, .int .i64 0, .int .i64 0, .int .i64 0, .int .i64 0, .view true 0 [], .int .i64 0, .int .i64 0, .int .i64 0, .int .i64 0, .int .i64 0, .int .i64 0, .int .i64 0, .int .i64 0, .int .i64 0, .int .i64 0], .struct [(0, 40), (19, 3), (20, 41)]⟩ := by kernel_rfl
theorem Z45 : tzero Tryz.prog 45 = some (.agg [.int .i64 0, .int .i64 0, .int .i64 0, .int .i64 0, .int .i64 0, .int .i64 0, .int .i64 0, .int .i64 0, .int .i64 0, .int .i64 0, .view true 0 [], .int .i64 0, .int .i64 0, .int .i64 0, .int .i64 0, .int .i64 0, .int .i64 0, .int .i64 0, .int .i64 0, .int .i64 0, .int .i64 0]) := by kernel_rfl
theorem T46 : tinfo Tryz.prog 46 = some ⟨1, 8, [.nilfunc], .func⟩ := by kernel_rfl
theorem Z46 : tzero Tryz.prog 46 = some (.nilfunc) := by kernel_rfl
theorem T47 : tinfo Tryz.prog 47 = some ⟨1, 8, [.nilfunc], .func⟩ := by kernel_rfl
theorem Z47 : tzero Tryz.prog 47 = some (.nilfunc) := by kernel_rfl
theorem T48 : tinfo Tryz.prog 48 = some ⟨1, 8, [.nilfunc], .func⟩ := by kernel_rfl
theorem Z48 : tzero Tryz.prog 48 = some (.nilfunc) := by kernel_rfl
theorem T49 : tinfo Tryz.prog 49 = some ⟨2, 16, [.int .i64 0, .int .i64 0], .array 2 2⟩ := by kernel_rfl
theorem Z49 : tzero Tryz.prog 49 = some (.agg [.int .i64 0, .int .i64 0]) := by kernel_rfl
theorem T51 : tinfo Tryz.prog 51 = some ⟨1, 8, [.nilfunc], .func⟩ := by kernel_rfl
theorem Z51 : tzero Tryz.prog 51 = some (.nilfunc) := by kernel_rfl
theorem T52 : tinfo Tryz.prog 52 = some ⟨1, 8, [.nilfunc], .func⟩ := by kernel_rfl
theorem Z52 : tzero Tryz.prog 52 = some (.nilfunc) := by kernel_rfl
theorem T53 : tinfo Tryz.prog 53 = some ⟨6, 48, [.int .i64 0, .int .i64 0, .int .i64 0, .int .i64 0, .int .i64 0, .int .i64 0], .struct [(0, 38), (4, 3), (5, 41)]⟩ := by kernel_rfl
theorem Z53 : tzero Tryz.prog 53 = some (.agg [.int .i64 0, .int .i64 0, .int .i64 0, .int .i64 0, .int .i64 0, .int .i64 0]) := by kernel_rfl
theorem E54 : aEqTy Tryz.prog 54 = some [.i, .i, .i, .i, .i, .i] := by kernel_rfl
theorem T54 : tinfo Tryz.prog 54 = some ⟨6, 48, [.int .i64 0, .int .i64 0, .int .i64 0, .int .i64 0, .int .i64 0, .int .i64 0], .struct [(0, 38), (4, 3), (5, 41)]⟩ := by kernel_rfl
theorem Z54 : tzero Tryz.prog 54 = some (.agg [.int .i64 0, .int .i64 0, .int .i64 0, .int .i64 0, .int .i64 0, .int .i64 0]) := by kernel_rfl
theorem T55 : tinfo Tryz.prog 55 = some ⟨1, 8, [.nilfunc], .func⟩ := by kernel_rfl
theorem Z55 : tzero Tryz.prog 55 = some (.nilfunc) := by kernel_rfl
theorem T56 : tinfo Tryz.prog 56 = some ⟨1, 8, [.nilfunc], .func⟩ := by kernel_rfl
theorem Z56 : tzero Tryz.prog 56 = some (.nilfunc) := by kernel_rfl
theorem T57 : tinfo Tryz.prog 57 = some ⟨1, 8, [.nilfunc], .func⟩ := by kernel_rfl
theorem Z57 : tzero Tryz.prog 57 = some (.nilfunc) := by kernel_rfl
theorem T59 : tinfo Tryz.prog 59 = some ⟨1, 8, [.nilfunc], .func⟩ := by kernel_rfl
theorem Z59 : tzero Tryz.prog 59 = some (.nilfunc) := by kernel_rfl
theorem T61 : tinfo Tryz.prog 61 = some ⟨1, 8, [.nilfunc], .func⟩ := by kernel_rfl
theorem Z61 : tzero Tryz.prog 61 = some (.nilfunc) := by kernel_rfl
theorem T63 : tinfo Tryz.prog 63 = some ⟨1, 8, [.nilfunc], .func⟩ := by kernel_rfl
theorem Z63 : tzero Tryz.prog 63 = some (.nilfunc) := by kernel_rfl
theorem T64 : tinfo Tryz.prog 64 = some ⟨4, 80, [.view true 0 [], .view true 0 [], .view true 0 [], .int .i64 0], .struct [(0, 28), (3, 41)]⟩ := by kernel_rfl
theorem Z64 : tzero Tryz.prog 64 = some (.agg [.view true 0 [], .view true 0 [], .view true 0 [], .int .i64 0]) := by kernel_rfl
theorem T65 : tinfo Tryz.prog 65 = some ⟨4, 80, [.view true 0 [], .view true 0 [], .view true 0 [], .int .i64 0], .struct [(0, 28), (3, 41)]⟩ := by kernel_rfl
theorem Z65 : tzero Tryz.prog 65 = some (.agg [.view true 0 [], .view true 0 [], .view true 0 [], .int .i64 0]) := by kernel_rfl
theorem T66 : tinfo Tryz.prog 66 = some ⟨1, 8, [.nilfunc], .func⟩ := by kernel_rfl
theorem Z66 : tzero Tryz.prog 66 = some (.nilfunc) := by kernel_rfl
theorem T67 : tinfo Tryz.prog 67 = some ⟨3, 56, [.view true 0 [], .view true 0 [], .int .i64 0], .struct [(0, 25), (2, 41)]⟩ := by kernel_rfl
theorem Z67 : tzero Tryz.prog 67 = some (.agg [.view true 0 [], .view true 0 [], .int .i64 0]) := by kernel_rfl
theorem T68 : tinfo Tryz.prog 68 = some ⟨3, 56, [.view true 0 [], .view true 0 [], .int .i64 0], .struct [(0, 25), (2, 41)]⟩ := by kernel_rfl
theorem Z68 : tzero Tryz.prog 68 = some (.agg [.view true 0 [], .view true 0 [], .int .i64 0]) := by kernel_rfl
theorem T69 : tinfo Tryz.prog 69 = some ⟨1, 8, [.nilfunc], .func⟩ := by kernel_rfl
theorem Z69 : tzero Tryz.prog 69 = some (.nilfunc) := by kernel_rfl
theorem T70 : tinfo Tryz.prog 70 = some ⟨1, 8, [.nilfunc], .func⟩ := by kernel_rfl
theorem Z70 : tzero Tryz.prog 70 = some (.nilfunc) := by kernel_rfl
theorem T71 : tinfo Tryz.prog 71 = some ⟨1, 8, [.nilfunc], .func⟩ := by kernel_rfl
theorem Z71 : tzero Tryz.prog 71 = some (.nilfunc) := by kernel_rfl
theorem T72 : tinfo Tryz.prog 72 = some ⟨1, 8, [.nilfunc], .func⟩ := by kernel_rfl
theorem Z72 : tzero Tryz.prog 72 = some (.nilfunc) := by kernel_rfl
theorem T73 : tinfo Tryz.prog 73 = some ⟨2, 16, [.int .i64 0, .bool false], .struct [(0, 3), (1, 4)]⟩ := by kernel_rfl
theorem Z73 : tzero Tryz.prog 73 = some (.agg [.int .i64 0, .bool false]) := by kernel_rfl
theorem E74 : aEqTy Tryz.prog 74 = some [.i, .b] := by kernel_rfl
theorem T74 : tinfo Tryz.prog 74 = some ⟨2, 16, [.int .i64 0, .bool false], .struct [(0, 3), (1, 4)]⟩ := by kernel_rfl
theorem Z74 : tzero Tryz.prog 74 = some (.agg [.int .i64 0, .bool false]) := by kernel_rfl
theorem T75 : tinfo Tryz.prog 75 = some ⟨1, 8, [.nilfunc], .func⟩ := by kernel_rfl
theorem Z75 : tzero Tryz.prog 75 = some (.nilfunc) := by kernel_rfl
theorem T76 : tinfo Tryz.prog 76 = some ⟨1, 8, [.nilfunc], .func⟩ := by kernel_rfl
theorem Z76 : tzero Tryz.prog 76 = some (.nilfunc) := by kernel_rfl
theorem T77 : tinfo Tryz.prog 77 = some ⟨1, 8, [.nilfunc], .func⟩ := by kernel_rfl
theorem Z77 : tzero Tryz.prog 77 = some (.nilfunc) := by kernel_rfl
theorem T78 : tinfo Tryz.prog 78 = some ⟨1, 8, [.nilfunc], .func⟩ := by kernel_rfl
theorem Z78 : tzero Tryz.prog 78 = some (.nilfunc) := by kernel_rfl
theorem T79 : tinfo Tryz.prog 79 = some ⟨1, 8, [.nilfunc], .func⟩ := by kernel_rfl
theorem Z79 : tzero Tryz.prog 79 = some (.nilfunc) := by kernel_rfl
theorem T80 : tinfo Tryz.prog 80 = some ⟨1, 8, [.nilfunc], .func⟩ := by kernel_rfl
theorem Z80 : tzero Tryz.prog 80 = some (.nilfunc) := by kernel_rfl
theorem T81 : tinfo Tryz.prog 81 = some ⟨1, 8, [.nilfunc], .func⟩ := by kernel_rfl
theorem Z81 : tzero Tryz.prog 81 = some (.nilfunc) := by kernel_rfl
theorem T82 : tinfo Tryz.prog 82 = some ⟨1, 24, [.view true 0 []], .slice 83⟩ := by kernel_rfl
theorem Z82 : tzero Tryz.prog 82 = some (.view true 0 []) := by kernel_rfl
theorem E83 : aEqTy Tryz.prog 83 = some [.i, .i] := by kernel_rfl
theorem T83 : tinfo Tryz.prog 83 = some ⟨2, 16, [.int .i64 0, .int .i64 0], .struct [(0, 3), (1, 2)]⟩ := by kernel_rfl
theorem Z83 : tzero Tryz.prog 83 = some (.agg [.int .i64 0, .int .i64 0]) := by kernel_rfl
theorem T85 : tinfo Tryz.prog 85 = some ⟨1, 8, [.nilfunc], .func⟩ := by kernel_rfl
theorem Z85 : tzero Tryz.prog 85 = some (.nilfunc) := by kernel_rfl
theorem T86 : tinfo Tryz.prog 86 = some ⟨1, 8, [.nilfunc], .func⟩ := by kernel_rfl
theorem Z86 : tzero Tryz.prog 86 = some (.nilfunc) := by kernel_rfl
theorem T87 : tinfo Tryz.prog 87 = some ⟨1, 8, [.nilfunc], .func⟩ := by kernel_rfl
theorem Z87 : tzero Tryz.prog 87 = some (.nilfunc) := by kernel_rfl
theorem T88 : tinfo Tryz.prog 88 = some ⟨1, 8, [.nilfunc], .func⟩ := by kernel_rfl
theorem Z88 : tzero Tryz.prog 88 = some (.nilfunc) := by kernel_rfl
theorem T89 : tinfo Tryz.prog 89 = some ⟨1, 8, [.nilfunc], .func⟩ := by kernel_rfl
theorem Z89 : tzero Tryz.prog 89 = some (.nilfunc) := by kernel_rfl
theorem T90 : tinfo Tryz.prog 90 = some ⟨1, 8, [.nilfunc], .func⟩ := by kernel_rfl
theorem Z90 : tzero Tryz.prog 90 = some (.nilfunc) := by kernel_rfl
theorem T91 : tinfo Tryz.prog 91 = some ⟨3, 24, [.int .i64 0, .int .u8 0, .int .i64 0], .struct [(0, 2), (1, 5), (2, 3)]⟩ := by kernel_rfl
theorem Z91 : tzero Tryz.prog 91 = some (.agg [.int .i64 0, .int .u8 0, .int .i64 0]) := by kernel_rfl
theorem E92 : aEqTy Tryz.prog 92 = some [.i, .i, .i] := by kernel_rfl
theorem T92 : tinfo Tryz.prog 92 = some ⟨3, 24, [.int .i64 0, .int .u8 0, .int .i64 0], .struct [(0, 2), (1, 5), (2, 3)]⟩ := by kernel_rfl
theorem Z92 : tzero Tryz.prog 92 = some (.agg [.int .i64 0, .int .u8 0, .int .i64 0]) := by kernel_rfl
theorem T93 : tinfo Tryz.prog 93 = some ⟨1, 8, [.nilfunc], .func⟩ := by kernel_rfl
theorem Z93 : tzero Tryz.prog 93 = some (.nilfunc) := by kernel_rfl
theorem T95 : tinfo Tryz.prog 95 = some ⟨1, 8, [.nilfunc], .func⟩ := by kernel_rfl
theorem Z95 : tzero Tryz.prog 95 = some (.nilfunc) := by kernel_rfl
theorem T96 : tinfo Tryz.prog 96 = some ⟨1, 8, [.nilfunc], .func⟩ := by kernel_rfl
theorem Z96 : tzero Tryz.prog 96 = some (.nilfunc) := by kernel_rfl
theorem T97 : tinfo Tryz.prog 97 = some ⟨1, 8, [.nilfunc], .func⟩ := by kernel_rfl
theorem Z97 : tzero Tryz.prog 97 = some (.nilfunc) := by kernel_rfl
theorem E98 : aEqTy Tryz.prog 98 = some [.i, .i, .i, .i, .i, .i] := by kernel_rfl
theorem T98 : tinfo Tryz.prog 98 = some ⟨6, 48, [.int .i64 0, .int .i64 0, .int .i64 0, .int .i64 0, .int .i64 0, .int .i64 0], .struct [(0, 38), (4, 3), (5, 41)]⟩ := by kernel_rfl
theorem Z98 : tzero Tryz.prog 98 = some (.agg [.int .i64 0, .int .i64 0, .int .i64 0, .int .i64 0, .int .i64 0, .int .i64 0]) := by kernel_rfl
theorem T99 : tinfo Tryz.prog 99 = some ⟨1, 8, [.nilfunc], .func⟩ := by kernel_rfl
theorem Z99 : tzero Tryz.prog 99 = some (.nilfunc) := by kernel_rfl
theorem T100 : tinfo Tryz.prog 100 = some ⟨1, 8, [.nilfunc], .func⟩ := by kernel_rfl
theorem Z100 : tzero Tryz.prog 100 = some (.nilfunc) := by kernel_rfl
theorem T101 : tinfo Tryz.prog 101 = some ⟨1, 8, [.nilfunc], .func⟩ := by kernel_rfl
theorem Z101 : tzero Tryz.prog 101 = some (.nilfunc) := by kernel_rfl
theorem T102 : tinfo Tryz.prog 102 = some ⟨1, 8, [.nilfunc], .func⟩ := by kernel_rfl
theorem Z102 : tzero Tryz.prog 102 = some (.nilfunc) := by kernel_rfl
theorem T103 : tinfo Tryz.prog 103 = some ⟨5, 40, [.int .i64 0, .int .i64 0, .int .i64 0, .int .i64 0, .int .i64 0], .struct [(0, 38), (4, 3)]⟩ := by kernel_rfl
theorem Z103 : tzero Tryz.prog 103 = some (.agg [.int .i64 0, .int .i64 0, .int .i64 0, .int .i64 0, .int .i64 0]) := by kernel_rfl
theorem E104 : aEqTy Tryz.prog 104 = some [.i, .i, .i, .i, .i] := by kernel_rfl
theorem T104 : tinfo Tryz.prog 104 = some ⟨5, 40, [.int .i64 0, .int .i64 0, .int .i64 0, .int .i64 0, .int .i64 0], .struct [(0, 38), (4, 3)]⟩ := by kernel_rfl
theorem Z104 : tzero Tryz.prog 104 = some (.agg [.int .i64 0, .int .i64 0, .int .i64 0, .int .i64 0, .int .i64 0]) := by kernel_rfl
theorem T106 : tinfo Tryz.prog 106 = some ⟨1, 8, [.nilfunc], .func⟩ := by kernel_rfl
theorem Z106 : tzero Tryz.prog 106 = some (.nilfunc) := by kernel_rfl
theorem T107 : tinfo Tryz.prog 107 = some ⟨1, 8, [.nilfunc], .func⟩ := by kernel_rfl
theorem Z107 : tzero Tryz.prog 107 = some (.nilfunc) := by kernel_rfl
theorem T109 : tinfo Tryz.prog 109 = some ⟨1, 8, [.nilfunc], .func⟩ := by kernel_rfl
theorem Z109 : tzero Tryz.prog 109 = some (.nilfunc) := by kernel_rfl
theorem T110 : tinfo Tryz.prog 110 = some ⟨1, 8, [.nilfunc], .func⟩ := by kernel_rfl
theorem Z110 : tzero Tryz.prog 110 = some (.nilfunc) := by kernel_rfl
theorem T111 : tinfo Tryz.prog 111 = some ⟨1, 8, [.nilfunc], .func⟩ := by kernel_rfl
theorem Z111 : tzero Tryz.prog 111 = some (.nilfunc) := by kernel_rfl
theorem T112 : tinfo Tryz.prog 112 = some ⟨1, 8, [.nilfunc], .func⟩ := by kernel_rfl
theorem Z112 : tzero Tryz.prog 112 = some (.nilfunc) := by kernel_rfl
theorem T113 : tinfo Tryz.prog 113 = some ⟨1, 8, [.nilfunc], .func⟩ := by kernel_rfl
theorem Z113 : tzero Tryz.prog 113 = some (.nilfunc) := by kernel_rfl
theorem T114 : tinfo Tryz.prog 114 = some ⟨1, 8, [.nilfunc], .func⟩ := by kernel_rfl
theorem Z114 : tzero Tryz.prog 114 = some (.nilfunc) := by kernel_rfl
theorem T115 : tinfo Tryz.prog 115 = some ⟨1, 8, [.nilfunc], .func⟩ := by kernel_rfl
theorem Z115 : tzero Tryz.prog 115 = some (.nilfunc) := by kernel_rfl
theorem T116 : tinfo Tryz.prog 116 = some ⟨1, 8, [.nilfunc], .func⟩ := by kernel_rfl
theorem Z116 : tzero Tryz.prog 116 = some (.nilfunc) := by kernel_rfl
theorem T117 : tinfo Tryz.prog 117 = some ⟨1, 8, [.nilfunc], .func⟩ := by kernel_rfl
theorem Z117 : tzero Tryz.prog 117 = some (.nilfunc) := by kernel_rfl
theorem T118 : tinfo Tryz.prog 118 = some ⟨1, 8, [.nilfunc], .func⟩ := by kernel_rfl
theorem Z118 : tzero Tryz.prog 118 = some (.nilfunc) := by kernel_rfl
theorem T119 : tinfo Tryz.prog 119 = some ⟨1, 8, [.nilfunc], .func⟩ := by kernel_rfl
theorem Z119 : tzero Tryz.prog 119 = some (.nilfunc) := by kernel_rfl
theorem T120 : tinfo Tryz.prog 120 = some ⟨1, 8, [.nilfunc], .func⟩ := by kernel_rfl
theorem Z120 : tzero Tryz.prog 120 = some (.nilfunc) := by kernel_rfl
theorem T121 : tinfo Tryz.prog 121 = some ⟨1, 8, [.nilfunc], .func⟩ := by kernel_rfl
theorem Z121 : tzero Tryz.prog 121 = some (.nilfunc) := by kernel_rfl
theorem T122 : tinfo Tryz.prog 122 = some ⟨1, 8, [.nilfunc], .func⟩ := by kernel_rfl
theorem Z122 : tzero Tryz.prog 122 = some (.nilfunc) := by kernel_rfl
theorem T124 : tinfo Tryz.prog 124 = some ⟨1, 8, [.nilfunc], .func⟩ := by kernel_rfl
theorem Z124 : tzero Tryz.prog 124 = some (.nilfunc) := by kernel_rfl
theorem T126 : tinfo Tryz.prog 126 = some ⟨1, 8, [.nilfunc], .func⟩ := by kernel_rfl
theorem Z126 : tzero Tryz.prog 126 = some (.nilfunc) := by kernel_rfl
theorem T127 : tinfo Tryz.prog 127 = some ⟨1, 8, [.nilfunc], .func⟩ := by kernel_rfl
theorem Z127 : tzero Tryz.prog 127 = some (.nilfunc) := by kernel_rfl
theorem T128 : tinfo Tryz.prog 128 = some ⟨3, 56, [.view true 0 [], .view true 0 [], .int .i64 0], .struct [(0, 25), (2, 41)]⟩ := by kernel_rfl
theorem Z128 : tzero Tryz.prog 128 = some (.agg [.view true 0 [], .view true 0 [], .int .i64 0]) := by kernel_rfl
theorem T129 : tinfo Tryz.prog 129 = some ⟨1, 8, [.nilfunc], .func⟩ := by kernel_rfl
theorem Z129 : tzero Tryz.prog 129 = some (.nilfunc) := by kernel_rfl
theorem T130 : tinfo Tryz.prog 130 = some ⟨1, 8, [.nilfunc], .func⟩ := by kernel_rfl
theorem Z130 : tzero Tryz.prog 130 = some (.nilfunc) := by kernel_rfl
theorem T131 : tinfo Tryz.prog 131 = some ⟨1, 8, [.int .i64 0], .struct [(0, 41)]⟩ := by kernel_rfl
theorem Z131 : tzero Tryz.prog 131 = some (.agg [.int .i64 0]) := by kernel_rfl
theorem E132 : aEqTy Tryz.prog 132 = some [.i] := by kernel_rfl
theorem T132 : tinfo Tryz.prog 132 = some ⟨1, 8, [.int .i64 0], .struct [(0, 41)]⟩ := by kernel_rfl
theorem Z132 : tzero Tryz.prog 132 = some (.agg [.int .i64 0]) := by kernel_rfl
theorem T133 : tinfo Tryz.prog 133 = some ⟨1, 8, [.nilfunc], .func⟩ := by kernel_rfl
theorem Z133 : tzero Tryz.prog 133 = some (.nilfunc) := by kernel_rfl
theorem T134 : tinfo Tryz.prog 134 = some ⟨1, 8, [.nilfunc], .func⟩ := by kernel_rfl
theorem Z134 : tzero Tryz.prog 134 = some (.nilfunc) := by kernel_rfl
theorem T135 : tinfo Tryz.prog 135 = some ⟨1, 8, [.nilfunc], .func⟩ := by kernel_rfl
theorem Z135 : tzero Tryz.prog 135 = some (.nilfunc) := by kernel_rfl
theorem T136 : tinfo Tryz.prog 136 = some ⟨1, 8, [.nilfunc], .func⟩ := by kernel_rfl
theorem Z136 : tzero Tryz.prog 136 = some (.nilfunc) := by kernel_rfl
theorem T137 : tinfo Tryz.prog 137 = some ⟨1, 8, [.nilfunc], .func⟩ := by kernel_rfl
theorem Z137 : tzero Tryz.prog 137 = some (.nilfunc) := by kernel_rfl
theorem T138 : tinfo Tryz.prog 138 = some ⟨1, 8, [.nilfunc], .func⟩ := by kernel_rfl
theorem Z138 : tzero Tryz.prog 138 = some (.nilfunc) := by kernel_rfl
theorem T139 : tinfo Tryz.prog 139 = some ⟨1, 24, [.view true 0 []], .slice 149⟩ := by kernel_rfl
theorem Z139 : tzero Tryz.prog 139 = some (.view true 0 []) := by kernel_rfl
theorem T140 : tinfo Tryz.prog 140 = some ⟨1, 8, [.nilfunc], .func⟩ := by kernel_rfl
theorem Z140 : tzero Tryz.prog 140 = some (.nilfunc) := by kernel_rfl
theorem T141 : tinfo Tryz.prog 141 = some ⟨1, 8, [.nilfunc], .func⟩ := by kernel_rfl
theorem Z141 : tzero Tryz.prog 141 = some (.nilfunc) := by kernel_rfl
theorem T142 : tinfo Tryz.prog 142 = some ⟨1, 8, [.nilfunc], .func⟩ := by kernel_rfl
theorem Z142 : tzero Tryz.prog 142 = some (.nilfunc) := by kernel_rfl
theorem T144 : tinfo Tryz.prog 144 = some ⟨1, 8, [.nilfunc], .func⟩ := by kernel_rfl
theorem Z144 : tzero Tryz.prog 144 = some (.nilfunc) := by kernel_rfl
theorem T145 : tinfo Tryz.prog 145 = some ⟨1, 8, [.nilfunc], .func⟩ := by kernel_rfl
theorem Z145 : tzero Tryz.prog 145 = some (.nilfunc) := by kernel_rfl
theorem T146 : tinfo Tryz.prog 146 = some ⟨1, 8, [.nilfunc], .func⟩ := by kernel_rfl
theorem Z146 : tzero Tryz.prog 146 = some (.nilfunc) := by kernel_rfl
theorem T147 : tinfo Tryz.prog 147 = some ⟨1, 8, [.nilfunc], .func⟩ := by kernel_rfl
theorem Z147 : tzero Tryz.prog 147 = some (.nilfunc) := by kernel_rfl
theorem T148 : tinfo Tryz.prog 148 = some ⟨3, 24, [.int .i64 0, .int .i64 0, .bool false], .struct [(0, 2), (1, 3), (2, 4)]⟩ := by kernel_rfl
theorem Z148 : tzero Tryz.prog 148 = some (.agg [.int .i64 0, .int .i64 0, .bool false]) := by kernel_rfl
theorem E149 : aEqTy Tryz.prog 149 = some [.i, .i, .b] := by kernel_rfl
theorem T149 : tinfo Tryz.prog 149 = some ⟨3, 24, [.int .i64 0, .int .i64 0, .bool false], .struct [(0, 2), (1, 3), (2, 4)]⟩ := by kernel_rfl
theorem Z149 : tzero Tryz.prog 149 = some (.agg [.int .i64 0, .int .i64 0, .bool false]) := by kernel_rfl
theorem T150 : tinfo Tryz.prog 150 = some ⟨1, 8, [.nilfunc], .func⟩ := by kernel_rfl
theorem Z150 : tzero Tryz.prog 150 = some (.nilfunc) := by kernel_rfl
theorem T151 : tinfo Tryz.prog 151 = some ⟨1, 8, [.nilfunc], .func⟩ := by kernel_rfl
theorem Z151 : tzero Tryz.prog 151 = some (.nilfunc) := by kernel_rfl
theorem T153 : tinfo Tryz.prog 153 = some ⟨1, 8, [.nilfunc], .func⟩ := by kernel_rfl
theorem Z153 : tzero Tryz.prog 153 = some (.nilfunc) := by kernel_rfl
theorem T154 : tinfo Tryz.prog 154 = some ⟨1, 8, [.nilfunc], .func⟩ := by kernel_rfl
theorem Z154 : tzero Tryz.prog 154 = some (.nilfunc) := by kernel_rfl
theorem T155 : tinfo Tryz.prog 155 = some ⟨2, 24, [.str ⟨#[]⟩, .int .i64 0], .struct [(0, 9), (1, 3)]⟩ := by kernel_rfl
theorem Z155 : tzero Tryz.prog 155 = some (.agg [.str ⟨#[]⟩, .int .i64 0]) := by kernel_rfl
theorem E156 : aEqTy Tryz.prog 156 = some [.s, .i] := by kernel_rfl
theorem T156 : tinfo Tryz.prog 156 = some ⟨2, 24, [.str ⟨#[]⟩, .int .i64 0], .struct [(0, 9), (1, 3)]⟩ := by kernel_rfl
theorem Z156 : tzero Tryz.prog 156 = some (.agg [.str ⟨#[]⟩, .int .i64 0]) := by kernel_rfl
theorem T157 : tinfo Tryz.prog 157 = some ⟨1, 8, [.nilfunc], .func⟩ := by kernel_rfl
theorem Z157 : tzero Tryz.prog 157 = some (.nilfunc) := by kernel_rfl
theorem T158 : tinfo Tryz.prog 158 = some ⟨1, 8, [.nilfunc], .func⟩ := by kernel_rfl
theorem Z158 : tzero Tryz.prog 158 = some (.nilfunc) := by kernel_rfl
theorem T159 : tinfo Tryz.prog 159 = some ⟨1, 8, [.nilfunc], .func⟩ := by kernel_rfl
theorem Z159 : tzero Tryz.prog 159 = some (.nilfunc) := by kernel_rfl
theorem T161 : tinfo Tryz.prog 161 = some ⟨1, 8, [.nilfunc], .func⟩ := by kernel_rfl
theorem Z161 : tzero Tryz.prog 161 = some (.nilfunc) := by kernel_rfl
theorem T162 : tinfo Tryz.prog 162 = some ⟨1, 8, [.nilfunc], .func⟩ := by kernel_rfl
theorem Z162 : tzero Tryz.prog 162 = some (.nilfunc) := by kernel_rfl
theorem T163 : tinfo Tryz.prog 163 = some ⟨1, 8, [.nilfunc], .func⟩ := by kernel_rfl
theorem Z163 : tzero Tryz.prog 163 = some (.nilfunc) := by kernel_rfl
theorem T164 : tinfo Tryz.prog 164 = some ⟨1, 8, [.nilfunc], .func⟩ := by kernel_rfl
theorem Z164 : tzero Tryz.prog 164 = some (.nilfunc) := by kernel_rfl
theorem T165 : tinfo Tryz.prog 165 = some ⟨1, 8, [.nilfunc], .func⟩ := by kernel_rfl
theorem Z165 : tzero Tryz.prog 165 = some (.nilfunc) := by kernel_rfl
theorem T166 : tinfo Tryz.prog 166 = some ⟨1, 8, [.nilfunc], .func⟩ := by kernel_rfl
theorem Z166 : tzero Tryz.prog 166 = some (.nilfunc) := by kernel_rfl
theorem T167 : tinfo Tryz.prog 167 = some ⟨1, 8, [.int .u64 0], .int .u64⟩ := by kernel_rfl
theorem Z167 : tzero Tryz.prog 167 = some (.int .u64 0) := by kernel_rfl
theorem T168 : tinfo Tryz.prog 168 = some ⟨1, 8, [.nilfunc], .func⟩ := by kernel_rfl
theorem Z168 : tzero Tryz.prog 168 = some (.nilfunc) := by kernel_rfl
theorem T169 : tinfo Tryz.prog 169 = some ⟨1, 8, [.nilfunc], .func⟩ := by kernel_rfl
theorem Z169 : tzero Tryz.prog 169 = some (.nilfunc) := by kernel_rfl
theorem T170 : tinfo Tryz.prog 170 = some ⟨1, 8, [.nilfunc], .func⟩ := by kernel_rfl
theorem Z170 : tzero Tryz.prog 170 = some (.nilfunc) := by kernel_rfl
theorem T171 : tinfo Tryz.prog 171 = some ⟨1, 8, [.nilfunc], .func⟩ := by kernel_rfl
theorem Z171 : tzero Tryz.prog 171 = some (.nilfunc) := by kernel_rfl
theorem T172 : tinfo Tryz.prog 172 = some ⟨1, 8, [.nilfunc], .func⟩ := by kernel_rfl
theorem Z172 : tzero Tryz.prog 172 = some (.nilfunc) := by kernel_rfl
theorem T173 : tinfo Tryz.prog 173 = some ⟨1, 8, [.nilfunc], .func⟩ := by kernel_rfl
theorem Z173 : tzero Tryz.prog 173 = some (.nilfunc) := by kernel_rfl
theorem T174 : tinfo Tryz.prog 174 = some ⟨70, 840, [.str ⟨#[]⟩, .int .i64 0, .str ⟨#[]⟩, .int .i64 0, .str ⟨#[]⟩, .int .i64 0, .str ⟨#[]⟩, .int .i64 0, .str ⟨#[]⟩, .int .i64 0, .str ⟨#[]⟩, .int .i64 0, .str ⟨#[]⟩, .int .i64 0, .str ⟨#[]⟩, .int .i64 0, .str ⟨#[]⟩, .int .i64 0, .str ⟨#[]⟩, .int .i64 0, .str ⟨#[]⟩, .int .i64 0, .str ⟨#[]⟩, .int .i64 0, .str ⟨#[]⟩, .int .i64 0, .str ⟨#[]⟩, .int .i64 0, .str ⟨#[]⟩, .int .i64 0, .str ⟨#[]⟩, .int .i64 0, .str ⟨#[]⟩, .int .i64 0, .str ⟨#[]⟩, .int .i64 0, .str ⟨#[]⟩, .int .i64 0, .str ⟨#[]⟩, .int .i64 0, .str ⟨#[]⟩, .int .i64 0, .str ⟨#[]⟩, .int .i64 0, .str ⟨#[]⟩, .int .i64 0, .str ⟨#[]⟩, .int .i64 0, .str ⟨#[]⟩, .int .i64 0, .str ⟨#[]⟩, .int .i64 0, .str ⟨#[]⟩, .int .i64 0, .str ⟨#[]⟩, .int .i64 0, .str ⟨#[]⟩, .int .i64 0, .str ⟨#[]⟩, .int .i64 0, .str ⟨#[]⟩, .int .i64 0, .str ⟨#[]⟩, .int .i64 0, .str ⟨#[]⟩, .int .i64 0, .str ⟨#[]⟩, .int .i64 0, .str ⟨#[]⟩, .int .i64 0], .array 35 156⟩ := by kernel_rfl
theorem Z174 : tzero Tryz.prog 174 = some (.agg [.str ⟨#[]⟩, .int .i64 0, .str ⟨#[]⟩, .int .i64 0, .str ⟨#[]⟩, .int .i64 0, .str ⟨#[]⟩, .int .i64 0, .str ⟨#[]⟩, .int .i64 0, .str ⟨#[]⟩, .int .i64 0, .str ⟨#[]⟩, .int .i64 0, .str ⟨#[]⟩, .int .i64 0, .str ⟨#[]⟩, .int .i64 0, .str ⟨#[]⟩, .int .i64 0, .str ⟨#[]⟩, .int .i64 0, .str ⟨#[]⟩, .int .i64 0, .str ⟨#[]⟩, .int .i64 0, .str ⟨#[]⟩, .int .i64 0, .str ⟨#[]⟩, .int .i64 0, .str ⟨#[]⟩, .int .i64 0, .str ⟨#[]⟩, .int .i64 0, .str ⟨#[]⟩, .int .i64 0, .str ⟨#[]⟩, .int .i64 0, .str ⟨#[]⟩, .int .i64 0, .str ⟨#[]⟩, .int .i64 0, .str ⟨#[]⟩, .int .i64 0, .str ⟨#[]⟩, .int .i64 0, .str ⟨#[]⟩, .int .i64 0, .str ⟨#[]⟩, .int .i64 0, .str ⟨#[]⟩, .int .i64 0, .str ⟨#[]⟩, .int .i64 0, .str ⟨#[]⟩, .int .i64 0, .str ⟨#[]⟩, .int .i64 0, .str ⟨#[]⟩, .int .i64 0, .str ⟨#[]⟩, .int .i64 0, .str ⟨#[]⟩, .int .i64 0, .str ⟨#[]⟩, .int .i64 0, .str ⟨#[]⟩, .int .i64 0, .str ⟨#[]⟩, .int .i64 0]) := by kernel_rfl
theorem T175 : tinfo Tryz.prog 175 = some ⟨1, 8, [.nilfunc], .func⟩ := by kernel_rfl
theorem Z175 : tzero Tryz.prog 175 = some (.nilfunc) := by kernel_rfl
theorem T176 : tinfo Tryz.prog 176 = some ⟨1, 8, [.nilfunc], .func⟩ := by kernel_rfl
theorem Z176 : tzero Tryz.prog 176 = some (.nilfunc) := by kernel_rfl
theorem T177 : tinfo Tryz.prog 177 = some ⟨1, 8, [.nilptr], .ptr 34⟩ := by kernel_rfl
theorem Z177 : tzero Tryz.prog 177 = some (.nilptr) := by kernel_rfl
theorem T178 : tinfo Tryz.prog 178 = some ⟨1, 8, [.nilfunc], .func⟩ := by kernel_rfl
theorem Z178 : tzero Tryz.prog 178 = some (.nilfunc) := by kernel_rfl
theorem T179 : tinfo Tryz.prog 179 = some ⟨1, 8, [.nilfunc], .func⟩ := by kernel_rfl
theorem Z179 : tzero Tryz.prog 179 = some (.nilfunc) := by kernel_rfl
theorem T180 : tinfo Tryz.prog 180 = some ⟨1, 8, [.nilfunc], .func⟩ := by kernel_rfl
theorem Z180 : tzero Tryz.prog 180 = some (.nilfunc) := by kernel_rfl
theorem T181 : tinfo Tryz.prog 181 = some ⟨64, 64, [.int .u8 0, .int .u8 0, .int .u8 0, .int .u8 0, .int .u8 0, .int .u8 0, .int .u8 0, .int .u8 0, .int .u8 0, .int .u8 0, .int .u8 0, .int .u8 0, .int .u8 0, .int .u8 0, .int .u8 0, .int .u8 0, .int .u8 0, .int .u8 0, .int .u8 0, .int .u8 0, .int .u8 0, .int .u8 0, .int .u8 0, .int .u8 0, .int .u8 0, .int .u8 0, .int .u8 0, .int .u8 0, .int .u8 0, .int .u8 0, .int .u8 0, .int .u8 0, .int .u8 0, .int .u8 0, .int .u8 0, .int .u8 0, .int .u8 0, .int .u8 0, .int .u8 0, .int .u8 0, .int .u8 0, .int .u8 0, .int .u8 0, .int .u8 0, .int .u8 0, .int .u8 0, .int .u8 0, .int .u8 0, .int .u8 0, .int .u8 0, .int .u8 0, .int .u8 0, .int .u8 0, .int .u8 0, .int .u8 0, .int .u8 0, .int .u8 0, .int .u8 0, .int .u8 0, .int .u8 0, .int .u8 0, .int .u8 0, .int .u8 0, .int .u8 0], .array 64 5⟩ := by kernel_rfl
theorem Z181 : tzero Tryz.prog 181 = some (.agg [.int .u8 0, .int .u8 0, .int .u8 0, .int .u8 0, .int .u8 0, .int .u8 0, .int .u8 0, .int .u8 0, .int .u8 0, .int .u8 0, .int .u8 0, .int .u8 0, .int .u8 0, .int .u8 0, .int .u8 0, .int .u8 0, .int .u8 0, .int .u8 0, .int .u8 0, .int .u8 0, .int .u8 0, .int .u8 0, .int .u8 0, .int .u8 0, .int .u8 0, .int .u8 0, .int .u8 0, .int .u8 0, .int .u8 0, .int .u8 0, .int .u8 0, .int .u8 0, .int .u8 0, .int .u8 0, .int .u8 0, .int .u8 0, .int .u8 0, .int .u8 0, .int .u8 0, .int .u8 0, .int .u8 0, .int .u8 0, .int .u8 0, .int .u8 0, .int .u8 0, .int .u8 0, .int .u8 0, .int .u8 0, .int .u8 0, .int .u8 0, .int .u8 0, .int .u8 0, .int .u8 0, .int .u8 0, .int .u8 0, .int .u8 0, .int .u8 0, .int .u8 0, .int .u8 0, .int .u8 0, .int .u8 0, .int .u8 0, .int .u8 0, .int .u8 0]) := by kernel_rfl
theorem E182 : aEqTy Tryz.prog 182 = some [.i, .i, .i, .i, .i, .i, .i, .i, .i, .i, .i, .i, .i, .i, .i, .i, .i, .i, .i, .i, .i, .i, .i, .i, .i, .i, .i, .i, .i, .i, .i, .i, .i, .i, .i, .i, .i, .i, .i, .i, .i, .i, .i, .i, .i, .i, .i, .i, .i, .i, .i, .i, .i, .i, .i, .i, .i, .i, .i, .i, .i, .i, .i, .i] := by kernel_rfl
theorem T182 : tinfo Tryz.prog 182 = some ⟨64, 64, [.int .u8 0, .int .u8 0, .int .u8 0, .int .u8 0, .int .u8 0, .int .u8 0, .int .u8 0, .int .u8 0, .int .u8 0, .int .u8 0, .int .u8 0, .int .u8 0, .int .u8 0, .int .u8 0, .int .u8 0, .int .u8 0, .int .u8 0, .int .u8 0, .int .u8 0, .int .u8 0, .int .u8 0, .int .u8 0, .int .u8 0, .int .u8 0, .int .u8 0, .int .u8 0, .int .u8 0, .int .u8 0, .int .u8 0, .int .u8 0, .int .u8 0, .int .u8 0, .int .u8 0, .int .u8 0, .int .u8 0, .int .u8 0, .int .u8 0, .int .u8 0, .int .u8 0, .int .u8 0, .int .u8 0, .int .u8 0, .int .u8 0, .int .u8 0, .int .u8 0, .int .u8 0, .int .u8 0, .int .u8 0, .int .u8 0, .int .u8 0, .int .u8 0, .int .u8 0, .int .u8 0, .int .u8 0, .int .u8 0, .int .u8 0, .int .u8 0, .int .u8 0, .int .u8 0, .int .u8 0, .int .u8 0, .int .u8 0, .int .u8 0, .int .u8 0], .array 64 5⟩ := by kernel_rfl
theorem Z182 : tzero Tryz.prog 182 = some (.agg [.int .u8 0, .int .u8 0, .int .u8 0, .int .u8 0, .int .u8 0, .int .u8 0, .int .u8 0, .int .u8 0, .int .u8 0, .int .u8 0, .int .u8 0, .int .u8 0, .int .u8 0, .int .u8 0, .int .u8 0, .int .u8 0, .int .u8 0, .int .u8 0, .int .u8 0, .int .u8 0, .int .u8 0, .int .u8 0, .int .u8 0, .int .u8 0, .int .u8 0, .int .u8 0, .int .u8 0, .int .u8 0, .int .u8 0, .int .u8 0, .int .u8 0, .int .u8 0, .int .u8 0, .int .u8 0, .int .u8 0, .int .u8 0, .int .u8 0, .int .u8 0, .int .u8 0, .int .u8 0, .int .u8 0, .int .u8 0, .int .u8 0, .int .u8 0, .int .u8 0, .int .u8 0, .int .u8 0, .int .u8 0, .int .u8 0, .int .u8 0, .int .u8 0, .int .u8 0, .int .u8 0, .int .u8 0, .int .u8 0, .int .u8 0, .int .u8 0, .int .u8 0, .int .u8 0, .int .u8 0, .int .u8 0, .int .u8 0, .int .u8 0, .int .u8 0]) := by kernel_rfl
theorem T183 : tinfo Tryz.prog 183 = some ⟨4, 32, [.int .i64 0, .int .i64 0, .int .i64 0, .int .i64 0], .struct [(0, 36)]⟩ := by kernel_rfl
theorem Z183 : tzero Tryz.prog 183 = some (.agg [.int .i64 0, .int .i64 0, .int .i64 0, .int .i64 0]) := by kernel_rfl
theorem E184 : aEqTy Tryz.prog 184 = some [.i, .i, .i, .i] := by kernel_rfl
theorem T184 : tinfo Tryz.prog 184 = some ⟨4, 32, [.int .i64 0, .int .i64 0, .int .i64 0, .int .i64 0], .struct [(0, 36)]⟩ := by kernel_rfl
theorem Z184 : tzero Tryz.prog 184 = some (.agg [.int .i64 0, .int .i64 0, .int .i64 0, .int .i64 0]) := by kernel_rfl
theorem T185 : tinfo Tryz.prog 185 = some ⟨1, 8, [.nilptr], .ptr 190⟩ := by kernel_rfl
theorem Z185 : tzero Tryz.prog 185 = some (.nilptr) := by kernel_rfl
theorem T186 : tinfo Tryz.prog 186 = some ⟨1, 8, [.nilfunc], .func⟩ := by kernel_rfl
theorem Z186 : tzero Tryz.prog 186 = some (.nilfunc) := by kernel_rfl
theorem T188 : tinfo Tryz.prog 188 = some ⟨1, 8, [.nilfunc], .func⟩ := by kernel_rfl
theorem Z188 : tzero Tryz.prog 188 = some (.nilfunc) := by kernel_rfl
theorem T189 : tinfo Tryz.prog 189 = some ⟨31, 296, [.int .i64 0, .int .i64 0, .int .i64 0, .int .i64 0, .int .i64 0, .int .i64 0, .int .i64 0, .int .i64 0, .int .i64 0, .int .i64 0, .int .i64 0, .int .i64 0, .int .i64 0, .int .i64 0, .int .i64 0, .int .i64 0, .int .i64 0, .int .i64 0, .int .i64 0, .int .i64 0, .int .i64 0, .int .i64 0, .view true 0 [], .view true 0 [], .int .i64 0, .int .i64 0, .view true 0 [], .int .i64 0, .int .i64 0, .int .i64 0, .int .i64 0], .struct [(0, 31), (9, 38), (13, 31), (22, 25), (24, 2), (25, 2), (26, 23), (27, 36)]⟩ := by kernel_rfl
theorem Z189 : tzero Tryz.prog 189 = some (.agg [.int .i64 0, .int .i64 0, .int .i64 0, .int .i64 0, .int .i64 0, .int .i64 0, .int .i64 0, .int .i64 0, .int .i64 0, .int .i64 0, .int .i64 0, .int .i64 0, .int .i64 0, .int .i64 0, .int .i64 0, .int .i64 0, .int .i64 0, .int .i64 0, .int .i64 0, .int .i64 0, .int .i64 0, .int .i64 0, .view true 0 [], .view true 0 [], .int .i64 0, .int .i64 0, .view true 0 [], .int .i64 0, .int .i64 0, .int .i64 0, .int .i64 0]) := by kernel_rfl
theorem T190 : tinfo Tryz.prog 190 = some ⟨31, 296, [.int .i64 0, .int .i64 0, .int .i64 0, .int .i64 0, .int .i64 0, .int .i64 0, .int .i64 0, .int .i64 0, .int .i64 0, .int .i64 0, .int .i64 0, .int .i64 0, .int .i64 0, .int .i64 0, .int .i64 0, .int .i64 0, .int .i64 0, .int .i64 0, .int .i64 0, .int .i64 0, .int .i64 0, .int .i64 0, .view true 0 [], .view true 0 [], .int .i64 0, .int .i64 0, .view true 0 [], .int .i64 0, .int .i64 0, .int .i64 0, .int .i64 0], .struct [(0, 31), (9, 38), (13, 31), (22, 25), (24, 2), (25, 2), (26, 23), (27, 36)]⟩ := by kernel_rfl
theorem Z190 : tzero Tryz.prog 190 = some (.agg [.int .i64 0, .int .i64 0, .int .i64 0, .int .i64 0, .int .i64 0, .int .i64 0, .int .i64 0, .int .i64 0, .int .i64 0, .int .i64 0, .int .i64 0, .int .i64 0, .int .i64 0, .int .i64 0, .int .i64 0, .int .i64 0, .int .i64 0, .int .i64 0, .int .i64 0, .int .i64 0, .int .i64 0, .int .i64 0, .view true 0 [], .view true 0 [], .int .i64 0, .int .i64 0, .view true 0 [], .int .i64 0, .int .i64 0, .int .i64 0, .int .i64 0]) := by kernel_rfl
theorem T191 : tinfo Tryz.prog 191 = some ⟨1, 8, [.int .u64 0], .int .u64⟩ := by kernel_rfl
theorem Z191 : tzero Tryz.prog 191 = some (.int .u64 0) := by kernel_rfl
theorem T192 : tinfo Tryz.prog 192 = some ⟨1, 8, [.nilfunc], .func⟩ := by kernel_rfl
theorem Z192 : tzero Tryz.prog 192 = some (.nilfunc) := by kernel_rfl
theorem T193 : tinfo Tryz.prog 193 = some ⟨2, 16, [.int .i64 0, .int .i64 0], .struct [(0, 34)]⟩ := by kernel_rfl
theorem Z193 : tzero Tryz.prog 193 = some (.agg [.int .i64 0, .int .i64 0]) := by kernel_rfl
theorem E194 : aEqTy Tryz.prog 194 = some [.i, .i] := by kernel_rfl
theorem T194 : tinfo Tryz.prog 194 = some ⟨2, 16, [.int .i64 0, .int .i64 0], .struct [(0, 34)]⟩ := by kernel_rfl
theorem Z194 : tzero Tryz.prog 194 = some (.agg [.int .i64 0, .int .i64 0]) := by kernel_rfl
theorem T195 : tinfo Tryz.prog 195 = some ⟨1, 8, [.nilmap], .map 3 3⟩ := by kernel_rfl
theorem Z195 : tzero Tryz.prog 195 = some (.nilmap) := by kernel_rfl
theorem T196 : tinfo Tryz.prog 196 = some ⟨1, 8, [.nilfunc], .func⟩ := by kernel_rfl
theorem Z196 : tzero Tryz.prog 196 = some (.nilfunc) := by kernel_rfl
theorem T197 : tinfo Tryz.prog 197 = some ⟨1, 8, [.nilfunc], .func⟩ := by kernel_rfl
theorem Z197 : tzero Tryz.prog 197 = some (.nilfunc) := by kernel_rfl
theorem T198 : tinfo Tryz.prog 198 = some ⟨1, 8, [.nilfunc], .func⟩ := by kernel_rfl
theorem Z198 : tzero Tryz.prog 198 = some (.nilfunc) := by kernel_rfl
theorem T199 : tinfo Tryz.prog 199 = some ⟨1, 8, [.nilmap], .map 3 198⟩ := by kernel_rfl
theorem Z199 : tzero Tryz.prog 199 = some (.nilmap) := by kernel_rfl
theorem T200 : tinfo Tryz.prog 200 = some ⟨1, 8, [.nilfunc], .func⟩ := by kernel_rfl
theorem Z200 : tzero Tryz.prog 200 = some (.nilfunc) := by kernel_rfl
theorem T201 : tinfo Tryz.prog 201 = some ⟨1, 8, [.nilfunc], .func⟩ := by kernel_rfl
theorem Z201 : tzero Tryz.prog 201 = some (.nilfunc) := by kernel_rfl
theorem T202 : tinfo Tryz.prog 202 = some ⟨1, 8, [.nilfunc], .func⟩ := by kernel_rfl
theorem Z202 : tzero Tryz.prog 202 = some (.nilfunc) := by kernel_rfl
theorem T203 : tinfo Tryz.prog 203 = some ⟨1, 8, [.nilfunc], .func⟩ := by kernel_rfl
theorem Z203 : tzero Tryz.prog 203 = some (.nilfunc) := by kernel_rfl
theorem T204 : tinfo Tryz.prog 204 = some ⟨1, 8, [.nilfunc], .func⟩ := by kernel_rfl
theorem Z204 : tzero Tryz.prog 204 = some (.nilfunc) := by kernel_rfl
theorem T206 : tinfo Tryz.prog 206 = some ⟨1, 8, [.nilfunc], .func⟩ := by kernel_rfl
theorem Z206 : tzero Tryz.prog 206 = some (.nilfunc) := by kernel_rfl
theorem T207 : tinfo Tryz.prog 207 = some ⟨1, 8, [.nilfunc], .func⟩ := by kernel_rfl
theorem Z207 : tzero Tryz.prog 207 = some (.nilfunc) := by kernel_rfl
theorem T210 : tinfo Tryz.prog 210 = some ⟨0, 0, [], .array 0 16⟩ := by kernel_rfl
theorem Z210 : tzero Tryz.prog 210 = some (.agg []) := by kernel_rfl
theorem T211 : tinfo Tryz.prog 211 = some ⟨0, 0, [], .struct [(0, 210)]⟩ := by kernel_rfl
theorem Z211 : tzero Tryz.prog 211 = some (.agg []) := by kernel_rfl
theorem T213 : tinfo Tryz.prog 213 = some ⟨1, 8, [.nilfunc], .func⟩ := by kernel_rfl
theorem Z213 : tzero Tryz.prog 213 = some (.nilfunc) := by kernel_rfl
theorem T214 : tinfo Tryz.prog 214 = some ⟨1, 4, [.int .u32 0], .int .u32⟩ := by kernel_rfl
theorem Z214 : tzero Tryz.prog 214 = some (.int .u32 0) := by kernel_rfl
theorem T217 : tinfo Tryz.prog 217 = some ⟨1, 8, [.nilfunc], .func⟩ := by kernel_rfl
theorem Z217 : tzero Tryz.prog 217 = some (.nilfunc) := by kernel_rfl
theorem T218 : tinfo Tryz.prog 218 = some ⟨1, 8, [.nilptr], .ptr 5⟩ := by kernel_rfl
theorem Z218 : tzero Tryz.prog 218 = some (.nilptr) := by kernel_rfl
theorem T223 : tinfo Tryz.prog 223 = some ⟨1, 8, [.nilptr], .other⟩ := by kernel_rfl
theorem Z223 : tzero Tryz.prog 223 = some (.nilptr) := by kernel_rfl
attribute [go_sem] T1 Z1 T2 Z2 T3 Z3 T4 Z4 T5 Z5 T7 Z7 T9 Z9 T12 Z12 T13 Z13 T15 Z15 T16 Z16 T20 Z20 T21 Z21 T22 Z22 T23 Z23 T24 Z24 T25 Z25 T26 Z26 T27 Z27 T28 Z28 T29 Z29 T30 Z30 E31 T31 Z31 T32 Z32 T33 Z33 E34 T34 Z34 T35 Z35 E36 T36 Z36 T37 Z37 E38 T38 Z38 T39 Z39 T40 Z40 T41 Z41 T43 Z43 T44 Z44 T45 Z45 T46 Z46 T47 Z47 T48 Z48 T49 Z49 T51 Z51 T52 Z52 T53 Z53 E54 T54 Z54 T55 Z55 T56 Z56 T57 Z57 T59 Z59 T61 Z61 T63 Z63 T64 Z64 T65 Z65 T66 Z66 T67 Z67 T68 Z68 T69 Z69 T70 Z70 T71 Z71 T72 Z72 T73 Z73 E74 T74 Z74 T75 Z75 T76 Z76 T77 Z77 T78 Z78 T79 Z79 T80 Z80 T81 Z81 T82 Z82 E83 T83 Z83 T85 Z85 T86 Z86 T87 Z87 T88 Z88 T89 Z89 T90 Z90 T91 Z91 E92 T92 Z92 T93 Z93 T95 Z95 T96 Z96 T97 Z97 E98 T98 Z98 T99 Z99 T100 Z100 T101 Z101 T102 Z102 T103 Z103 E104 T104 Z104 T106 Z106 T107 Z107 T109 Z109 T110 Z110 T111 Z111 T112 Z112 T113 Z113 T114 Z114 T115 Z115 T116 Z116 T117 Z117 T118 Z118 T119 Z119 T120 Z120 T121 Z121 T122 Z122 T124 Z124 T126 Z126 T127 Z127 T128 Z128 T129 Z129 T130 Z130 T131 Z131 E132 T132 Z132 T133 Z133 T134 Z134 T135 Z135 T136 Z136 T137 Z137 T138 Z138 T139 Z139 T140 Z140 T141 Z141 T142 Z142 T144 Z144 T145 Z145 T146 Z146 T147 Z147 T148 Z148 E149 T149 Z149 T150 Z150 T151 Z151 T153 Z153 T154 Z154 T155 Z155 E156 T156 Z156 T157 Z157 T158 Z158 T159 Z159 T161 Z161 T162 Z162 T163 Z163 T164 Z164 T165 Z165 T166 Z166 T167 Z167 T168 Z168 T169 Z169 T170 Z170 T171 Z171 T172 Z172 T173 Z173 T174 Z174 T175 Z175 T176 Z176 T177 Z177 T178 Z178 T179 Z179 T180 Z180 T181 Z181 E182 T182 Z182 T183 Z183 E184 T184 Z184 T185 Z185 T186 Z186 T188 Z188 T189 Z189 T190 Z190 T191 Z191 T192 Z192 T193 Z193 E194 T194 Z194 T195 Z195 T196 Z196 T197 Z197 T198 Z198 T199 Z199 T200 Z200 T201 Z201 T202 Z202 T203 Z203 T204 Z204 T206 Z206 T207 Z207 T210 Z210 T211 Z211 T213 Z213 T214 Z214 T217 Z217 T218 Z218 T223 Z223
end Go.Proofs.YtfiflailjbmlpaaGreatDoor
set_option linter.unusedVariables false
set_option linter.unusedSimpArgs false
namespace Go.AM
attribute [go_sem] Int.cast_ofNat_Int Int.le_refl
attribute [go_sem_proc] Nat.reduceAdd Nat.reduceSub Nat.reduceMul Nat.reduceEqDiff Nat.reduceLeDiff Nat.reduceLT Int.reduceToNat reduceCtorEq Int.reduceLT Int.reduceLE Int.reduceGT Int.reduceGE Int.reduceEq Int.reduceNe Int.reduceNeg Int.reduceAdd Int.reduceSub
attribute [go_sem_proc ↓] reduceIte
abbrev iv (n : Int) : AV := .int .i64 n
abbrev bv (b : UInt8) : AV := .int .u8 (b.toNat : Int)
abbrev r1 (n : Int) : List AV := [.int .i64 n]
abbrev rb (b : UInt8) : List AV := [.int .u8 (b.toNat : Int)]
theorem drop_at {α : Type} {l : List α} {i : Nat} {y : α} (h : l[i]? = some y) : l.drop i = y :: l.drop (i + 1) := by
  obtain ⟨h1, rfl⟩ := List.getElem?_eq_some_iff.1 h
  exact List.drop_eq_getElem_cons h1
theorem at_lt {α : Type} {l : List α} {i : Nat} (h : i < l.length) : ∃ y, l[i]? = some y := ⟨_, List.getElem?_eq_getElem h⟩
theorem rows_pure {α : Type} {f : α → List AV} (h : ∀ a, ltL 0 (f a) = true) (l : List α) : ∀ row ∈ l.map f, ∀ x ∈ row, x.pure = true := by
  intro row hr x hx
  obtain ⟨n, _, rfl⟩ := List.mem_map.1 hr
  obtain ⟨k, hk⟩ := List.getElem?_of_mem hx
  exact ltL_get (h n) hk
theorem r1_pure (l : List Int) : ∀ row ∈ l.map r1, ∀ x ∈ row, x.pure = true := rows_pure (fun _ => rfl) l
theorem rb_pure (l : List UInt8) : ∀ row ∈ l.map rb, ∀ x ∈ row, x.pure = true := rows_pure (fun _ => rfl) l
theorem ltL_mem {m : Nat} {xs : List AV} (h : ltL m xs = true) : ∀ x ∈ xs, x.lt m = true := fun x hx => by
  obtain ⟨k, hk⟩ := List.getElem?_of_mem hx
  exact ltL_get h hk
theorem Ch.fz_pure {r sz : Nat} {ys : List (List AV)} : ∀ {s : Ch}, s.lt 0 = true → s.fz r sz ys = s
  | .nil, _ => rfl
  | .put s d v, h => by
    simp only [Ch.lt, Bool.and_eq_true] at h
    simp only [Ch.fz, Ch.fz_pure h.1, Go.AM.fz_pure h.2]
theorem Ch.fzOk_pure {r n : Nat} : ∀ {s : Ch}, s.lt 0 = true → s.fzOk r n
  | .nil, _ => trivial
  | .put s d v, h => by
    simp only [Ch.lt, Bool.and_eq_true] at h
    exact ⟨Ch.fzOk_pure h.1, Go.AM.fzOk_pure h.2⟩
theorem bfz0 {r sz : Nat} {ys : List (List AV)} : ∀ {b : Blk}, b.lt 0 → b.fz r sz ys = b
  | .dead, _ => rfl
  | .rows z xs, h => bfz_pure h
  | .amap es, h => by
    rw [Blk.fz]
    congr 1
    conv => rhs; rw [← List.map_id' es]
    exact List.map_congr_left fun e he => by rw [fz_pure (h e he)]
  | .raw q, _ => rfl
  | .lrec q n s, h => by rw [Blk.fz, Ch.fz_pure h]
theorem bok0 {r n : Nat} : ∀ {b : Blk}, b.lt 0 → b.fzOk r n
  | .dead, _ => trivial
  | .rows z xs, h => bfzOk_pure h
  | .amap es, h => fun e he => fzOk_pure (h e he)
  | .raw _, _ => trivial
  | .lrec _ _ s, h => Ch.fzOk_pure h
theorem finv {post : CQ} {v : AV} (hv : v.lt 0 = true) (h : post (.ret v) []) (H : Heap) : Up 0 post (.ret v) H := .gc 0 (Nat.le_refl _) (Nat.zero_le _) hv (by simp) (.done h)
theorem finp {post : CQ} {v : AV} (hv : v.lt 0 = true) (h : post (.pan v) []) (H : Heap) : Up 0 post (.pan v) H := .gc 0 (Nat.le_refl _) (Nat.zero_le _) hv (by simp) (.done h)
section
variable {P : Program} {ops : Array Oper} {want : Bool} {op : Op} {d : Option Tmp} {rest : List Oper} {Q : XQ} {s : Ch} {H : Heap} {n : Nat} {D : Fx} {x y : Code} {b : Bool}
theorem gD_bool (h1 : b = true → gD P ops (.bool true) want op d rest Q s H) (h2 : b = false → gD P ops (.bool false) want op d rest Q s H) : gD P ops (.bool b) want op d rest Q s H := by
  cases b
  · exact h2 rfl
  · exact h1 rfl
theorem condD_bool (h1 : b = true → cwp P n D x Q s H) (h2 : b = false → cwp P n D y Q s H) : condD P n D (.bool b) x y Q s H := condD_split h1 h2
end
theorem VRs.le {sn : Snap} {ρ : Env} {xs ys : List AV} {vs : List Value} (h : VRs sn ρ xs vs) (hl : LeL xs ys) : VRs sn ρ ys vs :=
  ⟨by rw [← hl.len]; exact h.1, fun k y v hy hv => by
    obtain ⟨x, hx, hle⟩ := hl.get hy
    exact (h.2 k x v hx hv).le hle⟩
theorem u8_lt (b : UInt8) : (b.toNat : Int) < 256 := by have := b.toNat_lt; omega
theorem u8_ge (b : UInt8) : (0 : Int) ≤ b.toNat := Int.natCast_nonneg _
theorem kill_len : ∀ (ks : List Nat) (H : Heap), (kill H ks).length = H.length
  | [], _ => rfl
  | k :: ks, H => by rw [kill, kill_len ks]; simp
theorem kill_get : ∀ (ks : List Nat) (H : Heap) (i : Nat), (i ∉ ks → (kill H ks)[i]? = H[i]?) ∧ (i ∈ ks → i < H.length → (kill H ks)[i]? = some .dead)
  | [], H, i => ⟨fun _ => rfl, fun h => by simp at h⟩
  | k :: ks, H, i => by
    obtain ⟨h1, h2⟩ := kill_get ks (H.set k .dead) i
    refine ⟨fun hn => ?_, fun hm hl => ?_⟩
    · simp only [List.mem_cons, not_or] at hn
      rw [kill, h1 hn.2, List.getElem?_set_ne (fun e => hn.1 e.symm)]
    · rw [kill]
      by_cases hk : i ∈ ks
      · exact h2 hk (by simpa using hl)
      · have : i = k := by simpa [hk] using hm
        subst this
        rw [h1 hk, List.getElem?_set_self hl]
def allBut (n : Nat) (rs : List Nat) : List Nat := (List.range n).filter fun i => !rs.contains i
theorem kill_but {H : Heap} {rs : List Nat} {b : Blk} (hb : b ∈ kill H (allBut H.length rs)) : b = .dead ∨ ∃ r, r ∈ rs ∧ H[r]? = some b := by
  obtain ⟨i, hi⟩ := List.getElem?_of_mem hb
  have hl : i < H.length := by have := (List.getElem?_eq_some_iff.1 hi).1; rwa [kill_len] at this
  by_cases h : i ∈ rs
  · rw [(kill_get _ H i).1 (by simp [allBut, h])] at hi
    exact .inr ⟨i, h, hi⟩
  · rw [(kill_get _ H i).2 (by simp [allBut, h, hl]) hl] at hi
    exact .inl (Option.some.inj hi).symm
theorem up_one {post : CQ} {o : Out} {H : Heap} (r sz : Nat) (xs : List (List AV)) (hr : H[r]? = some (.rows sz xs)) (hp : ∀ row ∈ xs, ltL 0 row = true) (hok : o.fzOk r xs.length) (hv : (o.fz r sz xs).lt 0) (h : post (o.fz r sz xs) []) : Up 0 post o H := by
  have hg : (kill H (allBut H.length [r]))[r]? = some (.rows sz xs) := by rw [(kill_get _ H r).1 (by simp [allBut]), hr]
  refine Up.kill (allBut H.length [r]) H (.fz r sz xs hg (fun row hrow x hx => ltL_mem (hp row hrow) x hx) hok ?_ (.gc 0 (Nat.le_refl _) (Nat.zero_le _) hv (by simp) (.done (by simpa using h))))
  intro b hb
  rcases List.mem_or_eq_of_mem_set hb with hb | rfl
  · rcases kill_but hb with rfl | ⟨q, hq, hb2⟩
    · trivial
    · simp at hq; subst hq; rw [hr] at hb2; injection hb2 with hb2; subst hb2; exact bfzOk_pure hp
  · trivial
theorem up_two {post : CQ} {o : Out} {H : Heap} (r sz : Nat) (xs : List (List AV)) (q sy : Nat) (ys : List (List AV)) (hrq : r ≠ q) (hr : H[r]? = some (.rows sz xs)) (hq : H[q]? = some (.rows sy ys)) (hp : ∀ row ∈ xs, ltL 0 row = true) (hp2 : ∀ row ∈ ys, ltL 0 row = true) (hok : o.fzOk r xs.length) (hok2 : (o.fz r sz xs).fzOk q ys.length)
    (hv : ((o.fz r sz xs).fz q sy ys).lt 0) (h : post ((o.fz r sz xs).fz q sy ys) []) : Up 0 post o H := by
  have hg : (kill H (allBut H.length [r, q]))[r]? = some (.rows sz xs) := by rw [(kill_get _ H r).1 (by simp [allBut]), hr]
  have hg2 : (kill H (allBut H.length [r, q]))[q]? = some (.rows sy ys) := by rw [(kill_get _ H q).1 (by simp [allBut]), hq]
  have hall : ∀ b ∈ kill H (allBut H.length [r, q]), b.lt 0 := fun b hb => by
    rcases kill_but hb with rfl | ⟨k, hk, hb2⟩
    · trivial
    · simp at hk
      rcases hk with rfl | rfl
      · rw [hr] at hb2; injection hb2 with hb2; subst hb2; exact hp
      · rw [hq] at hb2; injection hb2 with hb2; subst hb2; exact hp2
  refine Up.kill (allBut H.length [r, q]) H (.fz r sz xs hg (fun row hrow x hx => ltL_mem (hp row hrow) x hx) hok ?_ ?_)
  · intro b hb
    rcases List.mem_or_eq_of_mem_set hb with hb | rfl
    · exact bok0 (hall b hb)
    · trivial
  · have hm : (((kill H (allBut H.length [r, q])).set r .dead).map (Blk.fz r sz xs)) = (kill H (allBut H.length [r, q])).set r .dead := by
      conv => rhs; rw [← List.map_id' ((kill H (allBut H.length [r, q])).set r .dead)]
      refine List.map_congr_left fun b hb => ?_
      rcases List.mem_or_eq_of_mem_set hb with hb | rfl
      · exact bfz0 (hall b hb)
      · rfl
    rw [hm]
    refine .fz q sy ys (by rw [List.getElem?_set_ne hrq]; exact hg2) (fun row hrow x hx => ltL_mem (hp2 row hrow) x hx) hok2 ?_ (.gc 0 (Nat.le_refl _) (Nat.zero_le _) hv (by simp) (.done (by simpa using h)))
    intro b hb
    rcases List.mem_or_eq_of_mem_set hb with hb | rfl
    · rcases List.mem_or_eq_of_mem_set hb with hb | rfl
      · exact bok0 (hall b hb)
      · trivial
    · trivial
theorem rows_lt {α : Type} {f : α → List AV} (h : ∀ a, ltL 0 (f a) = true) (l : List α) : ∀ row ∈ l.map f, ltL 0 row = true := by
  intro row hr
  obtain ⟨n, _, rfl⟩ := List.mem_map.1 hr
  exact h n
theorem r1_lt0 (l : List Int) : ∀ row ∈ l.map r1, ltL 0 row = true := rows_lt (fun _ => rfl) l
theorem rb_lt0 (l : List UInt8) : ∀ row ∈ l.map rb, ltL 0 row = true := rows_lt (fun _ => rfl) l
theorem blt0 {sz m : Nat} {xs : List (List AV)} (h : ∀ row ∈ xs, ltL 0 row = true) : (Blk.rows sz xs).lt m := fun row hr => ltL_le (Nat.zero_le m) (h row hr)
end Go.AM
set_option maxRecDepth 100000
set_option linter.unusedVariables false
set_option linter.unusedSimpArgs false
namespace Go.Proofs.YtfiflailjbmlpaaGreatDoor
open Go.AM
structure Sp where
  perm : List Int
  byt : List UInt8
def Sp.av (s : Sp) : AV := .agg [.view false 1 (s.perm.map r1), .view false 1 (s.byt.map rb)]
theorem Sp.av_lt (s : Sp) (m : Nat) : s.av.lt m = true := rfl
def okP (p : Int) : Bool := decide (p = 0) || decide (p = 1) || decide (p = 3) || decide (p = 4)
structure Sp.ok (s : Sp) : Prop where
  p32 : s.perm.length ≤ 32
  len : s.byt.length = 64 * s.perm.length
  all : s.perm.all okP = true
instance (s : Sp) : Decidable s.ok := decidable_of_iff (s.perm.length ≤ 32 ∧ s.byt.length = 64 * s.perm.length ∧ s.perm.all okP = true) ⟨fun h => ⟨h.1, h.2.1, h.2.2⟩, fun h => ⟨h.1, h.2, h.3⟩⟩
def Sp.chk (s : Sp) : Int := if s.ok then 0 else 30
theorem permitted_c (p : Int) : ACalls Tryz.prog 108 [iv p] [] (fun o H => o = .ret (.bool (okP p)) ∧ H = []) := by
  refine ACalls.up ?_
  refine ACalls.intro (cs := []) (n := 17) Tryz.func108 rfl rfl rfl (by kernel_rfl) rfl ?_
  generalize hpost : (fun (o : Out) (H : Heap) => o = Out.ret (.bool (okP p)) ∧ H = []) = post
  have fin : ∀ b H, b = okP p → Up 0 post (.ret (.bool b)) H := fun n H e => finv rfl (by rw [← hpost, e]; exact ⟨rfl, rfl⟩) H
  simp only [go_sem]
  repeat' (first | (refine gD_dec (fun hg => ?_) (fun hg => ?_) <;> simp only [go_sem,hg]) | (refine condD_dec (fun hg => ?_) (fun hg => ?_) <;> simp only [go_sem,hg]))
  all_goals exact fin _ _ (by simp [okP, *])
theorem all_step {α : Type} {f : α → Bool} {l : List α} {i : Nat} {y : α} (h : l[i]? = some y) (ha : (l.take i).all f = true) (hy : f y = true) : (l.take (i + 1)).all f = true := by
  rw [List.take_add_one, h]
  simp [ha, hy]
theorem all_not {α : Type} {f : α → Bool} {l : List α} {i : Nat} {y : α} (h : l[i]? = some y) (hy : f y = false) : l.all f ≠ true := fun ha => by
  have := List.all_eq_true.1 ha y (List.mem_of_getElem? h)
  rw [hy] at this
  cases this
theorem mcheck_c (s : Sp) : ACalls Tryz.prog 61 [s.av] [] (fun o H => o = .ret (iv s.chk) ∧ H = []) := by
  refine ACalls.up ?_
  refine ACalls.intro (cs := []) (n := 41) Tryz.func61 rfl rfl rfl (by kernel_rfl) rfl ?_
  generalize hpost : (fun (o : Out) (H : Heap) => o = Out.ret (iv s.chk) ∧ H = []) = post
  have fin : ∀ n H, n = s.chk → Up 0 post (.ret (iv n)) H := fun n H e => finv rfl (by rw [← hpost, e]; exact ⟨rfl, rfl⟩) H
  simp only [go_sem,Sp.av,List.length_map]
  repeat' (first | (refine gD_dec (fun hg => ?_) (fun hg => ?_) <;> simp only [go_sem,hg,List.length_map]) | (refine condD_dec (fun hg => ?_) (fun hg => ?_) <;> simp only [go_sem,hg,List.length_map]))
  · exact fin _ _ (by rw [Sp.chk, if_neg (fun h => by have := h.p32; omega)])
  · rename_i h1
    have h2 := hg
    rw [iw64 (by omega) (by omega)] at h2
    exact fin _ _ (by rw [Sp.chk, if_neg (fun h => by have := h.len; omega)])
  · rename_i h1
    have h2 := hg
    rw [iw64 (by omega) (by omega)] at h2
    refine loop_fam (fun i : Nat => (((Ch.nil.put 20 (.view false 1 (s.perm.map r1))).put 21 (iv s.perm.length)).put 22 (iv i))) (fun _ => [.rows 2 [[.view false 1 (s.perm.map r1), .view false 1 (s.byt.map rb)]]])
      (fun i => s.perm.length - i) (fun i => i ≤ s.perm.length ∧ (s.perm.take i).all okP = true) 0 (by kernel_rfl) ⟨Nat.zero_le _, rfl⟩ (Wk.slots' rfl (by simp [wkS, Ch.get])) ?_
    rintro i ⟨hi, ha⟩ K hK
    simp only [go_sem]
    refine condD_dec (fun hc => ?_) (fun hc => ?_)
    · have hc' : i < s.perm.length := by omega
      obtain ⟨y, hy⟩ := at_lt hc'
      have e1 : iw .i64 ((i : Int) + 1) = ((i + 1 : Nat) : Int) := by rw [iw64] <;> omega
      simp only [go_sem,List.length_map,List.getElem?_map,hy,hc,Int.natCast_nonneg]
      repeat' (first | (refine gD_dec (fun hg => ?_) (fun hg => ?_) <;> simp only [go_sem,hg,List.length_map,e1]) | (refine condD_dec (fun hg => ?_) (fun hg => ?_) <;> simp only [go_sem,hg,List.length_map,e1]))
      case refine_1.refine_1.refine_1.refine_1 => exact fin _ _ (by rw [Sp.chk, if_neg (fun h => all_not hy (by simp [okP, *]) h.all)])
      all_goals exact hK (i + 1) _ _ ⟨hc', all_step hy ha (by simp_all [okP])⟩ (by omega) (Wk.slots' rfl (by simp [wkS, Ch.get]))
    · simp only [go_sem]
      have : i = s.perm.length := by omega
      subst this
      rw [List.take_length] at ha
      exact fin _ _ (by rw [Sp.chk, if_pos ⟨by omega, by omega, ha⟩])
theorem rcheck_c (s : Sp) : ACalls Tryz.prog 64 [s.av] [] (fun o H => o = .ret (iv s.chk) ∧ H = []) := by
  refine ACalls.up ?_
  refine ACalls.intro (cs := []) (n := 32) Tryz.func64 rfl rfl rfl (by kernel_rfl) rfl ?_
  generalize hpost : (fun (o : Out) (H : Heap) => o = Out.ret (iv s.chk) ∧ H = []) = post
  have fin : ∀ n H, n = s.chk → Up 0 post (.ret (iv n)) H := fun n H e => finv rfl (by rw [← hpost, e]; exact ⟨rfl, rfl⟩) H
  simp only [go_sem,Sp.av,List.length_map]
  repeat' (first | (refine gD_dec (fun hg => ?_) (fun hg => ?_) <;> simp only [go_sem,hg,List.length_map]) | (refine condD_dec (fun hg => ?_) (fun hg => ?_) <;> simp only [go_sem,hg,List.length_map]))
  · exact fin _ _ (by rw [Sp.chk, if_neg (fun h => by have := h.p32; omega)])
  · rename_i h1
    have h2 := hg
    rw [iw64 (by omega) (by omega)] at h2
    exact fin _ _ (by rw [Sp.chk, if_neg (fun h => by have := h.len; omega)])
  · rename_i h1
    have h2 := hg
    rw [iw64 (by omega) (by omega)] at h2
    refine loop_fam (fun i : Nat => ((Ch.nil.put 1 (.ptr 0 0 0)).put 3 (iv i))) (fun _ => [.rows 2 [[.view false 1 (s.perm.map r1), .view false 1 (s.byt.map rb)]]])
      (fun i => s.perm.length - i) (fun i => i ≤ s.perm.length ∧ (s.perm.take i).all okP = true) 0 (by kernel_rfl) ⟨Nat.zero_le _, rfl⟩ (Wk.slots' rfl (by simp [wkS, Ch.get])) ?_
    rintro i ⟨hi, ha⟩ K hK
    simp only [go_sem,List.length_map]
    refine condD_dec (fun hc => ?_) (fun hc => ?_)
    · have hc' : i < s.perm.length := by omega
      obtain ⟨y, hy⟩ := at_lt hc'
      have e1 : iw .i64 ((i : Int) + 1) = ((i + 1 : Nat) : Int) := by rw [iw64] <;> omega
      simp only [go_sem,List.length_map,List.getElem?_map,hy,hc,Int.natCast_nonneg]
      refine rK_use (enters_of Tryz.func108 rfl (by decide)) (ACalls.pure_use (permitted_c y) rfl rfl) ?_
      cases hp : okP y
      · simp only [go_sem]
        exact fin _ _ (by rw [Sp.chk, if_neg (fun h => all_not hy hp h.all)])
      · simp only [go_sem,e1]
        exact hK (i + 1) _ _ ⟨hc', all_step hy ha hp⟩ (by omega) (Wk.slots' rfl (by simp [wkS, Ch.get]))
    · simp only [go_sem]
      have : i = s.perm.length := by omega
      subst this
      rw [List.take_length] at ha
      exact fin _ _ (by rw [Sp.chk, if_pos ⟨by omega, by omega, ha⟩])
def Sp.has (s : Sp) (x : Int) : Bool := decide (0 ≤ x) && decide (x < s.byt.length)
theorem has_c (s : Sp) (x : Int) : ACalls Tryz.prog 120 [s.av, iv x] [] (fun o H => o = .ret (.bool (s.has x)) ∧ H = []) := by
  refine ACalls.up ?_
  refine ACalls.intro (cs := []) (n := 14) Tryz.func120 rfl rfl rfl (by kernel_rfl) rfl ?_
  generalize hpost : (fun (o : Out) (H : Heap) => o = Out.ret (.bool (s.has x)) ∧ H = []) = post
  have fin : ∀ b H, b = s.has x → Up 0 post (.ret (.bool b)) H := fun n H e => finv rfl (by rw [← hpost, e]; exact ⟨rfl, rfl⟩) H
  simp only [go_sem,Sp.av]
  repeat' (first | (refine gD_dec (fun hg => ?_) (fun hg => ?_) <;> simp only [go_sem,hg,List.length_map]) | (refine condD_dec (fun hg => ?_) (fun hg => ?_) <;> simp only [go_sem,hg,List.length_map]))
  all_goals exact fin _ _ (by simp [Sp.has, *])
theorem inside_c (s : Sp) (x : Int) : ACalls Tryz.prog 65 [s.av, iv x] [] (fun o H => o = .ret (.bool (s.has x)) ∧ H = []) := by
  refine ACalls.up ?_
  refine ACalls.intro (cs := []) (n := 14) Tryz.func65 rfl rfl rfl (by kernel_rfl) rfl ?_
  generalize hpost : (fun (o : Out) (H : Heap) => o = Out.ret (.bool (s.has x)) ∧ H = []) = post
  have fin : ∀ b H, b = s.has x → Up 0 post (.ret (.bool b)) H := fun n H e => finv rfl (by rw [← hpost, e]; exact ⟨rfl, rfl⟩) H
  simp only [go_sem,Sp.av]
  repeat' (first | (refine gD_dec (fun hg => ?_) (fun hg => ?_) <;> simp only [go_sem,hg,List.length_map]) | (refine condD_dec (fun hg => ?_) (fun hg => ?_) <;> simp only [go_sem,hg,List.length_map]))
  all_goals exact fin _ _ (by simp [Sp.has, *])
structure Flt where
  kind : Int
  pos : Int
def Flt.cells (f : Flt) : List AV := [iv f.kind, iv f.pos]
def alw (p perm : Int) : Bool := decide (bAnd .i64 p perm = perm)
def fk (perm : Int) : Int := if perm = 1 then 2 else if perm = 2 then 3 else if perm = 4 then 4 else 0
def Sp.pm (s : Sp) (x : Int) : Int := (s.perm[(x.tdiv 64).toNat]?).getD 0
def Sp.bad1 (s : Sp) (perm x : Int) : Flt := if s.has x = true then (if alw (s.pm x) perm = true then ⟨0, 0⟩ else ⟨fk perm, x⟩) else ⟨1, x⟩
def Sp.flt (s : Sp) (pos perm : Int) : Nat → Nat → Flt
  | 0, _ => ⟨0, 0⟩
  | m + 1, i => if (s.bad1 perm (iw .i64 (pos + i))).kind = 0 then s.flt pos perm m (i + 1) else s.bad1 perm (iw .i64 (pos + i))
def fltOut (f : Flt) (o : Out) : Prop := if f.kind = 0 then o = .ret (.tuple []) else o = .pan (.iface 194 (.agg f.cells))
theorem Sp.pm_at {s : Sp} (hs : s.ok) {x : Int} (hx : s.has x = true) : ∃ p, s.perm[(x.tdiv 64).toNat]? = some p ∧ s.pm x = p ∧ okP p = true ∧ 0 ≤ x.tdiv 64 ∧ x.tdiv 64 < s.perm.length := by
  simp only [Sp.has, Bool.and_eq_true, decide_eq_true_eq] at hx
  have hl := hs.len
  have e : x.tdiv 64 = x / 64 := Int.tdiv_eq_ediv_of_nonneg hx.1
  obtain ⟨p, hp⟩ := at_lt (l := s.perm) (i := (x.tdiv 64).toNat) (by omega)
  exact ⟨p, hp, by simp [Sp.pm, hp], List.all_eq_true.1 hs.all p (List.mem_of_getElem? hp), by omega, by omega⟩
theorem need_c (s : Sp) (hs : s.ok) (pos perm : Int) (n : Nat) (hn : n ≤ 1000000) (hp : perm = 0 ∨ perm = 1 ∨ perm = 2 ∨ perm = 4) :
    ACalls Tryz.prog 127 [s.av, iv pos, iv n, iv perm] [] (fun o H => fltOut (s.flt pos perm n 0) o ∧ H = []) := by
  refine ACalls.up ?_
  refine ACalls.intro (cs := []) (n := 46) Tryz.func127 rfl rfl rfl (by kernel_rfl) rfl ?_
  generalize hpost : (fun (o : Out) (H : Heap) => fltOut (s.flt pos perm n 0) o ∧ H = []) = post
  simp only [go_sem,Sp.av]
  refine loop_fam (fun i : Nat => ((((((Ch.nil.put 1 (iv pos)).put 3 (iv perm)).put 4 (.ptr 0 0 0)).put 8 (.map 1)).put 13 (iv n)).put 14 (iv i)))
    (fun _ => [.rows 2 [[.view false 1 (s.perm.map r1), .view false 1 (s.byt.map rb)]], .amap [(iv 1, iv 2), (iv 2, iv 3), (iv 4, iv 4)]])
    (fun i => n - i) (fun i => i ≤ n ∧ s.flt pos perm n 0 = s.flt pos perm (n - i) i) 0 (by kernel_rfl) ⟨Nat.zero_le _, by simp⟩ (Wk.slots' rfl (by simp [wkS, Ch.get])) ?_
  rintro i ⟨hi, ha⟩ K hK
  have pan : ∀ f H, f = s.flt pos perm n 0 → f.kind ≠ 0 → Up 0 post (.pan (.iface 194 (.agg [iv f.kind, iv f.pos]))) H := fun f H e h => finp rfl (by rw [← hpost, ← e]; exact ⟨by rw [fltOut, if_neg h]; rfl, rfl⟩) H
  simp only [go_sem]
  refine condD_dec (fun hc => ?_) (fun hc => ?_)
  · obtain ⟨m, hm⟩ : ∃ m, n - i = m + 1 := ⟨n - i - 1, by omega⟩
    rw [hm, Sp.flt] at ha
    have e1 : iw .i64 ((i : Int) + 1) = ((i + 1 : Nat) : Int) := by rw [iw64] <;> omega
    generalize hx : iw .i64 (pos + i) = x at ha
    simp only [go_sem,hx]
    refine rK_use (enters_of Tryz.func120 rfl (by decide)) (ACalls.pure_use (has_c s x) rfl rfl) ?_
    cases hh : s.has x
    · simp only [go_sem]
      have hb : s.bad1 perm x = ⟨1, x⟩ := by simp [Sp.bad1, hh]
      exact pan ⟨1, x⟩ _ (by rw [ha, hb]; rfl) (by simp)
    · obtain ⟨p, h1, h2, h3, h4, h5⟩ := Sp.pm_at hs hh
      have h6 := hs.p32
      have e2 : iw .i64 (x.tdiv 64) = x.tdiv 64 := iw64 (by omega) (by omega)
      simp only [go_sem,List.length_map,List.getElem?_map,h1,h4,h5,e2]
      refine condD_dec (fun hd => ?_) (fun hd => ?_)
      · have hal : alw p perm = false := by simpa [alw] using hd
        have hb : s.bad1 perm x = ⟨fk perm, x⟩ := by simp [Sp.bad1, hh, h2, hal]
        rcases hp with rfl | rfl | rfl | rfl
        · have e0 : bAnd .i64 p 0 = 0 := by simp [bAnd]; rfl
          rw [alw, e0] at hal
          cases hal
        all_goals
          simp only [go_sem]
          exact pan ⟨_, x⟩ _ (by rw [ha, hb]; rfl) (by simp)
      · have hal : alw p perm = true := by simpa [alw] using hd
        have hb : s.bad1 perm x = ⟨0, 0⟩ := by simp [Sp.bad1, hh, h2, hal]
        simp only [go_sem,e1]
        exact hK (i + 1) _ _ ⟨by omega, by rw [ha, hb, if_pos rfl]; congr 1; omega⟩ (by omega) (Wk.slots' rfl (by simp [wkS, Ch.get]))
  · have hin : i = n := by omega
    subst hin
    simp only [go_sem]
    exact finv rfl (by rw [← hpost, ha]; exact ⟨by simp [Sp.flt, fltOut], rfl⟩) _
theorem need_ok (s : Sp) (hs : s.ok) (pos perm : Int) (n : Nat) (hn : n ≤ 1000000) (hp : perm = 0 ∨ perm = 1 ∨ perm = 2 ∨ perm = 4) (hk : (s.flt pos perm n 0).kind = 0) :
    ACalls Tryz.prog 127 [s.av, iv pos, iv n, iv perm] [] (fun o H => o = .ret (.tuple []) ∧ H = []) := (need_c s hs pos perm n hn hp).mono fun o H ⟨h1, h2⟩ => ⟨by rwa [fltOut, if_pos hk] at h1, h2⟩
theorem need_pan (s : Sp) (hs : s.ok) (pos perm : Int) (n : Nat) (hn : n ≤ 1000000) (hp : perm = 0 ∨ perm = 1 ∨ perm = 2 ∨ perm = 4) (hk : (s.flt pos perm n 0).kind ≠ 0) :
    ACalls Tryz.prog 127 [s.av, iv pos, iv n, iv perm] [] (fun o H => o = .pan (.iface 194 (.agg (s.flt pos perm n 0).cells)) ∧ H = []) := (need_c s hs pos perm n hn hp).mono fun o H ⟨h1, h2⟩ => ⟨by rwa [fltOut, if_neg hk] at h1, h2⟩
theorem flt0 : ∀ (s : Sp) (pos perm : Int) (m i : Nat), (s.flt pos perm m i).kind = 0 → s.flt pos perm m i = ⟨0, 0⟩
  | s, pos, perm, 0, i, h => rfl
  | s, pos, perm, m + 1, i, h => by
    rw [Sp.flt] at h ⊢
    split at h
    · rename_i h1; rw [if_pos h1]; exact flt0 s pos perm m (i + 1) h
    · rename_i h1; exact absurd h h1
theorem faults_c (s : Sp) (hs : s.ok) (pos perm : Int) (n : Nat) (hn : n ≤ 1000000) (hp : perm = 0 ∨ perm = 1 ∨ perm = 2 ∨ perm = 4) :
    ACalls Tryz.prog 109 [s.av, iv pos, iv n, iv perm] [] (fun o H => o = .ret (.agg (s.flt pos perm n 0).cells) ∧ H = []) := by
  refine ACalls.up ?_
  refine ACalls.introD (n := 15) Tryz.func109 rfl (by kernel_rfl) rfl ?_
  refine DWp.seq (by kernel_rfl) ?_
  generalize hpost : (fun (o : Out) (H : Heap) => o = Out.ret (.agg (s.flt pos perm n 0).cells) ∧ H = []) = post
  simp only [go_sem,Sp.av]
  refine DWp.defer (by kernel_rfl) rfl (by kernel_rfl) (by kernel_rfl) ?_
  simp only [go_sem]
  refine ⟨(enters_of Tryz.func126 rfl (by decide)), fun d => ?_⟩
  have fin : ∀ f H, f = s.flt pos perm n 0 → Up 0 post (.ret (.agg [iv f.kind, iv f.pos])) H := fun f H e => finv rfl (by rw [← hpost, ← e]; exact ⟨rfl, rfl⟩) H
  rcases Decidable.em ((s.flt pos perm n 0).kind = 0) with hk | hk
  · refine rK_use (enters_of Tryz.func127 rfl (by decide)) (ACalls.pure_use (need_ok s hs pos perm n hn hp hk) rfl rfl) ?_
    simp only [go_sem]
    refine ADef.intro (n := 15) Tryz.func126 rfl rfl (by kernel_rfl) rfl (by kernel_rfl) ?_
    simp only [go_sem]
    exact fin ⟨0, 0⟩ _ (flt0 _ _ _ _ _ hk).symm
  · refine rK_pans (enters_of Tryz.func127 rfl (by decide)) (ACalls.pure_pan (need_pan s hs pos perm n hn hp hk) rfl rfl) ?_
    simp only [go_sem,Flt.cells]
    refine ADef.intro (n := 15) Tryz.func126 rfl rfl (by kernel_rfl) rfl (by kernel_rfl) ?_
    simp only [go_sem]
    exact fin _ _ rfl
end Go.Proofs.YtfiflailjbmlpaaGreatDoor
set_option maxRecDepth 100000
set_option linter.unusedVariables false
set_option linter.unusedSimpArgs false
namespace Go.Proofs.YtfiflailjbmlpaaGreatDoor
open Go.AM
def I64 (x : Int) : Prop := -9223372036854775808 ≤ x ∧ x ≤ 9223372036854775807
theorem iw_i64 (x : Int) : I64 (iw .i64 x) := by simp only [I64, iw, IntKind.wrap, IntKind.signed, IntKind.bits]; simp; omega
theorem I64.iw {x : Int} (h : I64 x) : iw .i64 x = x := iw64 h.1 h.2
theorem bA01 : bAnd .i64 0 1 = 0 := by decide
theorem bA11 : bAnd .i64 1 1 = 1 := by decide
theorem bA31 : bAnd .i64 3 1 = 1 := by decide
theorem bA41 : bAnd .i64 4 1 = 0 := by decide
theorem bA02 : bAnd .i64 0 2 = 0 := by decide
theorem bA12 : bAnd .i64 1 2 = 0 := by decide
theorem bA32 : bAnd .i64 3 2 = 2 := by decide
theorem bA42 : bAnd .i64 4 2 = 0 := by decide
theorem alw0 (p : Int) : alw p 0 = true := by
  have e0 : bAnd .i64 p 0 = 0 := by simp [bAnd]; rfl
  rw [alw, e0]; rfl
theorem okP_cases {p : Int} (h : okP p = true) : p = 0 ∨ p = 1 ∨ p = 3 ∨ p = 4 := by
  simp only [okP, Bool.or_eq_true, decide_eq_true_eq] at h
  omega
theorem mustF_c (f : Flt) : ACalls Tryz.prog 71 [.agg f.cells, iv 0] [] (fun o H => o = .ret (.agg f.cells) ∧ H = []) := by
  refine ACalls.up ?_
  refine ACalls.intro (cs := []) (n := 10) Tryz.func71 rfl rfl rfl (by kernel_rfl) rfl ?_
  generalize hpost : (fun (o : Out) (H : Heap) => o = Out.ret (.agg f.cells) ∧ H = []) = post
  simp only [go_sem,Flt.cells]
  exact finv rfl (by rw [← hpost]; exact ⟨rfl, rfl⟩) _
theorem mustI_c (n : Int) : ACalls Tryz.prog 130 [iv n, iv 0] [] (fun o H => o = .ret (iv n) ∧ H = []) := by
  refine ACalls.up ?_
  refine ACalls.intro (cs := []) (n := 10) Tryz.func130 rfl rfl rfl (by kernel_rfl) rfl ?_
  generalize hpost : (fun (o : Out) (H : Heap) => o = Out.ret (iv n) ∧ H = []) = post
  simp only [go_sem]
  exact finv rfl (by rw [← hpost]; exact ⟨rfl, rfl⟩) _
theorem mustB_c (xs : List (List AV)) (hx : ∀ row ∈ xs, ltL 0 row = true) : ACalls Tryz.prog 111 [.view false 1 xs, iv 0] [] (fun o H => o = .ret (.view false 1 xs) ∧ H = []) := by
  refine ACalls.up ?_
  refine ACalls.intro (cs := []) (n := 10) Tryz.func111 rfl rfl rfl (by kernel_rfl) rfl ?_
  generalize hpost : (fun (o : Out) (H : Heap) => o = Out.ret (.view false 1 xs) ∧ H = []) = post
  simp only [go_sem]
  exact finv rfl (by rw [← hpost]; exact ⟨rfl, rfl⟩) _
theorem Sp.chk_ok {s : Sp} (h : s.ok) : s.chk = 0 := if_pos h
theorem access_c (s : Sp) (hs : s.ok) (pos perm : Int) (n : Nat) (hn : n ≤ 2048) (hp : perm = 1 ∨ perm = 2 ∨ perm = 4) :
    ACalls Tryz.prog 72 [s.av, iv pos, iv n, iv perm] [] (fun o H => o = .ret (.tuple [.agg (s.flt pos perm n 0).cells, iv 0]) ∧ H = []) := by
  refine ACalls.up ?_
  refine ACalls.intro (cs := []) (n := 41) Tryz.func72 rfl rfl rfl (by kernel_rfl) rfl ?_
  generalize hpost : (fun (o : Out) (H : Heap) => o = Out.ret (.tuple [.agg (s.flt pos perm n 0).cells, iv 0]) ∧ H = []) = post
  simp only [go_sem,Sp.av]
  refine rK_use (enters_of Tryz.func61 rfl (by decide)) (ACalls.pure_use (mcheck_c s) rfl rfl) ?_
  rw [Sp.chk_ok hs]
  simp only [go_sem]
  have h1 : ¬ ((n : Int) < 0) := by omega
  have h2 : ¬ ((2048 : Int) < n) := by omega
  have hfin : cwp Tryz.prog 41 { D := [], B := 0, cuts := [] } .skip (fun _ _ _ => True) .nil [] := trivial
  rcases hp with rfl | rfl | rfl
  all_goals
    simp only [go_sem,h1,h2]
    refine rK_use (enters_of Tryz.func109 rfl (by decide)) (ACalls.pure_use (faults_c s hs pos _ n (by omega) (by simp)) rfl rfl) ?_
    simp only [go_sem,Flt.cells]
    exact finv rfl (by rw [← hpost]; exact ⟨rfl, rfl⟩) _
theorem bad1_ok {s : Sp} {perm x p : Int} (hh : s.has x = true) (h2 : s.pm x = p) (ha : alw p perm = true) : s.bad1 perm x = ⟨0, 0⟩ := by rw [Sp.bad1, if_pos hh, h2, if_pos ha]
theorem bad1_no {s : Sp} {perm x p : Int} (hh : s.has x = true) (h2 : s.pm x = p) (ha : alw p perm = false) : s.bad1 perm x = ⟨fk perm, x⟩ := by rw [Sp.bad1, if_pos hh, h2, if_neg (by rw [ha]; decide)]
theorem rfault_c (s : Sp) (hs : s.ok) (pos perm : Int) (n : Nat) (hn : n ≤ 1000000) (hp : perm = 0 ∨ perm = 1 ∨ perm = 2 ∨ perm = 4) :
    ACalls Tryz.prog 83 [s.av, iv pos, iv n, iv perm] [] (fun o H => o = .ret (.agg (s.flt pos perm n 0).cells) ∧ H = []) := by
  refine ACalls.up ?_
  refine ACalls.intro (cs := []) (n := 62) Tryz.func83 rfl rfl rfl (by kernel_rfl) rfl ?_
  generalize hpost : (fun (o : Out) (H : Heap) => o = Out.ret (.agg (s.flt pos perm n 0).cells) ∧ H = []) = post
  simp only [go_sem,Sp.av]
  refine loop_fam (fun i : Nat => ((((((Ch.nil.put 1 (iv pos)).put 2 (iv n)).put 3 (iv perm)).put 4 (.ptr 0 0 0)).put 8 (.ptr 1 0 0)).put 9 (iv i)))
    (fun _ => [.rows 2 [[.view false 1 (s.perm.map r1), .view false 1 (s.byt.map rb)]], .rows 2 [[iv 0, iv 0]]])
    (fun i => n - i) (fun i => i ≤ n ∧ s.flt pos perm n 0 = s.flt pos perm (n - i) i) 0 (by kernel_rfl) ⟨Nat.zero_le _, by simp⟩ (Wk.slots' rfl (by simp [wkS, Ch.get])) ?_
  rintro i ⟨hi, ha⟩ K hK
  have fin : ∀ f H, f = s.flt pos perm n 0 → Up 0 post (.ret (.agg [iv f.kind, iv f.pos])) H := fun f H e => finv rfl (by rw [← hpost, ← e]; exact ⟨rfl, rfl⟩) H
  simp only [go_sem]
  refine condD_dec (fun hc => ?_) (fun hc => ?_)
  · obtain ⟨m, hm⟩ : ∃ m, n - i = m + 1 := ⟨n - i - 1, by omega⟩
    rw [hm, Sp.flt] at ha
    have e1 : iw .i64 ((i : Int) + 1) = ((i + 1 : Nat) : Int) := by rw [iw64] <;> omega
    generalize hx : iw .i64 (pos + i) = x at ha
    simp only [go_sem,hx]
    refine rK_use (enters_of Tryz.func65 rfl (by decide)) (ACalls.pure_use (inside_c s x) rfl rfl) ?_
    cases hh : s.has x
    · simp only [go_sem]
      have hb : s.bad1 perm x = ⟨1, x⟩ := by simp [Sp.bad1, hh]
      exact fin ⟨1, x⟩ _ (by rw [ha, hb]; rfl)
    · obtain ⟨p, h1, h2, h3, h4, h5⟩ := Sp.pm_at hs hh
      have h6 := hs.p32
      have e2 : iw .i64 (x.tdiv 64) = x.tdiv 64 := iw64 (by omega) (by omega)
      simp only [go_sem,List.length_map,List.getElem?_map,h1,h4,h5,e2]
      rcases okP_cases h3 with rfl | rfl | rfl | rfl <;> rcases hp with rfl | rfl | rfl | rfl <;> simp only [go_sem,bA01,bA11,bA31,bA41,bA02,bA12,bA32,bA42,e1]
      all_goals first
        | (refine fin ⟨_, x⟩ _ ?_
           rw [ha, bad1_no hh h2]
           · rfl
           · decide)
        | (refine hK (i + 1) _ _ ⟨by omega, ?_⟩ (by omega) (Wk.slots' rfl (by simp [wkS, Ch.get]))
           rw [ha, bad1_ok hh h2, if_pos rfl]
           · congr 1; omega
           · decide)
  · simp only [go_sem]
    have hin : i = n := by omega
    subst hin
    rw [Nat.sub_self, Sp.flt] at ha
    exact fin ⟨0, 0⟩ _ ha.symm
def Sp.fet (s : Sp) (pos : Int) : Nat → Nat → List UInt8
  | 0, _ => []
  | m + 1, i => if s.has (iw .i64 (pos + i)) = true ∧ s.pm (iw .i64 (pos + i)) = 4 then (s.byt[(iw .i64 (pos + i)).toNat]?).getD 0 :: s.fet pos m (i + 1) else []
theorem Sp.fet_len (s : Sp) (pos : Int) : ∀ (m i : Nat), (s.fet pos m i).length ≤ m
  | 0, _ => Nat.le_refl _
  | m + 1, i => by
    rw [Sp.fet]
    split
    · have := Sp.fet_len s pos m (i + 1); simp; omega
    · simp
theorem Sp.byt_at {s : Sp} {x : Int} (hx : s.has x = true) : ∃ b, s.byt[x.toNat]? = some b ∧ 0 ≤ x ∧ x < s.byt.length := by
  simp only [Sp.has, Bool.and_eq_true, decide_eq_true_eq] at hx
  obtain ⟨b, hb⟩ := at_lt (l := s.byt) (i := x.toNat) (by omega)
  exact ⟨b, hb, hx.1, hx.2⟩
theorem fetch_c (s : Sp) (hs : s.ok) (pos : Int) (n : Nat) (hn : n ≤ 2048) :
    ACalls Tryz.prog 95 [s.av, iv pos, iv n] [] (fun o H => o = .ret (.tuple [.view false 1 ((s.fet pos n 0).map rb), iv 0]) ∧ H = []) := by
  refine ACalls.up ?_
  refine ACalls.intro (cs := []) (n := 53) Tryz.func95 rfl rfl rfl (by kernel_rfl) rfl ?_
  generalize hpost : (fun (o : Out) (H : Heap) => o = Out.ret (.tuple [.view false 1 ((s.fet pos n 0).map rb), iv 0]) ∧ H = []) = post
  simp only [go_sem,Sp.av]
  refine rK_use (enters_of Tryz.func61 rfl (by decide)) (ACalls.pure_use (mcheck_c s) rfl rfl) ?_
  rw [Sp.chk_ok hs]
  have h1 : ¬ ((n : Int) < 0) := by omega
  have h2 : ¬ ((2048 : Int) < n) := by omega
  simp only [go_sem,h1,h2]
  have fin : ∀ (acc : List UInt8) (H : Heap), acc = s.fet pos n 0 → H = [.rows 2 [[.view false 1 (s.perm.map r1), .view false 1 (s.byt.map rb)]], .rows 1 (acc.map rb)] → Up 0 post (.ret (.tuple [.sl 1 0 acc.length none, iv 0])) H := fun acc H e1 e2 => by
    subst e2
    refine up_one 1 1 (acc.map rb) rfl (rb_lt0 _) (by simp [Out.fzOk, AV.fzOk, fzOkL]) ?_ ?_
    · simp [Out.fz, AV.fz, fzL, Out.lt, AV.lt, ltL]
    · rw [← hpost, ← e1]
      have e4 : (acc.map rb).take acc.length = acc.map rb := List.take_of_length_le (by simp)
      simp [Out.fz, AV.fz, fzL, e4]
  refine loop_fam (fun x : Nat × List UInt8 => (((((Ch.nil.put 1 (iv pos)).put 3 (.ptr 0 0 0)).put 9 (.sl 1 0 x.2.length none)).put 23 (iv n)).put 24 (iv x.1)))
    (fun x => [.rows 2 [[.view false 1 (s.perm.map r1), .view false 1 (s.byt.map rb)]], .rows 1 (x.2.map rb)])
    (fun x => n - x.1) (fun x => x.1 ≤ n ∧ x.2.length ≤ x.1 ∧ s.fet pos n 0 = x.2 ++ s.fet pos (n - x.1) x.1) (0, []) (by kernel_rfl) ⟨Nat.zero_le _, by simp, by simp⟩ ?_ ?_
  · exact (Wk.slots (s' := (((((Ch.nil.put 1 (iv pos)).put 3 (.ptr 0 0 0)).put 9 (.view true 0 [])).put 23 (iv n)).put 24 (iv 0))) (by simp [wkS, Ch.get])).trans
      ((Wk.ghost (.rows 1 [])).trans (Wk.le (.cons _ (.cons _ (.cons _ (LeC.refl _) (.sl0 0 1 0)) (.refl _)) (.refl _)) (LeH.refl _)))
  rintro ⟨i, acc⟩ ⟨hi, hacc, ha⟩ K hK
  simp only at hi hacc ha
  simp only [go_sem]
  refine condD_dec (fun hc => ?_) (fun hc => ?_)
  · obtain ⟨m, hm⟩ : ∃ m, n - i = m + 1 := ⟨n - i - 1, by omega⟩
    rw [hm, Sp.fet] at ha
    have e1 : iw .i64 ((i : Int) + 1) = ((i + 1 : Nat) : Int) := by rw [iw64] <;> omega
    generalize hx : iw .i64 (pos + i) = x at ha
    simp only [go_sem,hx]
    refine rK_use (enters_of Tryz.func120 rfl (by decide)) (ACalls.pure_use (has_c s x) rfl rfl) ?_
    cases hh : s.has x
    · simp only [go_sem]
      exact fin acc _ (by rw [ha, if_neg (fun h => by rw [hh] at h; cases h.1)]; simp) rfl
    · obtain ⟨p, k1, k2, k3, k4, k5⟩ := Sp.pm_at hs hh
      obtain ⟨b, b1, b2, b3⟩ := Sp.byt_at hh
      have h6 := hs.p32
      have e2 : iw .i64 (x.tdiv 64) = x.tdiv 64 := iw64 (by omega) (by omega)
      simp only [go_sem,List.length_map,List.getElem?_map,k1,k4,k5,e2]
      refine condD_dec (fun hd => ?_) (fun hd => ?_)
      · simp only [go_sem]
        exact fin acc _ (by rw [ha, if_neg (fun h => hd (k2 ▸ h.2))]; simp) rfl
      · have hd' : p = 4 := Decidable.of_not_not hd
        have e4 : (acc.map rb).take acc.length = acc.map rb := List.take_of_length_le (by simp)
        have e5 : acc.length + 1 ≤ 68719476736 := by omega
        simp only [go_sem,List.length_map,List.getElem?_map,b1,b2,b3,e1,e4,e5]
        exact hK (i + 1, acc ++ [b]) _ _ ⟨by dsimp only; omega, by simp; omega, by rw [ha, if_pos ⟨hh, by rw [k2, hd']⟩, b1]; dsimp only; rw [show n - (i + 1) = m by omega]; simp⟩ (by dsimp only; omega)
          (Wk.push (A := [.rows 2 [[.view false 1 (s.perm.map r1), .view false 1 (s.byt.map rb)]]]) (b := .rows 1 ((acc ++ [b]).map rb)) 3 rfl (by simp) (by simp) (by simp [Blk.lt, ltL, AV.lt]) (blt0 (rb_lt0 _)) (by simp) (by simp [wkP, Ch.get, AV.ren, pu_lt, pu_eq]))
  · simp only [go_sem]
    have hin : i = n := by omega
    subst hin
    rw [Nat.sub_self, Sp.fet, List.append_nil] at ha
    exact fin acc _ ha.symm rfl
end Go.Proofs.YtfiflailjbmlpaaGreatDoor
set_option maxRecDepth 100000
set_option linter.unusedVariables false
set_option linter.unusedSimpArgs false
namespace Go.Proofs.YtfiflailjbmlpaaGreatDoor
open Go.AM
theorem rfetched_c (s : Sp) (hs : s.ok) (pos : Int) (n : Nat) (hn : n ≤ 2048) :
    ACalls Tryz.prog 81 [s.av, iv pos, iv n] [] (fun o H => o = .ret (.view false 1 ((s.fet pos n 0).map rb)) ∧ H = []) := by
  refine ACalls.up ?_
  refine ACalls.intro (cs := []) (n := 40) Tryz.func81 rfl rfl rfl (by kernel_rfl) rfl ?_
  generalize hpost : (fun (o : Out) (H : Heap) => o = Out.ret (.view false 1 ((s.fet pos n 0).map rb)) ∧ H = []) = post
  simp only [go_sem,Sp.av]
  have fin : ∀ (acc : List UInt8) (H : Heap), acc = s.fet pos n 0 → H = [.rows 2 [[.view false 1 (s.perm.map r1), .view false 1 (s.byt.map rb)]], .rows 1 (acc.map rb)] → Up 0 post (.ret (.sl 1 0 acc.length none)) H := fun acc H e1 e2 => by
    subst e2
    refine up_one 1 1 (acc.map rb) rfl (rb_lt0 _) (by simp [Out.fzOk, AV.fzOk, fzOkL]) ?_ ?_
    · simp [Out.fz, AV.fz, fzL, Out.lt, AV.lt, ltL]
    · rw [← hpost, ← e1]
      have e4 : (acc.map rb).take acc.length = acc.map rb := List.take_of_length_le (by simp)
      simp [Out.fz, AV.fz, fzL, e4]
  refine loop_fam (fun x : Nat × List UInt8 => (((((Ch.nil.put 1 (iv pos)).put 2 (iv n)).put 3 (.ptr 0 0 0)).put 7 (.sl 1 0 x.2.length none)).put 8 (iv x.1)))
    (fun x => [.rows 2 [[.view false 1 (s.perm.map r1), .view false 1 (s.byt.map rb)]], .rows 1 (x.2.map rb)])
    (fun x => n - x.1) (fun x => x.1 ≤ n ∧ x.2.length ≤ x.1 ∧ s.fet pos n 0 = x.2 ++ s.fet pos (n - x.1) x.1) (0, []) (by kernel_rfl) ⟨Nat.zero_le _, by simp, by simp⟩ ?_ ?_
  · exact (Wk.slots (s' := (((((Ch.nil.put 1 (iv pos)).put 2 (iv n)).put 3 (.ptr 0 0 0)).put 7 (.view true 0 [])).put 8 (iv 0))) (by simp [wkS, Ch.get])).trans
      ((Wk.ghost (.rows 1 [])).trans (Wk.le (.cons _ (.cons _ (LeC.refl _) (.sl0 0 1 0)) (.refl _)) (LeH.refl _)))
  rintro ⟨i, acc⟩ ⟨hi, hacc, ha⟩ K hK
  simp only at hi hacc ha
  simp only [go_sem]
  refine condD_dec (fun hc => ?_) (fun hc => ?_)
  · obtain ⟨m, hm⟩ : ∃ m, n - i = m + 1 := ⟨n - i - 1, by omega⟩
    rw [hm, Sp.fet] at ha
    have e1 : iw .i64 ((i : Int) + 1) = ((i + 1 : Nat) : Int) := by rw [iw64] <;> omega
    generalize hx : iw .i64 (pos + i) = x at ha
    simp only [go_sem,hx]
    refine rK_use (enters_of Tryz.func65 rfl (by decide)) (ACalls.pure_use (inside_c s x) rfl rfl) ?_
    cases hh : s.has x
    · simp only [go_sem]
      exact fin acc _ (by rw [ha, if_neg (fun h => by rw [hh] at h; cases h.1)]; simp) rfl
    · obtain ⟨p, k1, k2, k3, k4, k5⟩ := Sp.pm_at hs hh
      obtain ⟨b, b1, b2, b3⟩ := Sp.byt_at hh
      have h6 := hs.p32
      have e2 : iw .i64 (x.tdiv 64) = x.tdiv 64 := iw64 (by omega) (by omega)
      simp only [go_sem,List.length_map,List.getElem?_map,k1,k4,k5,e2]
      refine condD_dec (fun hd => ?_) (fun hd => ?_)
      · simp only [go_sem]
        exact fin acc _ (by rw [ha, if_neg (fun h => hd (k2 ▸ h.2))]; simp) rfl
      · have hd' : p = 4 := Decidable.of_not_not hd
        have e4 : (acc.map rb).take acc.length = acc.map rb := List.take_of_length_le (by simp)
        have e5 : acc.length + 1 ≤ 68719476736 := by omega
        simp only [go_sem,List.length_map,List.getElem?_map,b1,b2,b3,e1,e4,e5]
        exact hK (i + 1, acc ++ [b]) _ _ ⟨by dsimp only; omega, by simp; omega, by rw [ha, if_pos ⟨hh, by rw [k2, hd']⟩, b1]; dsimp only; rw [show n - (i + 1) = m by omega]; simp⟩ (by dsimp only; omega)
          (Wk.push (A := [.rows 2 [[.view false 1 (s.perm.map r1), .view false 1 (s.byt.map rb)]]]) (b := .rows 1 ((acc ++ [b]).map rb)) 3 rfl (by simp) (by simp) (by simp [Blk.lt, ltL, AV.lt]) (blt0 (rb_lt0 _)) (by simp) (by simp [wkP, Ch.get, AV.ren, pu_lt, pu_eq]))
  · simp only [go_sem]
    have hin : i = n := by omega
    subst hin
    rw [Nat.sub_self, Sp.fet, List.append_nil] at ha
    exact fin acc _ ha.symm rfl
theorem cloneB_c (xs : List UInt8) (full : Bool) (hl : xs.length ≤ 1000000) : ACalls Tryz.prog 106 [.view full 1 (xs.map rb)] [] (fun o H => o = .ret (.view false 1 (xs.map rb)) ∧ H = []) := by
  refine ACalls.up ?_
  refine ACalls.intro (cs := []) (n := 8) Tryz.func106 rfl rfl rfl (by kernel_rfl) rfl ?_
  generalize hpost : (fun (o : Out) (H : Heap) => o = Out.ret (.view false 1 (xs.map rb)) ∧ H = []) = post
  simp only [go_sem,rK_ndb]
  intro b hb
  refine condD_split (fun e => ?_) (fun e => ?_)
  · have hl0 : xs = [] := by
      rw [List.length_map] at hb
      rcases xs with _ | ⟨x, l⟩
      · rfl
      · have := hb (by simp); rw [e] at this; cases this
    subst hl0
    simp only [go_sem]
    refine .le (.ret (.nil true false 0 1 (by simp))) .nil (.done ?_)
    rw [← hpost]
    exact ⟨rfl, rfl⟩
  · have e5 : xs.length ≤ 68719476736 := by omega
    simp only [go_sem,List.length_map,e5]
    refine up_one 1 1 (xs.map rb) rfl (rb_lt0 _) (by simp [Out.fzOk, AV.fzOk]) ?_ ?_
    · simp [Out.fz, AV.fz, Out.lt, AV.lt]
    · rw [← hpost]
      have e4 : (xs.map rb).take xs.length = xs.map rb := List.take_of_length_le (by simp)
      simp [Out.fz, AV.fz, e4]
theorem flt_in {s : Sp} {pos perm : Int} (hpos : I64 pos) (hb : s.byt.length ≤ 2048) : ∀ (m i : Nat), i ≤ 100000 → m ≤ 100000 → (0 ≤ pos ∧ pos + i ≤ s.byt.length ∨ i = 0) → (s.flt pos perm m i).kind = 0 → m = 0 ∨ (0 ≤ pos ∧ pos + i + m ≤ s.byt.length)
  | 0, i, _, _, _, _ => .inl rfl
  | m + 1, i, hi, hm, h0, h => by
    rw [Sp.flt] at h
    split at h
    · rename_i h1
      have hx : s.has (iw .i64 (pos + i)) = true := by
        unfold Sp.bad1 at h1
        split at h1
        · assumption
        · cases h1
      have hw : iw .i64 (pos + i) = pos + i := by
        rcases h0 with h0 | rfl
        · exact iw64 (by omega) (by omega)
        · rw [show pos + ((0 : Nat) : Int) = pos by simp]; exact hpos.iw
      simp only [hw, Sp.has, Bool.and_eq_true, decide_eq_true_eq] at hx
      have hp0 : 0 ≤ pos := by rcases h0 with h0 | rfl <;> omega
      rcases flt_in hpos hb m (i + 1) (by omega) (by omega) (.inl ⟨hp0, by omega⟩) h with rfl | h2
      · exact .inr ⟨hp0, by omega⟩
      · exact .inr ⟨hp0, by omega⟩
    · rename_i h1; exact absurd h h1
def Sp.sub (s : Sp) (pos : Int) (n : Nat) : List UInt8 := (s.byt.drop pos.toNat).take n
theorem peek_c (s : Sp) (hs : s.ok) (pos : Int) (hpos : I64 pos) (n : Nat) (hn : n ≤ 2048) (h0 : n ≠ 0) (hf : (s.flt pos 0 n 0).kind = 0) :
    ACalls Tryz.prog 165 [s.av, iv pos, iv n] [] (fun o H => o = .ret (.tuple [.view false 1 ((s.sub pos n).map rb), .agg [iv 0, iv 0], iv 0]) ∧ H = []) := by
  refine ACalls.up ?_
  refine ACalls.intro (cs := []) (n := 45) Tryz.func165 rfl rfl rfl (by kernel_rfl) rfl ?_
  generalize hpost : (fun (o : Out) (H : Heap) => o = Out.ret (.tuple [.view false 1 ((s.sub pos n).map rb), .agg [iv 0, iv 0], iv 0]) ∧ H = []) = post
  simp only [go_sem,Sp.av]
  refine rK_use (enters_of Tryz.func61 rfl (by decide)) (ACalls.pure_use (mcheck_c s) rfl rfl) ?_
  rw [Sp.chk_ok hs]
  have h1 : ¬ ((n : Int) < 0) := by omega
  have h2 : ¬ ((2048 : Int) < n) := by omega
  have h3 : ¬ ((n : Int) = 0) := by omega
  have hl := hs.len
  have hp32 := hs.p32
  simp only [go_sem,h1,h2]
  refine rK_use (enters_of Tryz.func109 rfl (by decide)) (ACalls.pure_use (faults_c s hs pos 0 n (by omega) (by simp)) rfl rfl) ?_
  rw [flt0 _ _ _ _ _ hf]
  simp only [go_sem,Flt.cells,h3]
  have hin := (flt_in (perm := 0) hpos (by omega) n 0 (by omega) (by omega) (.inr rfl) hf).resolve_left h0
  have e1 : iw .i64 (pos + n) = pos + n := iw64 (by omega) (by omega)
  have e2 : pos ≤ pos + n := by omega
  have e3 : pos + n ≤ s.byt.length := by omega
  simp only [go_sem,e1,e2,e3,hin.1,List.length_map]
  have e4 : ((s.byt.map rb).take (pos + n).toNat).drop pos.toNat = (s.sub pos n).map rb := by
    rw [← List.map_take, ← List.map_drop, Sp.sub, List.drop_take]
    congr 2
    omega
  rw [e4]
  refine rK_use (enters_of Tryz.func106 rfl (by decide)) (ACalls.pure_use (cloneB_c (s.sub pos n) false (by simp [Sp.sub]; omega)) rfl rfl) ?_
  simp only [go_sem]
  exact finv rfl (by rw [← hpost]; exact ⟨rfl, rfl⟩) _
end Go.Proofs.YtfiflailjbmlpaaGreatDoor
set_option maxRecDepth 100000
set_option linter.unusedVariables false
set_option linter.unusedSimpArgs false
namespace Go.Proofs.YtfiflailjbmlpaaGreatDoor
open Go.AM
theorem toList_loop (bs : ByteArray) : ∀ (n i : Nat) (r : List UInt8), n = bs.size - i → ByteArray.toList.loop bs i r = r.reverse ++ bs.data.toList.drop i
  | 0, i, r, h => by
    rw [ByteArray.toList.loop, if_neg (by omega), List.drop_eq_nil_of_le (by rw [Array.length_toList]; exact (by omega : bs.size ≤ i)), List.append_nil]
  | n + 1, i, r, h => by
    have hlt : i < bs.size := by omega
    have hlt' : i < bs.data.toList.length := by rw [Array.length_toList]; exact hlt
    rw [ByteArray.toList.loop, if_pos hlt, toList_loop bs n (i + 1) _ (by omega), List.drop_eq_getElem_cons hlt']
    have : bs.get! i = bs.data.toList[i] := by
      have h2 : i < bs.data.size := hlt
      simp [ByteArray.get!, getElem!_pos bs.data i h2]
    rw [this]
    simp
theorem toList_eq (bs : ByteArray) : bs.toList = bs.data.toList := by
  rw [ByteArray.toList, toList_loop bs _ 0 [] rfl]; simp
def ktab : List (List UInt8 × Int) := [([], 0), ([110, 111, 112], 0), ([109, 111, 118, 101], 1), ([115, 101, 116], 3), ([108, 105, 116], 4), ([97, 100, 100], 1), ([115, 117, 98], 1), ([109, 117, 108], 1), ([100, 105, 118], 1), ([109, 111, 100], 1), ([97, 110, 100], 1), ([111, 114], 1), ([120, 111, 114], 1), ([115, 104, 108], 1), ([115, 104, 114], 1), ([115, 97, 114], 1), ([105, 110, 99], 4), ([108, 111, 97, 100, 49], 5), ([108, 111, 97, 100, 56], 5), ([115, 116, 111, 114, 101, 49], 5), ([115, 116, 111, 114, 101, 56], 5), ([98, 101, 113], 5), ([98, 110, 101], 5), ([98, 108, 116], 5), ([98, 103, 101], 5), ([106, 117, 109, 112], 6), ([106, 117, 109, 112, 114], 2), ([99, 97, 108, 108], 6), ([99, 97, 108, 108, 114], 2), ([114, 101, 116], 0), ([112, 117, 115, 104], 2), ([112, 111, 112], 2), ([108, 101, 97], 7), ([115, 121, 115], 8), ([115, 119, 97, 112], 1)]
def kcells : List AV := ktab.flatMap fun k => [.str ⟨k.1.toArray⟩, iv k.2]
theorem gAV0 : gAV 0 = .cptr kcells 0 := rfl
theorem kcells_len : kcells.length = 70 := rfl
def kfm (op : Int) : Int := if op = 76 then 0 else ((ktab[op.toNat]?).getD ([], 0)).2
def isOp (op : Int) : Bool := decide (op = 76) || (decide (1 ≤ op) && decide (op < 35))
def kname (op : Int) : ByteArray := if op = 76 then ⟨#[98, 114, 101, 97, 107]⟩ else if 1 ≤ op ∧ op < 35 then ⟨((ktab[op.toNat]?).getD ([], 0)).1.toArray⟩ else ⟨#[]⟩
def kform (op : Int) : Int := if isOp op = true then kfm op else 0
theorem krow : ∀ i, i < 35 → (kcells.drop (i * 2)).take 2 = [.str ⟨((ktab[i]?).getD ([], 0)).1.toArray⟩, iv ((ktab[i]?).getD ([], 0)).2]
  | 0, _ => rfl
  | 1, _ => rfl
  | 2, _ => rfl
  | 3, _ => rfl
  | 4, _ => rfl
  | 5, _ => rfl
  | 6, _ => rfl
  | 7, _ => rfl
  | 8, _ => rfl
  | 9, _ => rfl
  | 10, _ => rfl
  | 11, _ => rfl
  | 12, _ => rfl
  | 13, _ => rfl
  | 14, _ => rfl
  | 15, _ => rfl
  | 16, _ => rfl
  | 17, _ => rfl
  | 18, _ => rfl
  | 19, _ => rfl
  | 20, _ => rfl
  | 21, _ => rfl
  | 22, _ => rfl
  | 23, _ => rfl
  | 24, _ => rfl
  | 25, _ => rfl
  | 26, _ => rfl
  | 27, _ => rfl
  | 28, _ => rfl
  | 29, _ => rfl
  | 30, _ => rfl
  | 31, _ => rfl
  | 32, _ => rfl
  | 33, _ => rfl
  | 34, _ => rfl
  | n + 35, h => absurd h (by omega)
theorem ktab_ne : ∀ i, 0 < i → i < 35 → ((ktab[i]?).getD ([], 0)).1 ≠ [] := by
  have : ∀ i, i < 35 → 0 < i → ((ktab[i]?).getD ([], 0)).1 ≠ [] := by decide
  exact fun i h1 h2 => this i h2 h1
theorem kname_eq (op : Int) : ((kname op).toList == (⟨#[]⟩ : ByteArray).toList) = !isOp op := by
  rw [toList_eq, toList_eq]
  unfold kname isOp
  by_cases h1 : op = 76
  · subst h1; rfl
  · rw [if_neg h1]
    by_cases h2 : 1 ≤ op ∧ op < 35
    · rw [if_pos h2]
      have := ktab_ne op.toNat (by omega) (by omega)
      simp [h1, h2]
      exact this
    · rw [if_neg h2]
      simp [h1]
      omega
theorem kind_c (op : Int) : ACalls Tryz.prog 97 [iv op] [] (fun o H => o = .ret (.agg [.str (kname op), iv (kform op)]) ∧ H = []) := by
  refine ACalls.up ?_
  refine ACalls.intro (cs := []) (n := 16) Tryz.func97 rfl rfl rfl (by kernel_rfl) rfl ?_
  generalize hpost : (fun (o : Out) (H : Heap) => o = Out.ret (.agg [.str (kname op), iv (kform op)]) ∧ H = []) = post
  have fin : ∀ (s : ByteArray) n H, s = kname op → n = kform op → Up 0 post (.ret (.agg [.str s, iv n])) H := fun s n H e1 e2 => finv rfl (by rw [← hpost, e1, e2]; exact ⟨rfl, rfl⟩) H
  simp only [go_sem]
  repeat' (first | (refine gD_dec (fun hg => ?_) (fun hg => ?_) <;> simp only [go_sem,hg]) | (refine condD_dec (fun hg => ?_) (fun hg => ?_) <;> simp only [go_sem,hg]))
  · exact fin _ _ _ (by rw [kname, if_pos hg]) (by rw [kform, kfm, if_pos hg]; simp)
  · rename_i h1
    exact fin _ _ _ (by rw [kname, if_neg h1, if_neg (by omega)]) (by rw [kform, if_neg (by simp [isOp]; omega)])
  · rename_i h2 h1
    exact fin _ _ _ (by rw [kname, if_neg h2, if_neg (by omega)]) (by rw [kform, if_neg (by simp [isOp]; omega)])
  · rename_i h2 h1
    obtain ⟨k, rfl⟩ : ∃ k : Nat, op = k := ⟨op.toNat, by omega⟩
    have h3 : (0 : Int) ≤ k ∧ (k : Int) < 35 := by omega
    have h4 : k * 2 + 2 ≤ kcells.length := by rw [kcells_len]; omega
    simp only [go_sem,gAV0,h3,h4,krow k (by omega)]
    exact fin _ _ _ (by rw [kname, if_neg h2, if_pos (by omega)]; rfl) (by rw [kform, if_pos (by simp [isOp]; omega), kfm, if_neg h2]; rfl)
def hasA (f : Int) : Bool := (decide (1 ≤ f) && decide (f ≤ 5)) || decide (f = 7)
def hasB (f : Int) : Bool := decide (f = 1) || decide (f = 5)
def bytesOf (f : Int) : Nat := if f = 3 then 10 else if f = 4 ∨ f = 5 ∨ f = 8 then 1 else if f = 6 ∨ f = 7 then 2 else 0
def fits (f n : Int) : Bool := if f = 3 then true else if f = 8 then decide (0 ≤ n) && decide (n ≤ 127) else if bytesOf f = 0 then decide (n = 0) else if bytesOf f = 1 then decide (-64 ≤ n) && decide (n < 64) else decide (-8192 ≤ n) && decide (n < 8192)
theorem hasA_c (f : Int) : ACalls Tryz.prog 98 [iv f] [] (fun o H => o = .ret (.bool (hasA f)) ∧ H = []) := by
  refine ACalls.up ?_
  refine ACalls.intro (cs := []) (n := 13) Tryz.func98 rfl rfl rfl (by kernel_rfl) rfl ?_
  generalize hpost : (fun (o : Out) (H : Heap) => o = Out.ret (.bool (hasA f)) ∧ H = []) = post
  have fin : ∀ b H, b = hasA f → Up 0 post (.ret (.bool b)) H := fun n H e => finv rfl (by rw [← hpost, e]; exact ⟨rfl, rfl⟩) H
  simp only [go_sem]
  repeat' (first | (refine gD_dec (fun hg => ?_) (fun hg => ?_) <;> simp only [go_sem,hg]) | (refine condD_dec (fun hg => ?_) (fun hg => ?_) <;> simp only [go_sem,hg]))
  all_goals exact fin _ _ (by simp [hasA, *])
theorem hasB_c (f : Int) : ACalls Tryz.prog 99 [iv f] [] (fun o H => o = .ret (.bool (hasB f)) ∧ H = []) := by
  refine ACalls.up ?_
  refine ACalls.intro (cs := []) (n := 9) Tryz.func99 rfl rfl rfl (by kernel_rfl) rfl ?_
  generalize hpost : (fun (o : Out) (H : Heap) => o = Out.ret (.bool (hasB f)) ∧ H = []) = post
  have fin : ∀ b H, b = hasB f → Up 0 post (.ret (.bool b)) H := fun n H e => finv rfl (by rw [← hpost, e]; exact ⟨rfl, rfl⟩) H
  simp only [go_sem]
  repeat' (first | (refine gD_dec (fun hg => ?_) (fun hg => ?_) <;> simp only [go_sem,hg]) | (refine condD_dec (fun hg => ?_) (fun hg => ?_) <;> simp only [go_sem,hg]))
  all_goals exact fin _ _ (by simp [hasB, *])
theorem bytesOf_c (f : Int) : ACalls Tryz.prog 123 [iv f] [] (fun o H => o = .ret (iv (bytesOf f)) ∧ H = []) := by
  refine ACalls.up ?_
  refine ACalls.intro (cs := []) (n := 13) Tryz.func123 rfl rfl rfl (by kernel_rfl) rfl ?_
  generalize hpost : (fun (o : Out) (H : Heap) => o = Out.ret (iv (bytesOf f)) ∧ H = []) = post
  have fin : ∀ n H, n = (bytesOf f : Int) → Up 0 post (.ret (iv n)) H := fun n H e => finv rfl (by rw [← hpost, e]; exact ⟨rfl, rfl⟩) H
  simp only [go_sem]
  repeat' (first | (refine gD_dec (fun hg => ?_) (fun hg => ?_) <;> simp only [go_sem,hg]) | (refine condD_dec (fun hg => ?_) (fun hg => ?_) <;> simp only [go_sem,hg]))
  all_goals exact fin _ _ (by simp [bytesOf, *])
theorem bytesOf_le (f : Int) : bytesOf f ≤ 10 := by unfold bytesOf; split <;> (try split) <;> (try split) <;> omega
theorem fits_c (f n : Int) : ACalls Tryz.prog 100 [iv f, iv n] [] (fun o H => o = .ret (.bool (fits f n)) ∧ H = []) := by
  refine ACalls.up ?_
  refine ACalls.intro (cs := []) (n := 36) Tryz.func100 rfl rfl rfl (by kernel_rfl) rfl ?_
  generalize hpost : (fun (o : Out) (H : Heap) => o = Out.ret (.bool (fits f n)) ∧ H = []) = post
  have fin : ∀ b H, b = fits f n → Up 0 post (.ret (.bool b)) H := fun n H e => finv rfl (by rw [← hpost, e]; exact ⟨rfl, rfl⟩) H
  simp only [go_sem]
  repeat' (first | (refine gD_dec (fun hg => ?_) (fun hg => ?_) <;> simp only [go_sem,hg]) | (refine condD_dec (fun hg => ?_) (fun hg => ?_) <;> simp only [go_sem,hg]))
  case refine_1 => exact fin _ _ (by rw [fits, if_pos hg])
  all_goals first | exact fin _ _ (by simp [fits, *]) | skip
  have h3 : ¬ f = 3 := by assumption
  have h8 : ¬ f = 8 := by assumption
  refine rK_use (enters_of Tryz.func123 rfl (by decide)) (ACalls.pure_use (bytesOf_c f) rfl rfl) ?_
  have hb : bytesOf f = 0 ∨ bytesOf f = 1 ∨ bytesOf f = 2 := by unfold bytesOf; rw [if_neg h3]; split <;> (try split) <;> simp
  rcases hb with hb | hb | hb
  all_goals
    rw [hb]
    simp only [go_sem,show iw .i64 (-64) = -64 from by decide,show iw .i64 (-8192) = -8192 from by decide]
    repeat' (first | (refine gD_dec (fun hg => ?_) (fun hg => ?_) <;> simp only [go_sem,hg]) | (refine condD_dec (fun hg => ?_) (fun hg => ?_) <;> simp only [go_sem,hg]))
  all_goals exact fin _ _ (by simp [fits, *])
end Go.Proofs.YtfiflailjbmlpaaGreatDoor
set_option maxRecDepth 100000
set_option linter.unusedVariables false
set_option linter.unusedSimpArgs false
namespace Go.Proofs.YtfiflailjbmlpaaGreatDoor
open Go.AM
structure Ins where
  op : Int
  a : Int
  b : Int
  imm : Int
def Ins.cells (x : Ins) : List AV := [iv x.op, iv x.a, iv x.b, iv x.imm]
def Ins.av (x : Ins) : AV := .agg x.cells
structure Ins.ok (x : Ins) : Prop where
  op : isOp x.op = true
  a0 : 0 ≤ x.a
  a7 : x.a ≤ 7
  b0 : 0 ≤ x.b
  b7 : x.b ≤ 7
  ha : hasA (kform x.op) = true ∨ x.a = 0
  hb : hasB (kform x.op) = true ∨ x.b = 0
  im : fits (kform x.op) x.imm = true
instance (x : Ins) : Decidable x.ok := decidable_of_iff (isOp x.op = true ∧ 0 ≤ x.a ∧ x.a ≤ 7 ∧ 0 ≤ x.b ∧ x.b ≤ 7 ∧ (hasA (kform x.op) = true ∨ x.a = 0) ∧ (hasB (kform x.op) = true ∨ x.b = 0) ∧ fits (kform x.op) x.imm = true)
  ⟨fun h => ⟨h.1, h.2.1, h.2.2.1, h.2.2.2.1, h.2.2.2.2.1, h.2.2.2.2.2.1, h.2.2.2.2.2.2.1, h.2.2.2.2.2.2.2⟩, fun h => ⟨h.1, h.2, h.3, h.4, h.5, h.6, h.7, h.8⟩⟩
def Ins.chk (x : Ins) : Int := if x.ok then 0 else 20
theorem icheck_c (x : Ins) : ACalls Tryz.prog 51 [x.av] [] (fun o H => o = .ret (iv x.chk) ∧ H = []) := by
  refine ACalls.up ?_
  refine ACalls.intro (cs := []) (n := 60) Tryz.func51 rfl rfl rfl (by kernel_rfl) rfl ?_
  generalize hpost : (fun (o : Out) (H : Heap) => o = Out.ret (iv x.chk) ∧ H = []) = post
  have fin : ∀ n H, n = x.chk → Up 0 post (.ret (iv n)) H := fun n H e => finv rfl (by rw [← hpost, e]; exact ⟨rfl, rfl⟩) H
  simp only [go_sem,Ins.av,Ins.cells]
  refine rK_use (enters_of Tryz.func97 rfl (by decide)) (ACalls.pure_use (kind_c x.op) rfl rfl) ?_
  simp only [go_sem,kname_eq]
  repeat' (first | (refine gD_dec (fun hg => ?_) (fun hg => ?_) <;> simp only [go_sem,hg,kname_eq]) | (refine condD_dec (fun hg => ?_) (fun hg => ?_) <;> simp only [go_sem,hg,kname_eq]) | (refine rK_use (enters_of Tryz.func98 rfl (by decide)) (ACalls.pure_use (hasA_c _) rfl rfl) ?_; simp only [go_sem,kname_eq]) | (refine rK_use (enters_of Tryz.func99 rfl (by decide)) (ACalls.pure_use (hasB_c _) rfl rfl) ?_; simp only [go_sem,kname_eq]) | (refine rK_use (enters_of Tryz.func100 rfl (by decide)) (ACalls.pure_use (fits_c _ _) rfl rfl) ?_; simp only [go_sem,kname_eq]) | (refine gD_bool (fun hg => ?_) (fun hg => ?_) <;> simp only [go_sem,hg,kname_eq]) | (refine condD_bool (fun hg => ?_) (fun hg => ?_) <;> simp only [go_sem,hg,kname_eq]))
  all_goals first
    | exact fin 20 _ (by rw [Ins.chk, if_neg]; rintro ⟨h1, h2, h3, h4, h5, h6, h7, h8⟩; simp_all <;> omega)
    | exact fin 0 _ (by rw [Ins.chk, if_pos]; constructor <;> first | omega | (simp_all; done) | (right; omega))
def flen (f : Int) : Nat := 1 + bytesOf f + (if hasA f = true then 1 else 0)
theorem flen_le (f : Int) : flen f ≤ 12 := by have := bytesOf_le f; unfold flen; split <;> omega
theorem flength_c (f : Int) : ACalls Tryz.prog 121 [iv f] [] (fun o H => o = .ret (iv (flen f)) ∧ H = []) := by
  refine ACalls.up ?_
  refine ACalls.intro (cs := []) (n := 12) Tryz.func121 rfl rfl rfl (by kernel_rfl) rfl ?_
  generalize hpost : (fun (o : Out) (H : Heap) => o = Out.ret (iv (flen f)) ∧ H = []) = post
  have fin : ∀ n H, n = (flen f : Int) → Up 0 post (.ret (iv n)) H := fun n H e => finv rfl (by rw [← hpost, e]; exact ⟨rfl, rfl⟩) H
  have hb := bytesOf_le f
  have e1 : iw .i64 (1 + (bytesOf f : Int)) = 1 + (bytesOf f : Int) := iw64 (by omega) (by omega)
  have e2 : iw .i64 (1 + (bytesOf f : Int) + 1) = 1 + (bytesOf f : Int) + 1 := iw64 (by omega) (by omega)
  simp only [go_sem]
  repeat' (first | (refine gD_dec (fun hg => ?_) (fun hg => ?_) <;> simp only [go_sem,hg,e1,e2]) | (refine condD_dec (fun hg => ?_) (fun hg => ?_) <;> simp only [go_sem,hg,e1,e2]) | (refine rK_use (enters_of Tryz.func98 rfl (by decide)) (ACalls.pure_use (hasA_c _) rfl rfl) ?_; simp only [go_sem,e1,e2]) | (refine rK_use (enters_of Tryz.func123 rfl (by decide)) (ACalls.pure_use (bytesOf_c _) rfl rfl) ?_; simp only [go_sem,e1,e2]) | (refine gD_bool (fun hg => ?_) (fun hg => ?_) <;> simp only [go_sem,hg,e1,e2]) | (refine condD_bool (fun hg => ?_) (fun hg => ?_) <;> simp only [go_sem,hg,e1,e2]))
  all_goals exact fin _ _ (by simp [flen, *])
def Ins.len (x : Ins) : Nat := flen (kform x.op)
theorem ilen_c (x : Ins) (hx : x.ok) : ACalls Tryz.prog 131 [x.av] [] (fun o H => o = .ret (.tuple [iv x.len, iv 0]) ∧ H = []) := by
  refine ACalls.up ?_
  refine ACalls.intro (cs := []) (n := 15) Tryz.func131 rfl rfl rfl (by kernel_rfl) rfl ?_
  generalize hpost : (fun (o : Out) (H : Heap) => o = Out.ret (.tuple [iv x.len, iv 0]) ∧ H = []) = post
  simp only [go_sem,Ins.av,Ins.cells]
  refine rK_use (enters_of Tryz.func51 rfl (by decide)) (ACalls.pure_use (icheck_c x) rfl rfl) ?_
  rw [Ins.chk, if_pos hx]
  simp only [go_sem]
  refine rK_use (enters_of Tryz.func97 rfl (by decide)) (ACalls.pure_use (kind_c x.op) rfl rfl) ?_
  simp only [go_sem]
  refine rK_use (enters_of Tryz.func121 rfl (by decide)) (ACalls.pure_use (flength_c _) rfl rfl) ?_
  simp only [go_sem]
  exact finv rfl (by rw [← hpost]; exact ⟨rfl, rfl⟩) _
def isBr (op : Int) : Bool := (decide (21 ≤ op) && decide (op ≤ 25)) || decide (op = 27) || decide (op = 32)
def Ins.tgt (x : Ins) (next : Int) : Int := if x.ok ∧ isBr x.op = true then iw .i64 (next + x.imm) else 0
def Ins.hasT (x : Ins) : Bool := decide x.ok && isBr x.op
def Ins.rel (x : Ins) : Bool := decide x.ok && (isBr x.op || decide (x.op = 28))
end Go.Proofs.YtfiflailjbmlpaaGreatDoor
set_option maxRecDepth 100000
set_option linter.unusedVariables false
set_option linter.unusedSimpArgs false
namespace Go.Proofs.YtfiflailjbmlpaaGreatDoor
open Go.AM
def rtab : List Int := [0, 1, 2, 3, 4, 2, 2, 2, 2, 2, 2, 2, 2, 2, 2, 2, 4, 5, 5, 5, 5, 6, 6, 6, 6, 7, 8, 7, 8, 1, 8, 8, 9, 10, 11]
def rform (op : Int) : Int := if isOp op = true then (if op = 76 then 1 else (rtab[op.toNat]?).getD 0) else 0
theorem rform_no {op : Int} (h : ¬ isOp op = true) : rform op = 0 := if_neg h
theorem form_c (op : Int) : ACalls Tryz.prog 101 [iv op] [] (fun o H => o = .ret (iv (rform op)) ∧ H = []) := by
  refine ACalls.up ?_
  refine ACalls.intro (cs := []) (n := 50) Tryz.func101 rfl rfl rfl (by kernel_rfl) rfl ?_
  generalize hpost : (fun (o : Out) (H : Heap) => o = Out.ret (iv (rform op)) ∧ H = []) = post
  have fin : ∀ n H, n = rform op → Up 0 post (.ret (iv n)) H := fun n H e => finv rfl (by rw [← hpost, e]; exact ⟨rfl, rfl⟩) H
  simp only [go_sem]
  repeat' (first | (refine gD_dec (fun hg => ?_) (fun hg => ?_) <;> simp only [go_sem,hg]) | (refine condD_dec (fun hg => ?_) (fun hg => ?_) <;> simp only [go_sem,hg]))
  all_goals first
    | (subst hg; exact fin _ _ rfl)
    | exact fin _ _ (by rw [rform_no]; simp [isOp]; omega)
def opA (f : Int) : Bool := decide (f = 2) || decide (f = 11) || decide (f = 3) || decide (f = 4) || decide (f = 5) || decide (f = 6) || decide (f = 8) || decide (f = 9)
def opB (f : Int) : Bool := decide (f = 2) || decide (f = 11) || decide (f = 5) || decide (f = 6)
def opK (f : Int) : Nat := if f = 3 then 10 else if f = 4 ∨ f = 5 ∨ f = 6 ∨ f = 10 then 1 else if f = 7 ∨ f = 9 then 2 else 0
theorem operands_c (f : Int) : ACalls Tryz.prog 103 [iv f] [] (fun o H => o = .ret (.tuple [.bool (opA f), .bool (opB f), iv (opK f)]) ∧ H = []) := by
  refine ACalls.up ?_
  refine ACalls.intro (cs := []) (n := 24) Tryz.func103 rfl rfl rfl (by kernel_rfl) rfl ?_
  generalize hpost : (fun (o : Out) (H : Heap) => o = Out.ret (.tuple [.bool (opA f), .bool (opB f), iv (opK f)]) ∧ H = []) = post
  have fin : ∀ a b n H, a = opA f → b = opB f → n = (opK f : Int) → Up 0 post (.ret (.tuple [.bool a, .bool b, iv n])) H := fun a b n H e1 e2 e3 => finv rfl (by rw [← hpost, e1, e2, e3]; exact ⟨rfl, rfl⟩) H
  simp only [go_sem]
  repeat' (first | (refine gD_dec (fun hg => ?_) (fun hg => ?_) <;> simp only [go_sem,hg]) | (refine condD_dec (fun hg => ?_) (fun hg => ?_) <;> simp only [go_sem,hg]))
  all_goals first
    | (subst hg; exact fin _ _ _ _ rfl rfl rfl)
    | exact fin _ _ _ _ (by simp [opA, *]) (by simp [opB, *]) (by simp [opK, *])
def rfits (f n : Int) : Bool := if f = 10 then decide (0 ≤ n) && decide (n ≤ 127) else if opK f = 1 then decide (-64 ≤ n) && decide (n ≤ 63) else if opK f = 2 then decide (-8192 ≤ n) && decide (n ≤ 8191) else if opK f = 10 then true else decide (n = 0)
theorem opK_cases (f : Int) : opK f = 0 ∨ opK f = 1 ∨ opK f = 2 ∨ opK f = 10 := by unfold opK; split <;> (try split) <;> (try split) <;> simp
theorem rfits_c (f n : Int) : ACalls Tryz.prog 102 [iv f, iv n] [] (fun o H => o = .ret (.bool (rfits f n)) ∧ H = []) := by
  refine ACalls.up ?_
  refine ACalls.intro (cs := []) (n := 43) Tryz.func102 rfl rfl rfl (by kernel_rfl) rfl ?_
  generalize hpost : (fun (o : Out) (H : Heap) => o = Out.ret (.bool (rfits f n)) ∧ H = []) = post
  have fin : ∀ b H, b = rfits f n → Up 0 post (.ret (.bool b)) H := fun n H e => finv rfl (by rw [← hpost, e]; exact ⟨rfl, rfl⟩) H
  simp only [go_sem]
  refine rK_use (enters_of Tryz.func103 rfl (by decide)) (ACalls.pure_use (operands_c f) rfl rfl) ?_
  rcases opK_cases f with hk | hk | hk | hk
  all_goals
    rw [hk]
    simp only [go_sem]
    repeat' (first | (refine gD_dec (fun hg => ?_) (fun hg => ?_) <;> simp only [go_sem,hg]) | (refine condD_dec (fun hg => ?_) (fun hg => ?_) <;> simp only [go_sem,hg]))
  all_goals exact fin _ _ (by simp [rfits, *])
theorem opcases {op : Int} (h : isOp op = true) : op = 76 ∨ ∃ k : Nat, k < 35 ∧ 1 ≤ k ∧ op = k := by
  simp only [isOp, Bool.or_eq_true, Bool.and_eq_true, decide_eq_true_eq] at h
  rcases h with h | h
  · exact .inl h
  · exact .inr ⟨op.toNat, by omega, by omega, by omega⟩
theorem forms_eq (op : Int) (h : isOp op = true) : rform op ≠ 0 ∧ opA (rform op) = hasA (kform op) ∧ opB (rform op) = hasB (kform op) ∧ opK (rform op) = bytesOf (kform op) ∧ (rform op = 10 ↔ kform op = 8) ∧ (kform op = 3 ↔ bytesOf (kform op) = 10) := by
  rcases opcases h with rfl | ⟨k, h1, h2, rfl⟩
  · decide
  · have : ∀ k : Nat, k < 35 → 1 ≤ k → rform k ≠ 0 ∧ opA (rform k) = hasA (kform k) ∧ opB (rform k) = hasB (kform k) ∧ opK (rform k) = bytesOf (kform k) ∧ (rform k = 10 ↔ kform k = 8) ∧ (kform k = 3 ↔ bytesOf (kform k) = 10) := by decide
    exact this k h1 h2
theorem fits_eq (op n : Int) (h : isOp op = true) : rfits (rform op) n = fits (kform op) n := by
  obtain ⟨_, _, _, h4, h5, h6⟩ := forms_eq op h
  unfold rfits fits
  rw [h4]
  by_cases h8 : kform op = 8
  · rw [if_pos (h5.2 h8), if_neg (by omega), if_pos h8]
  · rw [if_neg (fun e => h8 (h5.1 e))]
    by_cases h3 : kform op = 3
    · rw [if_pos h3, h6.1 h3]; rfl
    · have hb : bytesOf (kform op) = 0 ∨ bytesOf (kform op) = 1 ∨ bytesOf (kform op) = 2 := by unfold bytesOf; rw [if_neg h3]; split <;> (try split) <;> simp
      rw [if_neg h3, if_neg h8]
      rcases hb with hb | hb | hb <;> rw [hb, Bool.eq_iff_iff] <;> simp <;> try omega
theorem richeck_c (x : Ins) : ACalls Tryz.prog 53 [x.av] [] (fun o H => o = .ret (iv x.chk) ∧ H = []) := by
  refine ACalls.up ?_
  refine ACalls.intro (cs := []) (n := 67) Tryz.func53 rfl rfl rfl (by kernel_rfl) rfl ?_
  generalize hpost : (fun (o : Out) (H : Heap) => o = Out.ret (iv x.chk) ∧ H = []) = post
  have fin : ∀ n H, n = x.chk → Up 0 post (.ret (iv n)) H := fun n H e => finv rfl (by rw [← hpost, e]; exact ⟨rfl, rfl⟩) H
  simp only [go_sem,Ins.av,Ins.cells]
  refine rK_use (enters_of Tryz.func101 rfl (by decide)) (ACalls.pure_use (form_c x.op) rfl rfl) ?_
  have no : ¬ isOp x.op = true → (20 : Int) = x.chk := fun h => by rw [Ins.chk, if_neg (fun hx => h hx.op)]
  rcases Decidable.em (isOp x.op = true) with ho | ho
  · obtain ⟨h1, h2, h3, h4, h5, h6⟩ := forms_eq x.op ho
    have h7 := fits_eq x.op x.imm ho
    simp only [go_sem,h1,h2,h3,h7]
    repeat' (first | (refine gD_dec (fun hg => ?_) (fun hg => ?_) <;> simp only [go_sem,hg,h1,h2,h3,h7]) | (refine condD_dec (fun hg => ?_) (fun hg => ?_) <;> simp only [go_sem,hg,h1,h2,h3,h7]) | (refine rK_use (enters_of Tryz.func102 rfl (by decide)) (ACalls.pure_use (rfits_c _ _) rfl rfl) ?_; simp only [go_sem,h1,h2,h3,h7]) | (refine rK_use (enters_of Tryz.func103 rfl (by decide)) (ACalls.pure_use (operands_c _) rfl rfl) ?_; simp only [go_sem,h1,h2,h3,h7]) | (refine gD_bool (fun hg => ?_) (fun hg => ?_) <;> simp only [go_sem,hg,h1,h2,h3,h7]) | (refine condD_bool (fun hg => ?_) (fun hg => ?_) <;> simp only [go_sem,hg,h1,h2,h3,h7]))
    all_goals first
      | exact fin 20 _ (by rw [Ins.chk, if_neg]; rintro ⟨k1, k2, k3, k4, k5, k6, k7, k8⟩; simp_all <;> omega)
      | exact fin 0 _ (by rw [Ins.chk, if_pos]; constructor <;> first | omega | (simp_all; done) | (right; omega) | (left; simp_all; done))
  · rw [rform_no ho]
    simp only [go_sem]
    exact fin _ _ (no ho)
theorem rilen_c (x : Ins) (hx : x.ok) : ACalls Tryz.prog 85 [x.av] [] (fun o H => o = .ret (iv x.len) ∧ H = []) := by
  refine ACalls.up ?_
  refine ACalls.intro (cs := []) (n := 21) Tryz.func85 rfl rfl rfl (by kernel_rfl) rfl ?_
  generalize hpost : (fun (o : Out) (H : Heap) => o = Out.ret (iv x.len) ∧ H = []) = post
  have fin : ∀ n H, n = (x.len : Int) → Up 0 post (.ret (iv n)) H := fun n H e => finv rfl (by rw [← hpost, e]; exact ⟨rfl, rfl⟩) H
  simp only [go_sem,Ins.av,Ins.cells]
  refine rK_use (enters_of Tryz.func101 rfl (by decide)) (ACalls.pure_use (form_c x.op) rfl rfl) ?_
  simp only [go_sem]
  refine rK_use (enters_of Tryz.func103 rfl (by decide)) (ACalls.pure_use (operands_c _) rfl rfl) ?_
  obtain ⟨h1, h2, h3, h4, h5, h6⟩ := forms_eq x.op hx.op
  have hb := bytesOf_le (kform x.op)
  have e1 : iw .i64 (1 + (bytesOf (kform x.op) : Int)) = 1 + (bytesOf (kform x.op) : Int) := iw64 (by omega) (by omega)
  have e2 : iw .i64 (1 + (bytesOf (kform x.op) : Int) + 1) = 1 + (bytesOf (kform x.op) : Int) + 1 := iw64 (by omega) (by omega)
  rw [h2, h3, h4]
  simp only [go_sem,e1]
  repeat' (first | (refine gD_dec (fun hg => ?_) (fun hg => ?_) <;> simp only [go_sem,hg,e1,e2]) | (refine condD_dec (fun hg => ?_) (fun hg => ?_) <;> simp only [go_sem,hg,e1,e2]) | (refine gD_bool (fun hg => ?_) (fun hg => ?_) <;> simp only [go_sem,hg,e1,e2]) | (refine condD_bool (fun hg => ?_) (fun hg => ?_) <;> simp only [go_sem,hg,e1,e2]))
  all_goals exact fin _ _ (by simp [Ins.len, flen, *])
theorem isBr_eq (op : Int) (h : isOp op = true) : isBr op = (decide (rform op = 6) || decide (rform op = 7) || decide (rform op = 9)) := by
  rcases opcases h with rfl | ⟨k, h1, h2, rfl⟩
  · decide
  · have : ∀ k : Nat, k < 35 → 1 ≤ k → isBr k = (decide (rform k = 6) || decide (rform k = 7) || decide (rform k = 9)) := by decide
    exact this k h1 h2
theorem rtarget_c (x : Ins) (hx : x.ok) (next : Int) : ACalls Tryz.prog 90 [x.av, iv next] [] (fun o H => o = .ret (.tuple [iv (x.tgt next), .bool x.hasT]) ∧ H = []) := by
  refine ACalls.up ?_
  refine ACalls.intro (cs := []) (n := 29) Tryz.func90 rfl rfl rfl (by kernel_rfl) rfl ?_
  generalize hpost : (fun (o : Out) (H : Heap) => o = Out.ret (.tuple [iv (x.tgt next), .bool x.hasT]) ∧ H = []) = post
  have fin : ∀ n b H, n = x.tgt next → b = x.hasT → Up 0 post (.ret (.tuple [iv n, .bool b])) H := fun n b H e1 e2 => finv rfl (by rw [← hpost, e1, e2]; exact ⟨rfl, rfl⟩) H
  have hbr := isBr_eq x.op hx.op
  simp only [go_sem,Ins.av,Ins.cells]
  refine rK_use (enters_of Tryz.func101 rfl (by decide)) (ACalls.pure_use (form_c x.op) rfl rfl) ?_
  simp only [go_sem]
  refine rK_use (enters_of Tryz.func53 rfl (by decide)) (ACalls.pure_use (richeck_c x) rfl rfl) ?_
  rw [Ins.chk, if_pos hx]
  simp only [go_sem]
  repeat' (first | (refine gD_dec (fun hg => ?_) (fun hg => ?_) <;> simp only [go_sem,hg]) | (refine condD_dec (fun hg => ?_) (fun hg => ?_) <;> simp only [go_sem,hg]))
  all_goals exact fin _ _ _ (by simp_all [Ins.tgt]) (by simp_all [Ins.hasT])
end Go.Proofs.YtfiflailjbmlpaaGreatDoor
set_option maxRecDepth 100000
set_option linter.unusedVariables false
set_option linter.unusedSimpArgs false
namespace Go.Proofs.YtfiflailjbmlpaaGreatDoor
open Go.AM
def immL (b : List UInt8) (v : Int) : Int := b.foldr (fun c v => bOr .i64 (iw .i64 (v * 128)) (c.toNat : Int)) v
def topB (b : List UInt8) : Int := ((b[b.length - 1]?).getD 0).toNat
def imm0 (f : Int) (b : List UInt8) : Int := if f ≠ 8 ∧ 0 < b.length ∧ 64 ≤ topB b then -1 else 0
theorem immL_at {b : List UInt8} {k : Nat} {c : UInt8} (h : b[k]? = some c) (v : Int) : immL (b.drop k) v = bOr .i64 (iw .i64 (immL (b.drop (k + 1)) v * 128)) (c.toNat : Int) := by
  rw [drop_at h]; rfl
theorem iwb (c : UInt8) : iw .i64 (c.toNat : Int) = c.toNat := by have := u8_lt c; exact iw64 (by omega) (by omega)
theorem immOf_c (f : Int) (b : List UInt8) (full : Bool) (hl : b.length ≤ 1000) : ACalls Tryz.prog 122 [iv f, .view full 1 (b.map rb)] [] (fun o H => o = .ret (iv (immL b (imm0 f b))) ∧ H = []) := by
  refine ACalls.up ?_
  refine ACalls.intro (cs := [4]) (n := 39) Tryz.func122 rfl rfl rfl (by kernel_rfl) rfl ?_
  generalize hpost : (fun (o : Out) (H : Heap) => o = Out.ret (iv (immL b (imm0 f b))) ∧ H = []) = post
  simp only [go_sem]
  refine seq_cut (fun _ : Unit => ((Ch.nil.put 1 (.view full 1 (b.map rb))).put 5 (iv (imm0 f b)))) (fun _ => []) (fun _ => True) (by kernel_rfl) ?_ ?_
  · intro K hK
    have e0 : iw .i64 ((b.length : Int) - 1) = (b.length : Int) - 1 := iw64 (by omega) (by omega)
    have fin : ∀ s' H', H' = [] → wkS ((Ch.nil.put 1 (.view full 1 (b.map rb))).put 5 (iv (imm0 f b))) s' → K s' H' := fun s' H' e h => hK () s' H' trivial (by subst e; exact Wk.slots' rfl h)
    simp only [go_sem,List.length_map,e0]
    rcases Decidable.em (f = 8) with h8 | h8
    · simp only [go_sem,h8]
      exact fin _ _ rfl (by simp [wkS, Ch.get, imm0, h8])
    · simp only [go_sem,h8,List.length_map,e0]
      rcases Decidable.em ((0 : Int) < b.length) with h0 | h0
      · obtain ⟨c, hc⟩ := at_lt (l := b) (i := b.length - 1) (by omega)
        have h1 : (0 : Int) ≤ (b.length : Int) - 1 := by omega
        have h2 : (b.length : Int) - 1 < b.length := by omega
        have h3 : ((b.length : Int) - 1).toNat = b.length - 1 := by omega
        simp only [go_sem,h0,h1,h2,h3,List.length_map,List.getElem?_map,hc,e0]
        repeat' (first | (refine gD_dec (fun hg => ?_) (fun hg => ?_) <;> simp only [go_sem,hg]) | (refine condD_dec (fun hg => ?_) (fun hg => ?_) <;> simp only [go_sem,hg]))
        · exact fin _ _ rfl (by simp [wkS, Ch.get, imm0, topB, hc]; omega)
        · exact fin _ _ rfl (by simp [wkS, Ch.get, imm0, topB, hc]; omega)
      · simp only [go_sem,h0,List.length_map]
        exact fin _ _ rfl (by simp [wkS, Ch.get, imm0]; omega)
  · rintro - -
    have e0 : iw .i64 ((b.length : Int) - 1) = (b.length : Int) - 1 := iw64 (by omega) (by omega)
    simp only [go_sem,List.length_map,e0]
    refine loop_fam (fun k : Nat => (((Ch.nil.put 1 (.view full 1 (b.map rb))).put 5 (iv (immL (b.drop k) (imm0 f b)))).put 6 (iv ((k : Int) - 1)))) (fun _ => []) (fun k => k) (fun k => k ≤ b.length) b.length (by kernel_rfl) (Nat.le_refl _)
      (Wk.slots' rfl (by simp [wkS, Ch.get, immL])) ?_
    rintro k hk K hK
    simp only [go_sem]
    refine condD_dec (fun hc => ?_) (fun hc => ?_)
    · obtain ⟨m, rfl⟩ : ∃ m, k = m + 1 := ⟨k - 1, by omega⟩
      obtain ⟨c, hc'⟩ := at_lt (l := b) (i := m) (by omega)
      have e1 : (((m + 1 : Nat) : Int) - 1) = (m : Int) := by omega
      have e2 : (m : Int) < b.length := by omega
      have e3 : iw .i64 ((m : Int) - 1) = (m : Int) - 1 := iw64 (by omega) (by omega)
      rw [e1]
      simp only [go_sem,e2,e3,List.length_map,List.getElem?_map,hc',Int.natCast_nonneg,iwb]
      refine hK m _ _ (by omega) (by omega) (Wk.slots' rfl ?_)
      simp [wkS, Ch.get]
      rw [immL_at hc']
    · have : k = 0 := by omega
      subst this
      simp only [go_sem]
      exact finv rfl (by rw [← hpost]; exact ⟨rfl, rfl⟩) _
theorem number_c (b : List UInt8) (full : Bool) (hl : b.length ≤ 1000) (h0 : 0 < b.length) : ACalls Tryz.prog 113 [.view full 1 (b.map rb)] [] (fun o H => o = .ret (iv (immL b (imm0 0 b))) ∧ H = []) := by
  refine ACalls.up ?_
  refine ACalls.intro (cs := [4]) (n := 28) Tryz.func113 rfl rfl rfl (by kernel_rfl) rfl ?_
  generalize hpost : (fun (o : Out) (H : Heap) => o = Out.ret (iv (immL b (imm0 0 b))) ∧ H = []) = post
  have e0 : iw .i64 ((b.length : Int) - 1) = (b.length : Int) - 1 := iw64 (by omega) (by omega)
  simp only [go_sem]
  refine seq_cut (fun _ : Unit => ((Ch.nil.put 0 (.view full 1 (b.map rb))).put 3 (iv (imm0 0 b)))) (fun _ => []) (fun _ => True) (by kernel_rfl) ?_ ?_
  · intro K hK
    have fin : ∀ s' H', H' = [] → wkS ((Ch.nil.put 0 (.view full 1 (b.map rb))).put 3 (iv (imm0 0 b))) s' → K s' H' := fun s' H' e h => hK () s' H' trivial (by subst e; exact Wk.slots' rfl h)
    obtain ⟨c, hc⟩ := at_lt (l := b) (i := b.length - 1) (by omega)
    have h1 : (0 : Int) ≤ (b.length : Int) - 1 := by omega
    have h2 : (b.length : Int) - 1 < b.length := by omega
    have h3 : ((b.length : Int) - 1).toNat = b.length - 1 := by omega
    simp only [go_sem,h1,h2,h3,List.length_map,List.getElem?_map,hc,e0]
    repeat' (first | (refine gD_dec (fun hg => ?_) (fun hg => ?_) <;> simp only [go_sem,hg]) | (refine condD_dec (fun hg => ?_) (fun hg => ?_) <;> simp only [go_sem,hg]))
    · exact fin _ _ rfl (by simp [wkS, Ch.get, imm0, topB, hc]; omega)
    · exact fin _ _ rfl (by simp [wkS, Ch.get, imm0, topB, hc]; omega)
  · rintro - -
    simp only [go_sem,List.length_map,e0]
    refine loop_fam (fun k : Nat => (((Ch.nil.put 0 (.view full 1 (b.map rb))).put 3 (iv (immL (b.drop k) (imm0 0 b)))).put 4 (iv ((k : Int) - 1)))) (fun _ => []) (fun k => k) (fun k => k ≤ b.length) b.length (by kernel_rfl) (Nat.le_refl _)
      (Wk.slots' rfl (by simp [wkS, Ch.get, immL])) ?_
    rintro k hk K hK
    simp only [go_sem]
    refine condD_dec (fun hc => ?_) (fun hc => ?_)
    · obtain ⟨m, rfl⟩ : ∃ m, k = m + 1 := ⟨k - 1, by omega⟩
      obtain ⟨c, hc'⟩ := at_lt (l := b) (i := m) (by omega)
      have e1 : (((m + 1 : Nat) : Int) - 1) = (m : Int) := by omega
      have e2 : (m : Int) < b.length := by omega
      have e3 : iw .i64 ((m : Int) - 1) = (m : Int) - 1 := iw64 (by omega) (by omega)
      rw [e1]
      simp only [go_sem,e2,e3,List.length_map,List.getElem?_map,hc',Int.natCast_nonneg,iwb]
      refine hK m _ _ (by omega) (by omega) (Wk.slots' rfl ?_)
      simp [wkS, Ch.get]
      rw [immL_at hc']
    · have : k = 0 := by omega
      subst this
      simp only [go_sem]
      exact finv rfl (by rw [← hpost]; exact ⟨rfl, rfl⟩) _
end Go.Proofs.YtfiflailjbmlpaaGreatDoor
set_option maxRecDepth 100000
set_option linter.unusedVariables false
set_option linter.unusedSimpArgs false
namespace Go.Proofs.YtfiflailjbmlpaaGreatDoor
open Go.AM
def scan (wide : Bool) (b : List UInt8) (n : Nat) : Nat → Nat → Int
  | 0, _ => 0
  | m + 1, i => match b[i]? with
    | none => 21
    | some c => if 128 ≤ (c.toNat : Int) ∨ (wide = true ∧ i + 1 = n ∧ (c.toNat : Int) ≠ 0 ∧ (c.toNat : Int) ≠ 127) then 20 else scan wide b n m (i + 1)
theorem scan_vals (wide : Bool) (b : List UInt8) (n : Nat) : ∀ (m i : Nat), scan wide b n m i = 0 ∨ scan wide b n m i = 20 ∨ scan wide b n m i = 21
  | 0, _ => .inl rfl
  | m + 1, i => by
    rw [scan]
    split
    · simp
    · split
      · simp
      · exact scan_vals wide b n m (i + 1)
theorem scan_len (wide : Bool) (b : List UInt8) (n : Nat) : ∀ (m i : Nat), scan wide b n m i = 0 → i ≤ b.length → i + m ≤ b.length
  | 0, i, _, h => h
  | m + 1, i, h, hi => by
    rw [scan] at h
    split at h
    · cases h
    · rename_i c hc
      have hl := (List.getElem?_eq_some_iff.1 hc).1
      split at h
      · cases h
      · have := scan_len wide b n m (i + 1) h (by omega)
        omega
structure Dec where
  x : Ins
  n : Nat
  e : Int
def Dec.err (e : Int) : Dec := ⟨⟨0, 0, 0, 0⟩, 0, e⟩
def Dec.av (d : Dec) : AV := .tuple [d.x.av, iv d.n, iv d.e]
def decB (b : List UInt8) (op a b' : Int) (k : Nat) : Dec :=
  if scan (decide (kform op = 3)) b (flen (kform op)) (flen (kform op) - k) k = 0 then
    ⟨⟨op, a, b', immL ((b.take (flen (kform op))).drop k) (imm0 (kform op) ((b.take (flen (kform op))).drop k))⟩, flen (kform op), 0⟩
  else .err (scan (decide (kform op = 3)) b (flen (kform op)) (flen (kform op) - k) k)
def dec (b : List UInt8) : Dec := match b with
  | [] => .err 21
  | b0 :: rest =>
    if isOp ((b0.toNat : Int) - 128) = true then
      if hasA (kform ((b0.toNat : Int) - 128)) = true then
        match rest with
        | [] => .err 21
        | b1 :: _ =>
          if hasB (kform ((b0.toNat : Int) - 128)) = true then
            if 64 ≤ (b1.toNat : Int) then .err 20 else decB b ((b0.toNat : Int) - 128) ((b1.toNat : Int).tdiv 8) ((b1.toNat : Int).tmod 8) 2
          else if 8 ≤ (b1.toNat : Int) then .err 20 else decB b ((b0.toNat : Int) - 128) b1.toNat 0 2
      else decB b ((b0.toNat : Int) - 128) 0 0 1
    else .err 20
theorem dec_cons (b0 : UInt8) (rest : List UInt8) : dec (b0 :: rest) = if isOp ((b0.toNat : Int) - 128) = true then
      if hasA (kform ((b0.toNat : Int) - 128)) = true then
        match rest with
        | [] => .err 21
        | b1 :: _ =>
          if hasB (kform ((b0.toNat : Int) - 128)) = true then
            if 64 ≤ (b1.toNat : Int) then .err 20 else decB (b0 :: rest) ((b0.toNat : Int) - 128) ((b1.toNat : Int).tdiv 8) ((b1.toNat : Int).tmod 8) 2
          else if 8 ≤ (b1.toNat : Int) then .err 20 else decB (b0 :: rest) ((b0.toNat : Int) - 128) b1.toNat 0 2
      else decB (b0 :: rest) ((b0.toNat : Int) - 128) 0 0 1
    else .err 20 := rfl
theorem flen_A {f : Int} (h : hasA f = true) : 2 ≤ flen f := by unfold flen; rw [if_pos h]; omega
theorem i2 : iw .i64 2 = 2 := by decide
theorem decode_c (b : List UInt8) (hl : b.length ≤ 1000) : ACalls Tryz.prog 96 [.view false 1 (b.map rb)] [] (fun o H => o = .ret (dec b).av ∧ H = []) := by
  refine ACalls.up ?_
  refine ACalls.intro (cs := [21]) (n := 120) Tryz.func96 rfl rfl rfl (by kernel_rfl) rfl ?_
  generalize hpost : (fun (o : Out) (H : Heap) => o = Out.ret (dec b).av ∧ H = []) = post
  have fin : ∀ (x : Ins) (n e : Int) H, .tuple [.agg [iv x.op, iv x.a, iv x.b, iv x.imm], iv n, iv e] = (dec b).av → Up 0 post (.ret (.tuple [.agg [iv x.op, iv x.a, iv x.b, iv x.imm], iv n, iv e])) H := fun x n e H h => finv rfl (by rw [← hpost, h]; exact ⟨rfl, rfl⟩) H
  rcases b with _ | ⟨b0, rest⟩
  · simp only [go_sem]
    exact fin ⟨0, 0, 0, 0⟩ 0 21 _ rfl
  have q1 : ¬ (((b0 :: rest).length : Nat) : Int) = 0 := by rw [List.length_cons]; omega
  have q2 : (0 : Int) < ((b0 :: rest).length : Nat) := by rw [List.length_cons]; omega
  have q3 := u8_lt b0
  have e1 : iw .i64 ((b0.toNat : Int) - 128) = (b0.toNat : Int) - 128 := iw64 (by omega) (by omega)
  generalize hb : b0 :: rest = b at *
  have hb0 : b[0]? = some b0 := by rw [← hb]; rfl
  simp only [go_sem,List.length_map,q1,q2,List.getElem?_map,hb0,iwb,e1,Int.le_refl]
  refine rK_use (enters_of Tryz.func97 rfl (by decide)) (ACalls.pure_use (kind_c _) rfl rfl) ?_
  generalize hop : (b0.toNat : Int) - 128 = op
  simp only [go_sem,kname_eq]
  rcases Decidable.em (isOp op = true) with ho | ho
  rotate_left
  · simp only [go_sem,ho]
    exact fin ⟨0, 0, 0, 0⟩ 0 20 _ (by rw [← hb, dec_cons, hop, if_neg ho]; rfl)
  simp only [go_sem,ho]
  refine rK_use (enters_of Tryz.func121 rfl (by decide)) (ACalls.pure_use (flength_c _) rfl rfl) ?_
  simp only [go_sem]
  have hfl := flen_le (kform op)
  have hf1 : 1 ≤ flen (kform op) := by unfold flen; omega
  refine seq_cut (fun z : Int × Int × Nat => (((((Ch.nil.put 0 (.view false 1 (b.map rb))).put 2 (.ptr 0 0 0)).put 5 (.ptr 1 0 0)).put 6 (.ptr 2 0 0)).put 7 (iv (flen (kform op)))).put 8 (iv z.2.2))
    (fun z => [.rows 4 [[iv 0, iv 0, iv 0, iv 0]], .rows 4 [[iv op, iv z.1, iv z.2.1, iv 0]], .rows 2 [[.str (kname op), iv (kform op)]]])
    (fun z => dec b = decB b op z.1 z.2.1 z.2.2 ∧ z.2.2 ≤ b.length ∧ z.2.2 ≤ flen (kform op) ∧ 1 ≤ z.2.2) (by kernel_rfl) ?_ ?_
  · intro K hK
    simp only [go_sem]
    refine rK_use (enters_of Tryz.func98 rfl (by decide)) (ACalls.pure_use (hasA_c _) rfl rfl) ?_
    rcases Decidable.em (hasA (kform op) = true) with hA | hA
    rotate_left
    · simp only [go_sem,hA]
      refine hK (0, 0, 1) _ _ ⟨by rw [← hb, dec_cons, hop, if_pos ho, if_neg hA], by rw [← hb]; simp, hf1, Nat.le_refl _⟩ (Wk.slots' rfl (by simp [wkS, Ch.get]))
    have hf2 := flen_A hA
    simp only [go_sem,hA,List.length_map]
    rcases rest with _ | ⟨b1, rest⟩
    · have q4 : b.length = 1 := by rw [← hb]; rfl
      simp only [go_sem,q4,Int.natCast_one]
      exact fin ⟨0, 0, 0, 0⟩ 0 21 _ (by rw [← hb, dec_cons, hop, if_pos ho, if_pos hA]; rfl)
    have q4 : ¬ (b.length : Int) = 1 := by rw [← hb]; simp; omega
    have q5 : (1 : Int) < b.length := by rw [← hb]; simp; omega
    have hb1 : b[1]? = some b1 := by rw [← hb]; rfl
    have q6 := u8_lt b1
    simp only [go_sem,q4]
    refine rK_use (enters_of Tryz.func99 rfl (by decide)) (ACalls.pure_use (hasB_c _) rfl rfl) ?_
    rcases Decidable.em (hasB (kform op) = true) with hB | hB
    · simp only [go_sem,hB,List.length_map,q5,List.getElem?_map,hb1]
      rcases Decidable.em (64 ≤ (b1.toNat : Int)) with h64 | h64
      · simp only [go_sem,h64]
        exact fin ⟨0, 0, 0, 0⟩ 0 20 _ (by rw [← hb, dec_cons, hop, if_pos ho, if_pos hA]; simp only [hB, if_true, h64]; rfl)
      · simp only [go_sem,h64,List.length_map,q5,List.getElem?_map,hb1,iwb]
        refine rK_use (enters_of Tryz.func99 rfl (by decide)) (ACalls.pure_use (hasB_c _) rfl rfl) ?_
        have e2 : iw .i64 ((b1.toNat : Int).tdiv 8) = (b1.toNat : Int).tdiv 8 := by
          have := u8_ge b1
          rw [Int.tdiv_eq_ediv_of_nonneg this]
          exact iw64 (by omega) (by omega)
        simp only [go_sem,hB,e2]
        refine hK ((b1.toNat : Int).tdiv 8, (b1.toNat : Int).tmod 8, 2) _ _ ⟨by rw [← hb, dec_cons, hop, if_pos ho, if_pos hA]; simp only [hB, if_true, h64, if_false], by rw [← hb]; simp, hf2, by simp⟩ (Wk.slots' rfl (by simp [wkS, Ch.get, i2]))
    · simp only [go_sem,hB,List.length_map,q5,List.getElem?_map,hb1]
      rcases Decidable.em (8 ≤ (b1.toNat : Int)) with h64 | h64
      · simp only [go_sem,h64]
        exact fin ⟨0, 0, 0, 0⟩ 0 20 _ (by rw [← hb, dec_cons, hop, if_pos ho, if_pos hA]; simp only [hB, if_true, if_false, h64]; rfl)
      · simp only [go_sem,h64,List.length_map,q5,List.getElem?_map,hb1,iwb]
        refine rK_use (enters_of Tryz.func99 rfl (by decide)) (ACalls.pure_use (hasB_c _) rfl rfl) ?_
        simp only [go_sem,hB]
        refine hK ((b1.toNat : Int), 0, 2) _ _ ⟨by rw [← hb, dec_cons, hop, if_pos ho, if_pos hA]; simp only [hB, if_true, h64, if_false, Bool.false_eq_true], by rw [← hb]; simp, hf2, by simp⟩ (Wk.slots' rfl (by simp [wkS, Ch.get, i2]))
  · rintro ⟨a, b', k⟩ ⟨hd, hkl, hkf, hk1⟩
    simp only at hd hkl hkf hk1
    simp only [go_sem]
    generalize hw : decide (kform op = 3) = wide
    generalize hf0 : flen (kform op) = fl at *
    refine loop_fam (fun i : Nat => ((((((Ch.nil.put 0 (.view false 1 (b.map rb))).put 2 (.ptr 0 0 0)).put 5 (.ptr 1 0 0)).put 6 (.ptr 2 0 0)).put 7 (iv (fl))).put 8 (iv k)).put 10 (iv i))
      (fun i => [.rows 4 [[iv 0, iv 0, iv 0, iv 0]], .rows 4 [[iv op, iv a, iv b', iv 0]], .rows 2 [[.str (kname op), iv (kform op)]]])
      (fun i => fl - i) (fun i => k ≤ i ∧ i ≤ fl ∧ i ≤ b.length ∧ scan wide b (fl) (fl - k) k = scan wide b (fl) (fl - i) i) k (by kernel_rfl) ⟨Nat.le_refl _, hkf, hkl, rfl⟩
      (Wk.slots' rfl (by simp [wkS, Ch.get])) ?_
    rintro i ⟨h1, h2, h3, hs⟩ K hK
    simp only [go_sem,List.length_map]
    refine condD_dec (fun hc => ?_) (fun hc => ?_)
    · obtain ⟨m, hm⟩ : ∃ m, fl - i = m + 1 := ⟨fl - i - 1, by omega⟩
      rw [hm, scan] at hs
      simp only [go_sem,List.length_map]
      refine condD_dec (fun hx => ?_) (fun hx => ?_)
      · have hi : b[i]? = none := by rw [List.getElem?_eq_none_iff]; omega
        rw [hi] at hs
        simp only [go_sem]
        exact fin ⟨0, 0, 0, 0⟩ 0 21 _ (by rw [hd, decB, hw, hf0, hs]; rfl)
      · obtain ⟨c, hi⟩ := at_lt (l := b) (i := i) (by omega)
        have hlt : (i : Int) < b.length := by omega
        have e3 : iw .i64 ((fl : Int) - 1) = (fl : Int) - 1 := iw64 (by omega) (by omega)
        have e4 : iw .i64 ((i : Int) + 1) = ((i + 1 : Nat) : Int) := by rw [iw64] <;> omega
        have e8 : iw .i64 ((fl : Int) - 1 + 1) = fl := by rw [iw64] <;> omega
        have hcc := u8_lt c
        rw [hi] at hs
        simp only at hs
        have bad : ∀ H, (128 ≤ (c.toNat : Int) ∨ (wide = true ∧ i + 1 = fl ∧ (c.toNat : Int) ≠ 0 ∧ (c.toNat : Int) ≠ 127)) → Up 0 post (.ret (.tuple [.agg [iv 0, iv 0, iv 0, iv 0], iv 0, iv 20])) H := fun H h => fin ⟨0, 0, 0, 0⟩ 0 20 H (by rw [hd, decB, hw, hf0, hs, if_pos h]; rfl)
        have good : ∀ s' H', ¬ (128 ≤ (c.toNat : Int) ∨ (wide = true ∧ i + 1 = fl ∧ (c.toNat : Int) ≠ 0 ∧ (c.toNat : Int) ≠ 127)) → Wk 0 120 s' H' (((((((Ch.nil.put 0 (.view false 1 (b.map rb))).put 2 (.ptr 0 0 0)).put 5 (.ptr 1 0 0)).put 6 (.ptr 2 0 0)).put 7 (iv (fl))).put 8 (iv k)).put 10 (iv (i + 1 : Nat))) [.rows 4 [[iv 0, iv 0, iv 0, iv 0]], .rows 4 [[iv op, iv a, iv b', iv 0]], .rows 2 [[.str (kname op), iv (kform op)]]] → K s' H' := fun s' H' h hwk =>
          hK (i + 1) s' H' ⟨by omega, by omega, by omega, by rw [hs, if_neg h]; congr 1; omega⟩ (by omega) hwk
        rcases Decidable.em (i + 1 = fl) with hla | hla
        · have hla' : (fl : Int) - 1 = i := by omega
          rw [hla'] at e3
          simp only [go_sem,List.length_map,List.getElem?_map,hi,hlt,Int.natCast_nonneg,hla',e3]
          repeat' (first | (refine gD_dec (fun hg => ?_) (fun hg => ?_) <;> simp only [go_sem,hg,List.length_map,List.getElem?_map,hi,hlt,Int.natCast_nonneg,hla',e3,e4]) | (refine condD_dec (fun hg => ?_) (fun hg => ?_) <;> simp only [go_sem,hg,List.length_map,List.getElem?_map,hi,hlt,Int.natCast_nonneg,hla',e3,e4]) | (refine gD_bool (fun hg => ?_) (fun hg => ?_) <;> simp only [go_sem,hg,List.length_map,List.getElem?_map,hi,hlt,Int.natCast_nonneg,hla',e3,e4]) | (refine condD_bool (fun hg => ?_) (fun hg => ?_) <;> simp only [go_sem,hg,List.length_map,List.getElem?_map,hi,hlt,Int.natCast_nonneg,hla',e3,e4]))
          all_goals first
            | exact bad _ (.inl (by assumption))
            | exact bad _ (.inr ⟨by rw [← hw]; exact decide_eq_true (by assumption), hla, by omega, by omega⟩)
            | refine good _ _ (fun h => ?_) (Wk.slots' (by first | rfl | simp [*]) (by simp [wkS, Ch.get]))
              rcases h with h | ⟨g1, g2, g3, g4⟩
              · omega
              · have g5 : kform op = 3 := of_decide_eq_true (hw.trans g1)
                omega
        · have hla' : ¬ ((i : Int) = (fl : Int) - 1) := by omega
          simp only [go_sem,List.length_map,List.getElem?_map,hi,hlt,Int.natCast_nonneg,hla',e3]
          repeat' (first | (refine gD_dec (fun hg => ?_) (fun hg => ?_) <;> simp only [go_sem,hg,List.length_map,List.getElem?_map,hi,hlt,Int.natCast_nonneg,hla',e3,e4]) | (refine condD_dec (fun hg => ?_) (fun hg => ?_) <;> simp only [go_sem,hg,List.length_map,List.getElem?_map,hi,hlt,Int.natCast_nonneg,hla',e3,e4]) | (refine gD_bool (fun hg => ?_) (fun hg => ?_) <;> simp only [go_sem,hg,List.length_map,List.getElem?_map,hi,hlt,Int.natCast_nonneg,hla',e3,e4]) | (refine condD_bool (fun hg => ?_) (fun hg => ?_) <;> simp only [go_sem,hg,List.length_map,List.getElem?_map,hi,hlt,Int.natCast_nonneg,hla',e3,e4]))
          all_goals first
            | exact bad _ (.inl (by assumption))
            | refine good _ _ (fun h => ?_) (Wk.slots' (by first | rfl | simp [*]) (by simp [wkS, Ch.get]))
              rcases h with h | ⟨g1, g2, g3, g4⟩ <;> omega
    · have hin : i = fl := by omega
      subst hin
      rw [Nat.sub_self, scan] at hs
      have hkn : (k : Int) ≤ (i : Int) := by omega
      have hnl : (i : Int) ≤ b.length := by omega
      simp only [go_sem]
      refine draw [.qu 0 0, .qu 0 0, .qu 0 0, .qu 0 0, .qu 0 0, .qu 0 0, .qu 0 0, .qu 0 0, .mn 0] (by kernel_rfl) (by kernel_rfl) ?_
      have e5 : ((b.map rb).take (i)).drop k = ((b.take (i)).drop k).map rb := by rw [← List.map_take, ← List.map_drop]
      simp only [go_sem,hkn,hnl,Int.natCast_nonneg,List.length_map,e5]
      refine y_call (enters_of Tryz.func122 rfl (by decide)) (fun _ => ACalls.pure_use (immOf_c (kform op) ((b.take (i)).drop k) false (by simp; omega)) rfl rfl) ?_
      simp only [go_sem]
      exact fin ⟨op, a, b', _⟩ _ 0 _ (by rw [hd, decB, hw, hf0, hs, if_pos rfl]; rfl)
end Go.Proofs.YtfiflailjbmlpaaGreatDoor
set_option maxRecDepth 100000
set_option linter.unusedVariables false
set_option linter.unusedSimpArgs false
namespace Go.Proofs.YtfiflailjbmlpaaGreatDoor
open Go.AM
def Dec.rav (d : Dec) : AV := .agg [iv d.x.op, iv d.x.a, iv d.x.b, iv d.x.imm, iv d.n, iv d.e]
theorem bOr0 (c : UInt8) : bOr .i64 (iw .i64 (0 * 128)) (c.toNat : Int) = c.toNat := by
  have h := c.toNat_lt
  have e : ∀ n : Nat, n < 256 → bOr .i64 (iw .i64 (0 * 128)) (n : Int) = n := by decide +kernel
  exact e _ h
theorem flen_split (f : Int) : flen f = bytesOf f + (if hasA f = true then 2 else 1) := by unfold flen; split <;> omega
theorem rdecode_c (b : List UInt8) (hl : b.length ≤ 1000) : ACalls Tryz.prog 82 [.view false 1 (b.map rb)] [] (fun o H => o = .ret (dec b).rav ∧ H = []) := by
  refine ACalls.up ?_
  refine ACalls.intro (cs := [19]) (n := 148) Tryz.func82 rfl rfl rfl (by kernel_rfl) rfl ?_
  generalize hpost : (fun (o : Out) (H : Heap) => o = Out.ret (dec b).rav ∧ H = []) = post
  have fin : ∀ (x : Ins) (n e : Int) H, .agg [iv x.op, iv x.a, iv x.b, iv x.imm, iv n, iv e] = (dec b).rav → Up 0 post (.ret (.agg [iv x.op, iv x.a, iv x.b, iv x.imm, iv n, iv e])) H := fun x n e H h => finv rfl (by rw [← hpost, h]; exact ⟨rfl, rfl⟩) H
  rcases b with _ | ⟨b0, rest⟩
  · simp only [go_sem]
    exact fin ⟨0, 0, 0, 0⟩ 0 21 _ rfl
  have q1 : ¬ (((b0 :: rest).length : Nat) : Int) = 0 := by rw [List.length_cons]; omega
  have q2 : (0 : Int) < ((b0 :: rest).length : Nat) := by rw [List.length_cons]; omega
  have q3 := u8_lt b0
  have e1 : iw .i64 ((b0.toNat : Int) - 128) = (b0.toNat : Int) - 128 := iw64 (by omega) (by omega)
  generalize hb : b0 :: rest = b at *
  have hb0 : b[0]? = some b0 := by rw [← hb]; rfl
  simp only [go_sem,List.length_map,q1,q2,List.getElem?_map,hb0,iwb,e1,Int.le_refl]
  rcases Decidable.em (isOp ((b0.toNat : Int) - 128) = true) with ho | ho
  rotate_left
  · repeat' (first | (refine gD_dec (fun hg => ?_) (fun hg => ?_) <;> simp only [go_sem,hg,List.length_map,q1,q2,List.getElem?_map,hb0,iwb,e1,Int.le_refl,rform_no ho]) | (refine condD_dec (fun hg => ?_) (fun hg => ?_) <;> simp only [go_sem,hg,List.length_map,q1,q2,List.getElem?_map,hb0,iwb,e1,Int.le_refl,rform_no ho]) | (refine rK_use (enters_of Tryz.func101 rfl (by decide)) (ACalls.pure_use (form_c _) rfl rfl) ?_; simp only [go_sem,List.length_map,q1,q2,List.getElem?_map,hb0,iwb,e1,Int.le_refl,rform_no ho]) | (refine gD_bool (fun hg => ?_) (fun hg => ?_) <;> simp only [go_sem,hg,List.length_map,q1,q2,List.getElem?_map,hb0,iwb,e1,Int.le_refl,rform_no ho]) | (refine condD_bool (fun hg => ?_) (fun hg => ?_) <;> simp only [go_sem,hg,List.length_map,q1,q2,List.getElem?_map,hb0,iwb,e1,Int.le_refl,rform_no ho]))
    all_goals exact fin ⟨0, 0, 0, 0⟩ 0 20 _ (by rw [← hb, dec_cons, if_neg ho]; rfl)
  have hge : ¬ ((b0.toNat : Int) < 128) := by
    rcases opcases ho with h | ⟨k, _, h1, h2⟩ <;> omega
  obtain ⟨f1, f2, f3, f4, f5, f6⟩ := forms_eq _ ho
  simp only [go_sem,hge,List.length_map,q1,q2,List.getElem?_map,hb0,iwb,e1,Int.le_refl]
  refine rK_use (enters_of Tryz.func101 rfl (by decide)) (ACalls.pure_use (form_c _) rfl rfl) ?_
  simp only [go_sem,f1,hge,List.length_map,q1,q2,List.getElem?_map,hb0,iwb,e1,Int.le_refl]
  refine rK_use (enters_of Tryz.func101 rfl (by decide)) (ACalls.pure_use (form_c _) rfl rfl) ?_
  simp only [go_sem]
  refine rK_use (enters_of Tryz.func103 rfl (by decide)) (ACalls.pure_use (operands_c _) rfl rfl) ?_
  rw [f2, f3, f4]
  generalize hop : (b0.toNat : Int) - 128 = op at *
  simp only [go_sem]
  have hfl := flen_le (kform op)
  have hsp := flen_split (kform op)
  refine seq_cut (fun z : Int × Int × Nat => (((((Ch.nil.put 0 (.view false 1 (b.map rb))).put 2 (.ptr 0 0 0)).put 3 (.ptr 1 0 0)).put 4 (iv (rform op))).put 7 (iv (bytesOf (kform op)))).put 8 (iv z.2.2))
    (fun z => [.rows 6 [[iv 0, iv 0, iv 0, iv 0, iv 0, iv 0]], .rows 4 [[iv op, iv z.1, iv z.2.1, iv 0]]])
    (fun z => dec b = decB b op z.1 z.2.1 z.2.2 ∧ z.2.2 ≤ b.length ∧ flen (kform op) = bytesOf (kform op) + z.2.2 ∧ 1 ≤ z.2.2) (by kernel_rfl) ?_ ?_
  · intro K hK
    rcases Decidable.em (hasA (kform op) = true) with hA | hA
    rotate_left
    · simp only [go_sem,hA]
      rw [if_neg hA] at hsp
      refine hK (0, 0, 1) _ _ ⟨by rw [← hb, dec_cons, hop, if_pos ho, if_neg hA], by rw [← hb]; simp, hsp, Nat.le_refl _⟩ (Wk.slots' rfl (by simp [wkS, Ch.get]))
    rw [if_pos hA] at hsp
    simp only [go_sem,hA,List.length_map]
    rcases rest with _ | ⟨b1, rest⟩
    · have q4 : (b.length : Int) < 2 := by rw [← hb]; simp
      simp only [go_sem,q4]
      exact fin ⟨0, 0, 0, 0⟩ 0 21 _ (by rw [← hb, dec_cons, hop, if_pos ho, if_pos hA]; rfl)
    have q4 : ¬ (b.length : Int) < 2 := by rw [← hb]; simp; omega
    have q5 : (1 : Int) < b.length := by rw [← hb]; simp; omega
    have hb1 : b[1]? = some b1 := by rw [← hb]; rfl
    have q6 := u8_lt b1
    simp only [go_sem,q4,q5,List.length_map,List.getElem?_map,hb1]
    rcases Decidable.em (hasB (kform op) = true) with hB | hB
    · simp only [go_sem,hB,List.length_map,q5,List.getElem?_map,hb1]
      rcases Decidable.em ((63 : Int) < (b1.toNat : Int)) with h64 | h64
      · simp only [go_sem,h64]
        exact fin ⟨0, 0, 0, 0⟩ 0 20 _ (by rw [← hb, dec_cons, hop, if_pos ho, if_pos hA]; simp only [hB, if_true]; rw [if_pos (by omega)]; rfl)
      · have e2 : iw .i64 ((b1.toNat : Int).tdiv 8) = (b1.toNat : Int).tdiv 8 := by
          have := u8_ge b1
          rw [Int.tdiv_eq_ediv_of_nonneg this]
          exact iw64 (by omega) (by omega)
        simp only [go_sem,h64,hB,List.length_map,q5,List.getElem?_map,hb1,iwb,e2]
        refine hK ((b1.toNat : Int).tdiv 8, (b1.toNat : Int).tmod 8, 2) _ _ ⟨by rw [← hb, dec_cons, hop, if_pos ho, if_pos hA]; simp only [hB, if_true]; rw [if_neg (by omega)], by rw [← hb]; simp, hsp, by simp⟩ (Wk.slots' rfl (by simp [wkS, Ch.get, i2]))
    · simp only [go_sem,hB,List.length_map,q5,List.getElem?_map,hb1]
      rcases Decidable.em ((7 : Int) < (b1.toNat : Int)) with h64 | h64
      · have bad : ∀ H, Up 0 post (.ret (.agg [iv 0, iv 0, iv 0, iv 0, iv 0, iv 20])) H := fun H => fin ⟨0, 0, 0, 0⟩ 0 20 _ (by rw [← hb, dec_cons, hop, if_pos ho, if_pos hA]; simp only [hB, if_false, Bool.false_eq_true]; rw [if_pos (by omega)]; rfl)
        repeat' (first | (refine gD_dec (fun hg => ?_) (fun hg => ?_) <;> simp only [go_sem,hg,h64,hB,List.length_map,q5,List.getElem?_map,hb1]) | (refine condD_dec (fun hg => ?_) (fun hg => ?_) <;> simp only [go_sem,hg,h64,hB,List.length_map,q5,List.getElem?_map,hb1]) | (refine gD_bool (fun hg => ?_) (fun hg => ?_) <;> simp only [go_sem,hg,h64,hB,List.length_map,q5,List.getElem?_map,hb1]) | (refine condD_bool (fun hg => ?_) (fun hg => ?_) <;> simp only [go_sem,hg,h64,hB,List.length_map,q5,List.getElem?_map,hb1]))
        all_goals exact bad _
      · have h63 : ¬ ((63 : Int) < (b1.toNat : Int)) := by omega
        simp only [go_sem,h64,h63,hB,List.length_map,q5,List.getElem?_map,hb1,iwb]
        refine hK ((b1.toNat : Int), 0, 2) _ _ ⟨by rw [← hb, dec_cons, hop, if_pos ho, if_pos hA]; simp only [hB, if_false, Bool.false_eq_true]; rw [if_neg (by omega)], by rw [← hb]; simp, hsp, by simp⟩ (Wk.slots' rfl (by simp [wkS, Ch.get, i2]))
  · rintro ⟨a, b', k⟩ ⟨hd, hkl, hkf, hk1⟩
    simp only at hd hkl hkf hk1
    simp only [go_sem]
    generalize hw : decide (kform op = 3) = wide
    have hwk : wide = true ↔ bytesOf (kform op) = 10 := by rw [← hw, decide_eq_true_eq]; exact f6
    generalize hn : bytesOf (kform op) = n at *
    have hfn : flen (kform op) = n + k := hkf
    refine loop_fam (fun i : Nat => ((((((Ch.nil.put 0 (.view false 1 (b.map rb))).put 2 (.ptr 0 0 0)).put 3 (.ptr 1 0 0)).put 4 (iv (rform op))).put 7 (iv n)).put 8 (iv k)).put 9 (iv i))
      (fun i => [.rows 6 [[iv 0, iv 0, iv 0, iv 0, iv 0, iv 0]], .rows 4 [[iv op, iv a, iv b', iv 0]]])
      (fun i => n - i) (fun i => i ≤ n ∧ k + i ≤ b.length ∧ scan wide b (n + k) n k = scan wide b (n + k) (n - i) (k + i)) 0 (by kernel_rfl) ⟨Nat.zero_le _, hkl, rfl⟩
      (Wk.slots' rfl (by simp [wkS, Ch.get])) ?_
    rintro i ⟨h2, h3, hs⟩ K hK
    have hdB : ∀ e, scan wide b (n + k) n k = e → e ≠ 0 → dec b = .err e := fun e he hne => by
      rw [hd, decB, hw, hfn, Nat.add_sub_cancel, he, if_neg hne]
    have e0 : iw .i64 ((k : Int) + i) = ((k + i : Nat) : Int) := by rw [iw64] <;> omega
    have e4 : iw .i64 ((i : Int) + 1) = ((i + 1 : Nat) : Int) := by rw [iw64] <;> omega
    simp only [go_sem,List.length_map]
    refine condD_dec (fun hc => ?_) (fun hc => ?_)
    · obtain ⟨m, hm⟩ : ∃ m, n - i = m + 1 := ⟨n - i - 1, by omega⟩
      rw [hm, scan] at hs
      simp only [go_sem,List.length_map,e0]
      refine condD_dec (fun hx => ?_) (fun hx => ?_)
      · have hi : b[k + i]? = none := by rw [List.getElem?_eq_none_iff]; omega
        rw [hi] at hs
        simp only [go_sem]
        exact fin ⟨0, 0, 0, 0⟩ 0 21 _ (by rw [hdB 21 hs (by decide)]; rfl)
      · obtain ⟨c, hi⟩ := at_lt (l := b) (i := k + i) (by omega)
        have hlt : ((k + i : Nat) : Int) < b.length := by omega
        have hcc := u8_lt c
        rw [hi] at hs
        simp only at hs
        have bad : ∀ H, (128 ≤ (c.toNat : Int) ∨ (wide = true ∧ k + i + 1 = n + k ∧ (c.toNat : Int) ≠ 0 ∧ (c.toNat : Int) ≠ 127)) → Up 0 post (.ret (.agg [iv 0, iv 0, iv 0, iv 0, iv 0, iv 20])) H := fun H h => fin ⟨0, 0, 0, 0⟩ 0 20 H (by rw [if_pos h] at hs; rw [hdB 20 hs (by decide)]; rfl)
        have good : ∀ s' H', ¬ (128 ≤ (c.toNat : Int) ∨ (wide = true ∧ k + i + 1 = n + k ∧ (c.toNat : Int) ≠ 0 ∧ (c.toNat : Int) ≠ 127)) → Wk 0 148 s' H' (((((((Ch.nil.put 0 (.view false 1 (b.map rb))).put 2 (.ptr 0 0 0)).put 3 (.ptr 1 0 0)).put 4 (iv (rform op))).put 7 (iv n)).put 8 (iv k)).put 9 (iv (i + 1 : Nat))) [.rows 6 [[iv 0, iv 0, iv 0, iv 0, iv 0, iv 0]], .rows 4 [[iv op, iv a, iv b', iv 0]]] → K s' H' := fun s' H' h hwk =>
          hK (i + 1) s' H' ⟨by omega, by omega, by rw [hs, if_neg h]; congr 1; omega⟩ (by omega) hwk
        have hn10 : n ≤ 10 := by rw [← hn]; exact bytesOf_le _
        rcases Decidable.em ((i : Int) = 9) with h9 | h9
        · have hw1 : wide = true := hwk.2 (by omega)
          have hl1 : k + i + 1 = n + k := by omega
          have e0' : iw .i64 ((k : Int) + 9) = ((k + i : Nat) : Int) := by rw [← h9]; exact e0
          have e4' : iw .i64 10 = ((i + 1 : Nat) : Int) := by rw [← e4, h9]; rfl
          simp only [go_sem,h9,List.length_map,List.getElem?_map,hi,hlt,Int.natCast_nonneg,e0',Int.toNat_natCast]
          repeat' (first | (refine gD_dec (fun hg => ?_) (fun hg => ?_) <;> simp only [go_sem,hg,h9,List.length_map,List.getElem?_map,hi,hlt,Int.natCast_nonneg,e0',e4']) | (refine condD_dec (fun hg => ?_) (fun hg => ?_) <;> simp only [go_sem,hg,h9,List.length_map,List.getElem?_map,hi,hlt,Int.natCast_nonneg,e0',e4']) | (refine gD_bool (fun hg => ?_) (fun hg => ?_) <;> simp only [go_sem,hg,h9,List.length_map,List.getElem?_map,hi,hlt,Int.natCast_nonneg,e0',e4']) | (refine condD_bool (fun hg => ?_) (fun hg => ?_) <;> simp only [go_sem,hg,h9,List.length_map,List.getElem?_map,hi,hlt,Int.natCast_nonneg,e0',e4']))
          all_goals first
            | exact bad _ (.inl (by omega))
            | exact bad _ (.inr ⟨hw1, hl1, by omega, by omega⟩)
            | refine good _ _ (fun h => ?_) (Wk.slots' rfl (by simp [wkS, Ch.get]))
              rcases h with h | ⟨g1, g2, g3, g4⟩ <;> omega
        · simp only [go_sem,h9,List.length_map,List.getElem?_map,hi,hlt,Int.natCast_nonneg,e0]
          repeat' (first | (refine gD_dec (fun hg => ?_) (fun hg => ?_) <;> simp only [go_sem,hg,h9,List.length_map,List.getElem?_map,hi,hlt,Int.natCast_nonneg,e0,e4]) | (refine condD_dec (fun hg => ?_) (fun hg => ?_) <;> simp only [go_sem,hg,h9,List.length_map,List.getElem?_map,hi,hlt,Int.natCast_nonneg,e0,e4]) | (refine gD_bool (fun hg => ?_) (fun hg => ?_) <;> simp only [go_sem,hg,h9,List.length_map,List.getElem?_map,hi,hlt,Int.natCast_nonneg,e0,e4]) | (refine condD_bool (fun hg => ?_) (fun hg => ?_) <;> simp only [go_sem,hg,h9,List.length_map,List.getElem?_map,hi,hlt,Int.natCast_nonneg,e0,e4]))
          all_goals first
            | exact bad _ (.inl (by omega))
            | refine good _ _ (fun h => ?_) (Wk.slots' rfl (by simp [wkS, Ch.get]))
              rcases h with h | ⟨g1, g2, g3, g4⟩
              · omega
              · have := hwk.1 g1
                omega
    · have hin : i = n := by omega
      subst hin
      rw [Nat.sub_self, scan] at hs
      have e5 : ((b.map rb).take (k + i)).drop k = ((b.take (k + i)).drop k).map rb := by rw [← List.map_take, ← List.map_drop]
      have hin : (((k + i : Nat)) : Int) ≤ b.length := by omega
      have hkn : (k : Int) ≤ ((k + i : Nat) : Int) := by omega
      have hfin : dec b = ⟨⟨op, a, b', immL ((b.take (k + i)).drop k) (imm0 (kform op) ((b.take (k + i)).drop k))⟩, k + i, 0⟩ := by
        rw [hd, decB, hw, hfn, Nat.add_sub_cancel, hs, if_pos rfl, Nat.add_comm i k]
      have hlen : ((b.take (k + i)).drop k).length = i := by simp; omega
      have fin2 : ∀ (v : Int) (e : Nat) H, v = immL ((b.take (k + i)).drop k) (imm0 (kform op) ((b.take (k + i)).drop k)) → e = k + i → Up 0 post (.ret (.agg [iv op, iv a, iv b', iv v, iv e, iv 0])) H := fun v e H h1 h2 => fin ⟨op, a, b', v⟩ e 0 H (by rw [hfin, h1, h2]; rfl)
      have h80 : kform op = 8 → i = 1 := fun h => by rw [← hn, h]; rfl
      rcases Decidable.em ((0 : Int) < (i : Int)) with hi0 | hi0
      · simp only [go_sem,hi0,e0,hkn,hin,Int.natCast_nonneg,List.length_map,e5,Int.toNat_natCast]
        refine rK_use (enters_of Tryz.func113 rfl (by decide)) (ACalls.pure_use (number_c ((b.take (k + i)).drop k) false (by omega) (by omega)) rfl rfl) ?_
        rcases Decidable.em (kform op = 8) with h8 | h8
        · have hr8 := f5.2 h8
          have i1 := h80 h8
          obtain ⟨c, hcx⟩ := at_lt (l := b) (i := k) (by omega)
          have hkb : (k : Int) < b.length := by omega
          simp only [go_sem,hr8,e0,List.length_map,List.getElem?_map,hcx,hkb,Int.natCast_nonneg,iwb]
          refine fin2 _ _ _ ?_ rfl
          have hbs : (b.take (k + i)).drop k = [c] := by
            rw [i1, List.take_add_one, hcx, List.drop_append_of_le_length (by simp; omega), List.drop_eq_nil_of_le (by simp; omega)]; rfl
          rw [hbs, h8]
          exact (bOr0 c).symm
        · have hr8 : ¬ rform op = 10 := fun h => h8 (f5.1 h)
          simp only [go_sem,hr8,e0]
          refine fin2 _ _ _ ?_ rfl
          have : imm0 0 ((b.take (k + i)).drop k) = imm0 (kform op) ((b.take (k + i)).drop k) := by
            unfold imm0
            simp [h8]
          rw [this]
      · have hr8 : ¬ rform op = 10 := fun h => by have := h80 (f5.1 h); omega
        simp only [go_sem,hi0,hr8,e0]
        refine fin2 _ _ _ ?_ rfl
        have hbs : (b.take (k + i)).drop k = [] := List.length_eq_zero_iff.1 (by omega)
        rw [hbs]
        simp [immL, imm0]
end Go.Proofs.YtfiflailjbmlpaaGreatDoor
set_option maxRecDepth 100000
set_option linter.unusedVariables false
set_option linter.unusedSimpArgs false
namespace Go.Proofs.YtfiflailjbmlpaaGreatDoor
open Go.AM
theorem iwu64 (x : Int) : iw .u64 x = x % 18446744073709551616 := by simp [iw, IntKind.wrap, IntKind.signed, IntKind.bits]
theorem iwi64 (x : Int) : iw .i64 x = (x + 9223372036854775808) % 18446744073709551616 - 9223372036854775808 := by
  simp only [iw, IntKind.wrap, IntKind.signed, IntKind.bits]
  simp
  omega
theorem iw_congr {x y : Int} (h : x % 18446744073709551616 = y % 18446744073709551616) : iw .i64 x = iw .i64 y := by
  rw [iwi64, iwi64]; omega
theorem iw_u64 (x : Int) : iw .i64 (iw .u64 x) = iw .i64 x := iw_congr (by rw [iwu64]; omega)
theorem and63 (m : Nat) : m &&& 63 = m % 64 := Nat.and_two_pow_sub_one_eq_mod m 6
theorem toNat_ofInt (b : Int) : ((BitVec.ofInt 64 b).toNat : Int) = b % 18446744073709551616 := by
  rw [BitVec.toNat_ofInt]
  omega
theorem bAnd63 (b : Int) : bAnd .i64 b 63 = b % 64 := by
  unfold bAnd
  show iw .i64 (((BitVec.ofInt 64 b &&& BitVec.ofInt 64 63).toNat : Nat) : Int) = b % 64
  rw [BitVec.toNat_and, show (BitVec.ofInt 64 63).toNat = 63 from rfl, and63]
  have := toNat_ofInt b
  rw [iw64] <;> omega
theorem bAnd63u (b : Int) : bAnd .u64 (iw .u64 b) 63 = b % 64 := by
  unfold bAnd
  show iw .u64 (((BitVec.ofInt 64 (iw .u64 b) &&& BitVec.ofInt 64 63).toNat : Nat) : Int) = b % 64
  rw [BitVec.toNat_and, show (BitVec.ofInt 64 63).toNat = 63 from rfl, and63]
  have := toNat_ofInt (iw .u64 b)
  rw [iwu64] at this
  rw [iwu64, iwu64]
  omega
def alu (op a b : Int) : Option Int :=
  if op = 5 then some (iw .i64 (a + b)) else if op = 6 then some (iw .i64 (a - b)) else if op = 7 then some (iw .i64 (a * b))
  else if op = 8 then (if b = 0 then none else some (iw .i64 (a.tdiv b)))
  else if op = 9 then (if b = 0 then none else some (a.tmod b))
  else if op = 10 then some (bAnd .i64 a b) else if op = 11 then some (bOr .i64 a b) else if op = 12 then some (bXor .i64 a b)
  else if op = 13 then some (iw .i64 (a * 2 ^ (b % 64).toNat)) else if op = 14 then some (iw .i64 ((iw .u64 a).fdiv (2 ^ (b % 64).toNat)))
  else some (a.fdiv (2 ^ (b % 64).toNat))
def aluV (o : Option Int) : AV := .tuple [iv (o.getD 0), .bool o.isSome]
theorem tmod_i64 {a b : Int} (ha : I64 a) : I64 (a.tmod b) := by
  have h1 := Int.natAbs_tmod a b
  have h2 : (a.tmod b).natAbs ≤ a.natAbs := by rw [h1]; exact Nat.mod_le _ _
  unfold I64 at *
  rcases Int.lt_or_le a 0 with h | h
  · have : a.tmod b ≤ 0 := by
      rw [← Int.neg_neg a, Int.neg_tmod]
      have := Int.tmod_nonneg b (show 0 ≤ -a by omega)
      omega
    omega
  · have := Int.tmod_nonneg b h
    omega
theorem mod_eq {a b : Int} (ha : I64 a) : iw .i64 (a - iw .i64 (iw .i64 (a.tdiv b) * b)) = a.tmod b := by
  have h : a.tmod b = a - a.tdiv b * b := by have := Int.tmod_def a b; rw [Int.mul_comm] at this; exact this
  rw [← (tmod_i64 (b := b) ha).iw]
  refine iw_congr ?_
  rw [h]
  have e1 : iw .i64 (iw .i64 (a.tdiv b) * b) % 18446744073709551616 = (a.tdiv b * b) % 18446744073709551616 := by
    have k1 : ∀ x : Int, iw .i64 x % 18446744073709551616 = x % 18446744073709551616 := fun x => by rw [iwi64]; omega
    rw [k1, Int.mul_emod, k1, ← Int.mul_emod]
  omega
theorem alu_c (op a b : Int) (ha : I64 a) : ACalls Tryz.prog 137 [iv op, iv a, iv b] [] (fun o H => o = .ret (aluV (alu op a b)) ∧ H = []) := by
  refine ACalls.up ?_
  refine ACalls.intro (cs := []) (n := 78) Tryz.func137 rfl rfl rfl (by kernel_rfl) rfl ?_
  generalize hpost : (fun (o : Out) (H : Heap) => o = Out.ret (aluV (alu op a b)) ∧ H = []) = post
  have fin : ∀ v ok H, .tuple [iv v, .bool ok] = aluV (alu op a b) → Up 0 post (.ret (.tuple [iv v, .bool ok])) H := fun v ok H e => finv rfl (by rw [← hpost, e]; exact ⟨rfl, rfl⟩) H
  have h64 : 0 ≤ b % 64 := by omega
  have hmin : min (b % 64).toNat 64 = (b % 64).toNat := Nat.min_eq_left (by omega)
  have hm1 : a.tdiv (-1) = 0 - a := by rw [Int.tdiv_neg, Int.tdiv_one]; omega
  rcases Decidable.em (b = 0) with hb | hb
  · subst hb
    have z1 : bAnd .i64 0 63 = 0 := by rw [bAnd63]; rfl
    simp only [go_sem]
    repeat' (first | (refine gD_dec (fun hg => ?_) (fun hg => ?_) <;> simp only [go_sem,hg,z1,IntKind.bits]) | (refine condD_dec (fun hg => ?_) (fun hg => ?_) <;> simp only [go_sem,hg,z1,IntKind.bits]))
    all_goals exact fin _ _ _ (by simp [alu, aluV, *])
  · have me := mod_eq (b := b) ha
    simp only [go_sem]
    repeat' (first | (refine gD_dec (fun hg => ?_) (fun hg => ?_) <;> simp only [go_sem,hg,hb,bAnd63,h64,hmin,IntKind.bits]) | (refine condD_dec (fun hg => ?_) (fun hg => ?_) <;> simp only [go_sem,hg,hb,bAnd63,h64,hmin,IntKind.bits]))
    all_goals first
      | (have h1 : b = -1 := Decidable.of_not_not (by assumption)
         subst h1
         rw [hm1] at me
         refine fin _ _ _ ?_
         first | (simp only [alu, aluV, if_pos, if_neg, reduceIte, *]; simp [*]; done) | (simp [alu, aluV, hm1, *]; done))
      | (refine fin _ _ _ ?_
         simp [alu, aluV, *])
theorem divide_c (op a b : Int) (ha : I64 a) (ho : op = 8 ∨ op = 9) : ACalls Tryz.prog 114 [iv op, iv a, iv b] [] (fun o H => o = .ret (aluV (alu op a b)) ∧ H = []) := by
  refine ACalls.up ?_
  refine ACalls.intro (cs := []) (n := 28) Tryz.func114 rfl rfl rfl (by kernel_rfl) rfl ?_
  generalize hpost : (fun (o : Out) (H : Heap) => o = Out.ret (aluV (alu op a b)) ∧ H = []) = post
  have fin : ∀ v ok H, .tuple [iv v, .bool ok] = aluV (alu op a b) → Up 0 post (.ret (.tuple [iv v, .bool ok])) H := fun v ok H e => finv rfl (by rw [← hpost, e]; exact ⟨rfl, rfl⟩) H
  have hm1 : a.tdiv (-1) = 0 - a := by rw [Int.tdiv_neg, Int.tdiv_one]; omega
  have hm2 : a.tmod (-1) = 0 := by rw [Int.tmod_neg, Int.tmod_one]
  rcases Decidable.em (b = 0) with hb | hb
  · subst hb
    simp only [go_sem]
    rcases ho with rfl | rfl <;> exact fin _ _ _ (by simp [alu, aluV])
  · rcases ho with rfl | rfl
    · simp only [go_sem,hb]
      repeat' (first | (refine gD_dec (fun hg => ?_) (fun hg => ?_) <;> simp only [go_sem,hg,hb]) | (refine condD_dec (fun hg => ?_) (fun hg => ?_) <;> simp only [go_sem,hg,hb]))
      all_goals first
        | exact fin _ _ _ (by simp [alu, aluV, *])
        | (have h1 : b = -1 := by assumption
           subst h1
           exact fin _ _ _ (by simp [alu, aluV, *]))
    · simp only [go_sem,hb]
      repeat' (first | (refine gD_dec (fun hg => ?_) (fun hg => ?_) <;> simp only [go_sem,hg,hb]) | (refine condD_dec (fun hg => ?_) (fun hg => ?_) <;> simp only [go_sem,hg,hb]))
      all_goals first
        | exact fin _ _ _ (by simp [alu, aluV, *])
        | (have h1 : b = -1 := by assumption
           subst h1
           exact fin _ _ _ (by simp [alu, aluV, *]))
theorem shl_eq (a : Int) (n : Nat) : iw .i64 (iw .u64 (iw .u64 a * 2 ^ n)) = iw .i64 (a * 2 ^ n) := by
  rw [iw_u64]
  exact iw_congr (by rw [Int.mul_emod, iwu64, Int.emod_emod_of_dvd _ (by decide), ← Int.mul_emod])
theorem ralu_c (op a b : Int) (ha : I64 a) : ACalls Tryz.prog 89 [iv op, iv a, iv b] [] (fun o H => o = .ret (aluV (alu op a b)) ∧ H = []) := by
  refine ACalls.up ?_
  refine ACalls.intro (cs := []) (n := 69) Tryz.func89 rfl rfl rfl (by kernel_rfl) rfl ?_
  generalize hpost : (fun (o : Out) (H : Heap) => o = Out.ret (aluV (alu op a b)) ∧ H = []) = post
  have fin : ∀ v ok H, .tuple [iv v, .bool ok] = aluV (alu op a b) → Up 0 post (.ret (.tuple [iv v, .bool ok])) H := fun v ok H e => finv rfl (by rw [← hpost, e]; exact ⟨rfl, rfl⟩) H
  have h64 : 0 ≤ b % 64 := by omega
  have hmin : min (b % 64).toNat 64 = (b % 64).toNat := Nat.min_eq_left (by omega)
  simp only [go_sem,bAnd63u]
  repeat' (first | (refine gD_dec (fun hg => ?_) (fun hg => ?_) <;> simp only [go_sem,hg,bAnd63u,h64,hmin,IntKind.bits,shl_eq,aluV]) | (refine condD_dec (fun hg => ?_) (fun hg => ?_) <;> simp only [go_sem,hg,bAnd63u,h64,hmin,IntKind.bits,shl_eq,aluV]) | (refine rK_use (enters_of Tryz.func114 rfl (by decide)) (ACalls.pure_use (divide_c 8 a b ha (.inl rfl)) rfl rfl) ?_; simp only [go_sem,bAnd63u,h64,hmin,IntKind.bits,shl_eq,aluV]) | (refine rK_use (enters_of Tryz.func114 rfl (by decide)) (ACalls.pure_use (divide_c 9 a b ha (.inr rfl)) rfl rfl) ?_; simp only [go_sem,bAnd63u,h64,hmin,IntKind.bits,shl_eq,aluV]) | (refine gD_bool (fun hg => ?_) (fun hg => ?_) <;> simp only [go_sem,hg,bAnd63u,h64,hmin,IntKind.bits,shl_eq,aluV]) | (refine condD_bool (fun hg => ?_) (fun hg => ?_) <;> simp only [go_sem,hg,bAnd63u,h64,hmin,IntKind.bits,shl_eq,aluV]))
  all_goals exact fin _ _ _ (by simp [alu, aluV, *])
def isAlu (op : Int) : Bool := decide (5 ≤ op) && decide (op ≤ 15)
theorem isAlu_c (op : Int) : ACalls Tryz.prog 88 [iv op] [] (fun o H => o = .ret (.bool (isAlu op)) ∧ H = []) := by
  refine ACalls.up ?_
  refine ACalls.intro (cs := []) (n := 9) Tryz.func88 rfl rfl rfl (by kernel_rfl) rfl ?_
  generalize hpost : (fun (o : Out) (H : Heap) => o = Out.ret (.bool (isAlu op)) ∧ H = []) = post
  have fin : ∀ b H, b = isAlu op → Up 0 post (.ret (.bool b)) H := fun n H e => finv rfl (by rw [← hpost, e]; exact ⟨rfl, rfl⟩) H
  simp only [go_sem]
  repeat' (first | (refine gD_dec (fun hg => ?_) (fun hg => ?_) <;> simp only [go_sem,hg]) | (refine condD_dec (fun hg => ?_) (fun hg => ?_) <;> simp only [go_sem,hg]))
  all_goals exact fin _ _ (by simp [isAlu, *])
end Go.Proofs.YtfiflailjbmlpaaGreatDoor
set_option maxRecDepth 100000
set_option linter.unusedVariables false
set_option linter.unusedSimpArgs false
namespace Go.Proofs.YtfiflailjbmlpaaGreatDoor
open Go.AM
structure Rg where
  r0 : Int
  r1 : Int
  r2 : Int
  r3 : Int
  r4 : Int
  r5 : Int
  r6 : Int
  r7 : Int
  pc : Int
def Rg.cells (r : Rg) : List AV := [iv r.r0, iv r.r1, iv r.r2, iv r.r3, iv r.r4, iv r.r5, iv r.r6, iv r.r7, iv r.pc]
def Rg.av (r : Rg) : AV := .agg r.cells
def Rg.list (r : Rg) : List Int := [r.r0, r.r1, r.r2, r.r3, r.r4, r.r5, r.r6, r.r7]
def Rg.get (r : Rg) (i : Int) : Int := (r.list[i.toNat]?).getD 0
def Rg.set (r : Rg) (i v : Int) : Rg :=
  ⟨if i = 0 then v else r.r0, if i = 1 then v else r.r1, if i = 2 then v else r.r2, if i = 3 then v else r.r3, if i = 4 then v else r.r4, if i = 5 then v else r.r5, if i = 6 then v else r.r6, if i = 7 then v else r.r7, r.pc⟩
structure Rg.wf (r : Rg) : Prop where
  reg : ∀ x ∈ r.list, I64 x
  pc : I64 r.pc
theorem Rg.wf.get {r : Rg} (h : r.wf) (i : Int) : I64 (r.get i) := by
  unfold Rg.get
  cases hi : r.list[i.toNat]? with
  | none => simp [I64]
  | some x => exact h.reg x (List.mem_of_getElem? hi)
theorem cases8 {n : Int} (h0 : 0 ≤ n) (h7 : n ≤ 7) : n = 0 ∨ n = 1 ∨ n = 2 ∨ n = 3 ∨ n = 4 ∨ n = 5 ∨ n = 6 ∨ n = 7 := by omega
theorem Rg.at (r : Rg) {n : Int} (h0 : 0 ≤ n) (h7 : n ≤ 7) : [iv r.r0, iv r.r1, iv r.r2, iv r.r3, iv r.r4, iv r.r5, iv r.r6, iv r.r7, iv r.pc][n.toNat]? = some (iv (r.get n)) := by
  rcases cases8 h0 h7 with rfl | rfl | rfl | rfl | rfl | rfl | rfl | rfl <;> rfl
def taken (x : Ins) (r : Rg) : Bool :=
  if x.op = 21 then decide (r.get x.a = r.get x.b) else if x.op = 22 then !decide (r.get x.a = r.get x.b) else if x.op = 23 then decide (r.get x.a < r.get x.b) else if x.op = 24 then decide (r.get x.b ≤ r.get x.a)
  else decide (25 ≤ x.op) && decide (x.op ≤ 29)
theorem taken_c (x : Ins) (hx : x.ok) (r : Rg) : ACalls Tryz.prog 140 [x.av, r.av] [] (fun o H => o = .ret (.bool (taken x r)) ∧ H = []) := by
  refine ACalls.up ?_
  refine ACalls.intro (cs := []) (n := 47) Tryz.func140 rfl rfl rfl (by kernel_rfl) rfl ?_
  generalize hpost : (fun (o : Out) (H : Heap) => o = Out.ret (.bool (taken x r)) ∧ H = []) = post
  have fin : ∀ b H, b = taken x r → Up 0 post (.ret (.bool b)) H := fun n H e => finv rfl (by rw [← hpost, e]; exact ⟨rfl, rfl⟩) H
  have ha : 0 ≤ x.a ∧ x.a < 8 := ⟨hx.a0, by have := hx.a7; omega⟩
  have hb : 0 ≤ x.b ∧ x.b < 8 := ⟨hx.b0, by have := hx.b7; omega⟩
  have ha' := r.at hx.a0 hx.a7
  have hb' := r.at hx.b0 hx.b7
  simp only [go_sem,Ins.av,Ins.cells,Rg.av,Rg.cells]
  refine draw [.qu 0 0, .qu 0 0, .qu 0 0, .qu 0 0, .qu 0 0, .qu 0 0, .qu 0 0, .qu 0 0, .qu 0 0, .qu 0 0, .qu 0 0, .qu 0 0] (by kernel_rfl) (by kernel_rfl) ?_
  simp only [go_sem,Ins.cells,Rg.cells,ha,hb,ha',hb']
  repeat' (first | (refine gD_dec (fun hg => ?_) (fun hg => ?_) <;> simp only [go_sem,hg]) | (refine condD_dec (fun hg => ?_) (fun hg => ?_) <;> simp only [go_sem,hg]))
  all_goals first
    | (refine fin _ _ ?_
       simp [taken, *]
       done)
    | (refine fin _ _ ?_
       have : ¬ (25 ≤ x.op ∧ x.op ≤ 29) := by omega
       simp [taken, *]
       omega)
structure Acc where
  pos : Int
  size : Int
  write : Bool
def Acc.row (a : Acc) : List AV := [iv a.pos, iv a.size, .bool a.write]
theorem Acc.row_lt (l : List Acc) : ∀ row ∈ l.map Acc.row, ltL 0 row = true := rows_lt (fun _ => rfl) l
def foot (x : Ins) (r : Rg) : List Acc :=
  if x.op = 17 then [⟨iw .i64 (r.get x.b + x.imm), 1, false⟩] else if x.op = 18 then [⟨iw .i64 (r.get x.b + x.imm), 8, false⟩]
  else if x.op = 19 then [⟨iw .i64 (r.get x.b + x.imm), 1, true⟩] else if x.op = 20 then [⟨iw .i64 (r.get x.b + x.imm), 8, true⟩]
  else if x.op = 27 ∨ x.op = 28 ∨ x.op = 30 then [⟨iw .i64 (r.r7 - 8), 8, true⟩]
  else if x.op = 29 ∨ x.op = 31 then [⟨r.r7, 8, false⟩]
  else if x.op = 34 then [⟨iw .i64 (r.get x.b + x.imm), 8, false⟩, ⟨iw .i64 (r.get x.b + x.imm), 8, true⟩]
  else []
theorem foot_len (x : Ins) (r : Rg) : (foot x r).length ≤ 2 := by unfold foot; repeat' split
                                                                  all_goals simp
theorem up_list {α : Type} {post : CQ} {H : Heap} (f : α → List AV) (sz : Nat) (l : List α) (r : Nat) (n : Nat) (cap : Option Nat) (hr : H[r]? = some (.rows sz (l.map f))) (hn : n = l.length) (hp : ∀ a, ltL 0 (f a) = true) (h : post (.ret (.view false sz (l.map f))) []) : Up 0 post (.ret (.sl r 0 n cap)) H := by
  subst hn
  have e4 : (l.map f).take l.length = l.map f := List.take_of_length_le (by simp)
  refine up_one r sz (l.map f) hr (rows_lt hp l) (by simp [Out.fzOk, AV.fzOk]) ?_ ?_
  · simp [Out.fz, AV.fz, Out.lt, AV.lt]
  · simpa [Out.fz, AV.fz, e4] using h
theorem up_nil {post : CQ} {H : Heap} (f : Bool) (z sz : Nat) (h : post (.ret (.view false sz [])) []) : Up 0 post (.ret (.view f z [])) H :=
  .le (.ret (.nil f false z sz (by simp))) (LeH.refl _) (finv rfl h _)
theorem footprint_c (x : Ins) (hx : x.ok) (r : Rg) : ACalls Tryz.prog 143 [x.av, r.av] [] (fun o H => o = .ret (.view false 3 ((foot x r).map Acc.row)) ∧ H = []) := by
  refine ACalls.up ?_
  refine ACalls.intro (cs := []) (n := 61) Tryz.func143 rfl rfl rfl (by kernel_rfl) rfl ?_
  generalize hpost : (fun (o : Out) (H : Heap) => o = Out.ret (.view false 3 ((foot x r).map Acc.row)) ∧ H = []) = post
  have fin : ∀ l H k n cap, l = foot x r → H[k]? = some (.rows 3 (l.map Acc.row)) → n = l.length → Up 0 post (.ret (.sl k 0 n cap)) H := fun l H k n cap e h hn => up_list Acc.row 3 l k n cap h hn (fun _ => rfl) (by rw [← hpost, e]; exact ⟨rfl, rfl⟩)
  have fin0 : ∀ f z H, foot x r = [] → Up 0 post (.ret (.view f z [])) H := fun f z H e => up_nil f z 3 (by rw [← hpost, e]; exact ⟨rfl, rfl⟩)
  have hb : 0 ≤ x.b ∧ x.b < 8 := ⟨hx.b0, by have := hx.b7; omega⟩
  have hb' := r.at hx.b0 hx.b7
  simp only [go_sem,Ins.av,Ins.cells,Rg.av,Rg.cells]
  refine draw [.qu 0 0, .qu 0 0, .qu 0 0, .qu 0 0, .qu 0 0, .qu 0 0, .qu 0 0, .qu 0 0, .qu 0 0, .qu 0 0, .qu 0 0, .qu 0 0, .qu 0 0] (by kernel_rfl) (by kernel_rfl) ?_
  simp only [go_sem,Ins.cells,Rg.cells,hb,hb']
  repeat' (first | (refine gD_dec (fun hg => ?_) (fun hg => ?_) <;> simp only [go_sem,hg]) | (refine condD_dec (fun hg => ?_) (fun hg => ?_) <;> simp only [go_sem,hg]))
  all_goals first
    | (refine fin (foot x r) _ _ _ _ rfl ?_ ?_ <;> simp [foot, Acc.row, *]
       done)
    | (refine fin0 _ _ _ ?_
       simp [foot, *])
theorem swap_imm {x : Ins} (hx : x.ok) (h : x.op = 34) : x.imm = 0 := by
  have := hx.im
  rw [h, show kform 34 = 1 from rfl] at this
  simpa [fits, bytesOf] using this
theorem rfootprint_c (x : Ins) (hx : x.ok) (r : Rg) (hr : r.wf) : ACalls Tryz.prog 86 [x.av, r.av] [] (fun o H => o = .ret (.view false 3 ((foot x r).map Acc.row)) ∧ H = []) := by
  refine ACalls.up ?_
  refine ACalls.intro (cs := []) (n := 88) Tryz.func86 rfl rfl rfl (by kernel_rfl) rfl ?_
  generalize hpost : (fun (o : Out) (H : Heap) => o = Out.ret (.view false 3 ((foot x r).map Acc.row)) ∧ H = []) = post
  have fin : ∀ l H k n cap, l = foot x r → H[k]? = some (.rows 3 (l.map Acc.row)) → n = l.length → Up 0 post (.ret (.sl k 0 n cap)) H := fun l H k n cap e h hn => up_list Acc.row 3 l k n cap h hn (fun _ => rfl) (by rw [← hpost, e]; exact ⟨rfl, rfl⟩)
  have fin0 : ∀ f z H, foot x r = [] → Up 0 post (.ret (.view f z [])) H := fun f z H e => up_nil f z 3 (by rw [← hpost, e]; exact ⟨rfl, rfl⟩)
  have hb : 0 ≤ x.b ∧ x.b < 8 := ⟨hx.b0, by have := hx.b7; omega⟩
  have hb' := r.at hx.b0 hx.b7
  simp only [go_sem,Ins.av,Ins.cells,Rg.av,Rg.cells]
  have e0 := (hr.get x.b).iw
  rcases Decidable.em (x.op = 17) with h | h17
  · simp only [go_sem,h]
    refine draw [.qu 0 0, .qu 0 0, .qu 0 0, .qu 0 0, .qu 0 0, .qu 0 0, .qu 0 0, .qu 0 0, .qu 0 0, .mn 0, .qu 1 1] (by kernel_rfl) (by kernel_rfl) ?_
    simp only [go_sem,h,Ins.cells,Rg.cells,hb,hb']
    refine fin (foot x r) _ _ _ _ rfl ?_ ?_ <;> simp [foot, Acc.row, h]
  rcases Decidable.em (x.op = 18) with h | h18
  · simp only [go_sem,h17,h]
    refine draw [.qu 0 0, .qu 0 0, .qu 0 0, .qu 0 0, .qu 0 0, .qu 0 0, .qu 0 0, .qu 0 0, .qu 0 0, .mn 0, .qu 1 1] (by kernel_rfl) (by kernel_rfl) ?_
    simp only [go_sem,h,Ins.cells,Rg.cells,hb,hb']
    refine fin (foot x r) _ _ _ _ rfl ?_ ?_ <;> simp [foot, Acc.row, h]
  rcases Decidable.em (x.op = 19) with h | h19
  · simp only [go_sem,h17,h18,h]
    refine draw [.qu 0 0, .qu 0 0, .qu 0 0, .qu 0 0, .qu 0 0, .qu 0 0, .qu 0 0, .qu 0 0, .qu 0 0, .mn 0, .qu 1 1] (by kernel_rfl) (by kernel_rfl) ?_
    simp only [go_sem,h,Ins.cells,Rg.cells,hb,hb']
    refine fin (foot x r) _ _ _ _ rfl ?_ ?_ <;> simp [foot, Acc.row, h]
  rcases Decidable.em (x.op = 20) with h | h20
  · simp only [go_sem,h17,h18,h19,h]
    refine draw [.qu 0 0, .qu 0 0, .qu 0 0, .qu 0 0, .qu 0 0, .qu 0 0, .qu 0 0, .qu 0 0, .qu 0 0, .mn 0, .qu 1 1] (by kernel_rfl) (by kernel_rfl) ?_
    simp only [go_sem,h,Ins.cells,Rg.cells,hb,hb']
    refine fin (foot x r) _ _ _ _ rfl ?_ ?_ <;> simp [foot, Acc.row, h]
  rcases Decidable.em (x.op = 34) with h | h34
  · have hi := swap_imm hx h
    simp only [go_sem,h17,h18,h19,h20,h]
    refine draw [.qu 0 0, .qu 0 0, .qu 0 0, .qu 0 0, .qu 0 0, .qu 0 0, .qu 0 0, .qu 0 0, .qu 0 0, .qu 0 0, .qu 0 0, .qu 0 0, .mn 0, .qu 1 1] (by kernel_rfl) (by kernel_rfl) ?_
    simp only [go_sem,Ins.cells,Rg.cells,hb,hb']
    refine fin (foot x r) _ _ _ _ rfl ?_ ?_ <;> simp [foot, Acc.row, h, hi, e0]
  · simp only [go_sem,h17,h18,h19,h20]
    repeat' (first | (refine gD_dec (fun hg => ?_) (fun hg => ?_) <;> simp only [go_sem,hg,h34]) | (refine condD_dec (fun hg => ?_) (fun hg => ?_) <;> simp only [go_sem,hg,h34]))
    all_goals first
      | (refine fin (foot x r) _ _ _ _ rfl ?_ ?_ <;> simp [foot, Acc.row, *]
         done)
      | (refine fin0 _ _ _ ?_
         simp [foot, *])
theorem holds_c (x : Ins) (hx : x.ok) (r : Rg) : ACalls Tryz.prog 91 [x.av, r.av] [] (fun o H => o = .ret (.bool (taken x r)) ∧ H = []) := by
  refine ACalls.up ?_
  refine ACalls.intro (cs := []) (n := 65) Tryz.func91 rfl rfl rfl (by kernel_rfl) rfl ?_
  generalize hpost : (fun (o : Out) (H : Heap) => o = Out.ret (.bool (taken x r)) ∧ H = []) = post
  have fin : ∀ b H, b = taken x r → Up 0 post (.ret (.bool b)) H := fun n H e => finv rfl (by rw [← hpost, e]; exact ⟨rfl, rfl⟩) H
  have ha : 0 ≤ x.a ∧ x.a < 8 := ⟨hx.a0, by have := hx.a7; omega⟩
  have hb : 0 ≤ x.b ∧ x.b < 8 := ⟨hx.b0, by have := hx.b7; omega⟩
  have ha' := r.at hx.a0 hx.a7
  have hb' := r.at hx.b0 hx.b7
  simp only [go_sem,Ins.av,Ins.cells,Rg.av,Rg.cells]
  rcases Decidable.em (x.op = 21) with h | h21
  · simp only [go_sem,h]
    refine draw [.qu 0 0, .qu 0 0, .qu 0 0, .qu 0 0, .qu 0 0, .qu 0 0, .qu 0 0, .qu 0 0, .qu 0 0, .qu 0 0, .qu 0 0, .qu 0 0] (by kernel_rfl) (by kernel_rfl) ?_
    simp only [go_sem,h,Ins.cells,Rg.cells,ha,hb,ha',hb']
    exact fin _ _ (by simp [taken, h])
  rcases Decidable.em (x.op = 22) with h | h22
  · simp only [go_sem,h21,h]
    refine draw [.qu 0 0, .qu 0 0, .qu 0 0, .qu 0 0, .qu 0 0, .qu 0 0, .qu 0 0, .qu 0 0, .qu 0 0, .qu 0 0, .qu 0 0, .qu 0 0] (by kernel_rfl) (by kernel_rfl) ?_
    simp only [go_sem,h,Ins.cells,Rg.cells,ha,hb,ha',hb']
    exact fin _ _ (by simp [taken, h])
  rcases Decidable.em (x.op = 23) with h | h23
  · simp only [go_sem,h21,h22,h]
    refine draw [.qu 0 0, .qu 0 0, .qu 0 0, .qu 0 0, .qu 0 0, .qu 0 0, .qu 0 0, .qu 0 0, .qu 0 0, .qu 0 0, .qu 0 0, .qu 0 0] (by kernel_rfl) (by kernel_rfl) ?_
    simp only [go_sem,h,Ins.cells,Rg.cells,ha,hb,ha',hb']
    exact fin _ _ (by simp [taken, h])
  rcases Decidable.em (x.op = 24) with h | h24
  · simp only [go_sem,h21,h22,h23,h]
    refine draw [.qu 0 0, .qu 0 0, .qu 0 0, .qu 0 0, .qu 0 0, .qu 0 0, .qu 0 0, .qu 0 0, .qu 0 0, .qu 0 0, .qu 0 0, .qu 0 0] (by kernel_rfl) (by kernel_rfl) ?_
    simp only [go_sem,h,Ins.cells,Rg.cells,ha,hb,ha',hb']
    exact fin _ _ (by simp [taken, h])
  · repeat' (first | (refine gD_dec (fun hg => ?_) (fun hg => ?_) <;> simp only [go_sem,hg,h21,h22,h23,h24]) | (refine condD_dec (fun hg => ?_) (fun hg => ?_) <;> simp only [go_sem,hg,h21,h22,h23,h24]))
    all_goals first
      | (refine fin _ _ ?_
         simp [taken, *]
         done)
      | (refine fin _ _ ?_
         have : ¬ (25 ≤ x.op ∧ x.op ≤ 29) := by omega
         simp [taken, *]
         omega)
end Go.Proofs.YtfiflailjbmlpaaGreatDoor
set_option maxRecDepth 100000
set_option linter.unusedVariables false
set_option linter.unusedSimpArgs false
namespace Go.Proofs.YtfiflailjbmlpaaGreatDoor
open Go.AM
structure Pr where
  rg : Rg
  x : Ins
  old : Rg
  s : Sp
  next : Int
  pos : Int
  tk : Int
  tn : Int
def Pr.row (p : Pr) (d : AV) : List AV :=
  [iv p.rg.r0, iv p.rg.r1, iv p.rg.r2, iv p.rg.r3, iv p.rg.r4, iv p.rg.r5, iv p.rg.r6, iv p.rg.r7, iv p.rg.pc, iv p.x.op, iv p.x.a, iv p.x.b, iv p.x.imm,
   iv p.old.r0, iv p.old.r1, iv p.old.r2, iv p.old.r3, iv p.old.r4, iv p.old.r5, iv p.old.r6, iv p.old.r7, iv p.old.pc, .view false 1 (p.s.perm.map r1), .view false 1 (p.s.byt.map rb), iv p.next, iv p.pos, d, iv p.tk, iv p.tn, iv 0, iv 0]
abbrev dnil : AV := .view true 0 []
abbrev dby (l : List UInt8) : AV := .view false 1 (l.map rb)
theorem Pr.row_lt (p : Pr) {d : AV} (hd : d.lt 0 = true) (m : Nat) : (Blk.rows 31 [p.row d]).lt m := fun row hr => by
  simp at hr; subst hr
  refine ltL_le (Nat.zero_le m) ?_
  simp [Pr.row, ltL, AV.lt, hd]
theorem fink {post : CQ} {v : AV} {b : Blk} {R : Heap} (hv : v.lt 1 = true) (hb : b.lt 1) (h : post (.ret v) [b]) : Up 1 post (.ret v) (b :: R) :=
  .gc 1 (Nat.le_refl _) (by simp) hv (by simpa using hb) (.done (by simpa using h))
theorem finkp {post : CQ} {v : AV} {b : Blk} {R : Heap} (hv : v.lt 1 = true) (hb : b.lt 1) (h : post (.pan v) [b]) : Up 1 post (.pan v) (b :: R) :=
  .gc 1 (Nat.le_refl _) (by simp) hv (by simpa using hb) (.done (by simpa using h))
abbrev sel8 (n a0 a1 a2 a3 a4 a5 a6 a7 : Int) : Int := ([a0, a1, a2, a3, a4, a5, a6, a7][n.toNat]?).getD 0
theorem rd13 {n : Int} (h0 : 0 ≤ n) (h7 : n < 8) {c0 c1 c2 c3 c4 c5 c6 c7 c8 c9 c10 c11 c12 t0 t1 t2 t3 t4 t5 t6 t7 t8 t9 : AV} {a0 a1 a2 a3 a4 a5 a6 a7 : Int} :
    [c0, c1, c2, c3, c4, c5, c6, c7, c8, c9, c10, c11, c12, iv a0, iv a1, iv a2, iv a3, iv a4, iv a5, iv a6, iv a7, t0, t1, t2, t3, t4, t5, t6, t7, t8, t9][13 + n.toNat]? = some (iv (sel8 n a0 a1 a2 a3 a4 a5 a6 a7)) := by
  rcases cases8 h0 (by omega) with rfl | rfl | rfl | rfl | rfl | rfl | rfl | rfl <;> rfl
theorem wr0 {n v : Int} (h0 : 0 ≤ n) (h7 : n < 8) {a0 a1 a2 a3 a4 a5 a6 a7 : Int} {l : List AV} :
    List.take n.toNat (iv a0 :: iv a1 :: iv a2 :: iv a3 :: iv a4 :: iv a5 :: iv a6 :: iv a7 :: l) ++ (iv v :: List.drop n.toNat (iv a1 :: iv a2 :: iv a3 :: iv a4 :: iv a5 :: iv a6 :: iv a7 :: l)) =
      iv (if n = 0 then v else a0) :: iv (if n = 1 then v else a1) :: iv (if n = 2 then v else a2) :: iv (if n = 3 then v else a3) :: iv (if n = 4 then v else a4) :: iv (if n = 5 then v else a5) :: iv (if n = 6 then v else a6) :: iv (if n = 7 then v else a7) :: l := by
  rcases cases8 h0 (by omega) with rfl | rfl | rfl | rfl | rfl | rfl | rfl | rfl <;> rfl
theorem a_c (p : Pr) (hx : p.x.ok) (d : AV) (hd : d.lt 0 = true) : ACalls Tryz.prog 138 [.ptr 0 0 0] [.rows 31 [p.row d]] (fun o H => o = .ret (iv (p.old.get p.x.a)) ∧ H = [.rows 31 [p.row d]]) := by
  refine ACalls.up ?_
  refine ACalls.intro (cs := []) (n := 14) Tryz.func138 rfl rfl rfl (by kernel_rfl) rfl ?_
  generalize hpost : (fun (o : Out) (H : Heap) => o = Out.ret (iv (p.old.get p.x.a)) ∧ H = [.rows 31 [p.row d]]) = post
  have ha : 0 ≤ p.x.a ∧ p.x.a < 8 := ⟨hx.a0, by have := hx.a7; omega⟩
  simp only [go_sem,Pr.row]
  refine draw [.qu 0 0, .qu 0 0, .qu 0 0, .qu 0 0, .qu 0 0, .qu 0 0, .qu 0 0, .qu 0 0, .qu 0 0, .qu 0 0, .qu 0 0, .qu 0 0] (by kernel_rfl) (by kernel_rfl) ?_
  simp only [go_sem,ha,rd13 ha.1 ha.2]
  exact fink rfl (p.row_lt hd 1) (by rw [← hpost]; exact ⟨rfl, rfl⟩)
theorem b_c (p : Pr) (hx : p.x.ok) (d : AV) (hd : d.lt 0 = true) : ACalls Tryz.prog 139 [.ptr 0 0 0] [.rows 31 [p.row d]] (fun o H => o = .ret (iv (p.old.get p.x.b)) ∧ H = [.rows 31 [p.row d]]) := by
  refine ACalls.up ?_
  refine ACalls.intro (cs := []) (n := 14) Tryz.func139 rfl rfl rfl (by kernel_rfl) rfl ?_
  generalize hpost : (fun (o : Out) (H : Heap) => o = Out.ret (iv (p.old.get p.x.b)) ∧ H = [.rows 31 [p.row d]]) = post
  have ha : 0 ≤ p.x.b ∧ p.x.b < 8 := ⟨hx.b0, by have := hx.b7; omega⟩
  simp only [go_sem,Pr.row]
  refine draw [.qu 0 0, .qu 0 0, .qu 0 0, .qu 0 0, .qu 0 0, .qu 0 0, .qu 0 0, .qu 0 0, .qu 0 0, .qu 0 0, .qu 0 0, .qu 0 0] (by kernel_rfl) (by kernel_rfl) ?_
  simp only [go_sem,ha,rd13 ha.1 ha.2]
  exact fink rfl (p.row_lt hd 1) (by rw [← hpost]; exact ⟨rfl, rfl⟩)
def rdL (b : List UInt8) : Int := b.foldr (fun c v => bOr .i64 (iw .i64 (v * 256)) (c.toNat : Int)) 0
theorem rdL_at {b : List UInt8} {k : Nat} {c : UInt8} (h : b[k]? = some c) : rdL (b.drop k) = bOr .i64 (iw .i64 (rdL (b.drop (k + 1)) * 256)) (c.toNat : Int) := by
  rw [drop_at h]; rfl
theorem load_c (p : Pr) (hs : p.s.ok) (d : AV) (hd : d.lt 0 = true) (pos : Int) (hpos : I64 pos) (n : Nat) (hn : n ≤ 8) (h0 : n ≠ 0) (hf : (p.s.flt pos 0 n 0).kind = 0) :
    ACalls Tryz.prog 150 [.ptr 0 0 0, iv pos, iv n] [.rows 31 [p.row d]] (fun o H => o = .ret (iv (rdL (p.s.sub pos n))) ∧ H = [.rows 31 [p.row d]]) := by
  refine ACalls.up ?_
  refine ACalls.intro (cs := []) (n := 39) Tryz.func150 rfl rfl rfl (by kernel_rfl) rfl ?_
  generalize hpost : (fun (o : Out) (H : Heap) => o = Out.ret (iv (rdL (p.s.sub pos n))) ∧ H = [.rows 31 [p.row d]]) = post
  simp only [go_sem,Pr.row]
  refine rK_use (enters_of Tryz.func165 rfl (by decide)) (ACalls.pure_use (peek_c p.s hs pos hpos n (by omega) h0 hf) rfl rfl) ?_
  generalize hb : p.s.sub pos n = b
  have hlb : b.length ≤ 8 := by rw [← hb, Sp.sub]; simp; omega
  have e0 : iw .i64 ((b.length : Int) - 1) = (b.length : Int) - 1 := iw64 (by omega) (by omega)
  simp only [go_sem,List.length_map,e0]
  refine loop_fam (fun k : Nat => (((Ch.nil.put 7 (.view false 1 (b.map rb))).put 10 (iv (rdL (b.drop k)))).put 11 (iv ((k : Int) - 1)))) (fun _ => [.rows 31 [p.row d], .rows 2 [[iv 0, iv 0]]]) (fun k => k) (fun k => k ≤ b.length) b.length (by kernel_rfl) (Nat.le_refl _)
    (Wk.slots' rfl (by simp [wkS, Ch.get, rdL])) ?_
  rintro k hk K hK
  simp only [go_sem]
  refine condD_dec (fun hc => ?_) (fun hc => ?_)
  · obtain ⟨m, rfl⟩ : ∃ m, k = m + 1 := ⟨k - 1, by omega⟩
    obtain ⟨c, hc'⟩ := at_lt (l := b) (i := m) (by omega)
    have e1 : (((m + 1 : Nat) : Int) - 1) = (m : Int) := by omega
    have e2 : (m : Int) < b.length := by omega
    have e3 : iw .i64 ((m : Int) - 1) = (m : Int) - 1 := iw64 (by omega) (by omega)
    rw [e1]
    simp only [go_sem,e2,e3,List.length_map,List.getElem?_map,hc',Int.natCast_nonneg,iwb]
    refine hK m _ _ (by omega) (by omega) (Wk.slots' rfl ?_)
    simp [wkS, Ch.get, rdL_at hc']
  · have : k = 0 := by omega
    subst this
    simp only [go_sem]
    exact fink rfl (p.row_lt hd 1) (by rw [← hpost]; exact ⟨by rw [hb], rfl⟩)
def b8 (v : Int) : UInt8 := UInt8.ofNat (v % 256).toNat
theorem iwb8 (v : Int) : iw .u8 v = (b8 v).toNat := by
  have : iw .u8 v = v % 256 := by simp [iw, IntKind.wrap, IntKind.signed, IntKind.bits]
  rw [this, b8, UInt8.toNat_ofNat']
  omega
def stL : Nat → Int → List UInt8
  | 0, _ => []
  | n + 1, v => b8 v :: stL n (v.fdiv 256)
def shr8 : Nat → Int → Int
  | 0, v => v
  | n + 1, v => shr8 n (v.fdiv 256)
theorem shr8_succ : ∀ (n : Nat) (v : Int), shr8 (n + 1) v = (shr8 n v).fdiv 256
  | 0, v => rfl
  | n + 1, v => by rw [shr8, shr8_succ n, shr8]
theorem stL_succ : ∀ (n : Nat) (v : Int), stL (n + 1) v = stL n v ++ [b8 (shr8 n v)]
  | 0, v => rfl
  | n + 1, v => by rw [stL, stL_succ n, stL, shr8]; rfl
theorem stL_len : ∀ (n : Nat) (v : Int), (stL n v).length = n
  | 0, v => rfl
  | n + 1, v => by rw [stL, List.length_cons, stL_len n]
theorem store_c (p : Pr) (pos v : Int) (n : Nat) (hn : n ≤ 8) :
    ACalls Tryz.prog 153 [.ptr 0 0 0, iv pos, iv n, iv v] [.rows 31 [p.row dnil]] (fun o H => o = .ret (.tuple []) ∧ H = [.rows 31 [{ p with pos := pos }.row (dby (stL n v))]]) := by
  refine ACalls.up ?_
  refine ACalls.intro (cs := []) (n := 29) Tryz.func153 rfl rfl rfl (by kernel_rfl) rfl ?_
  generalize hpost : (fun (o : Out) (H : Heap) => o = Out.ret (.tuple []) ∧ H = [.rows 31 [{ p with pos := pos }.row (dby (stL n v))]]) = post
  simp only [go_sem,Pr.row]
  refine loop_fam (fun k : Nat => ((((Ch.nil.put 0 (.ptr 0 0 0)).put 3 (iv (shr8 k v))).put 12 (iv n)).put 13 (iv k))) (fun k => [.rows 31 [{ p with pos := pos }.row (.sl 1 0 k none)], .rows 1 ((stL k v).map rb)]) (fun k => n - k) (fun k => k ≤ n) 0 (by kernel_rfl) (Nat.zero_le _) ?_ ?_
  · refine (Wk.slots (s' := ((((Ch.nil.put 0 (.ptr 0 0 0)).put 3 (iv v)).put 12 (iv n)).put 13 (iv 0))) (by simp [wkS, Ch.get])).trans
      ((Wk.ghost (.rows 1 [])).trans (Wk.leH (.cons (.rows 31 (.cons ?_ .nil)) (LeH.refl _))))
    repeat' (first | exact LeL.nil | refine LeL.cons (.refl _) ?_ | refine LeL.cons (.sl0 0 1 0) ?_)
  rintro k hk K hK
  simp only [go_sem,Pr.row]
  refine condD_dec (fun hc => ?_) (fun hc => ?_)
  · have e1 : iw .i64 ((k : Int) + 1) = ((k + 1 : Nat) : Int) := by rw [iw64] <;> omega
    have hl := stL_len k v
    have e4 : ((stL k v).map rb).take k = (stL k v).map rb := List.take_of_length_le (by simp [hl])
    have e5 : k + 1 ≤ 68719476736 := by omega
    have e6 : k ≤ (stL k v).length := by omega
    simp only [go_sem,Pr.row,e1,e4,e5,e6,hl,List.length_map,iwb8]
    refine hK (k + 1) _ _ (by omega) (by omega) (Wk.pick [0, 3] (by decide) rfl ?_ ?_)
    · simp [Pr.row, Blk.ren, AV.ren, renL, pi, stL_succ]
    · simp [wkP, Ch.get, AV.ren, pi, shr8_succ]
  · have : k = n := by omega
    subst this
    simp only [go_sem]
    have e4 : ((stL k v).map rb).take k = (stL k v).map rb := List.take_of_length_le (by simp [stL_len])
    refine .fz 1 1 ((stL k v).map rb) rfl (rb_pure _) (by simp [Out.fzOk, AV.fzOk, fzOkL]) ?_ (.gc 1 (Nat.le_refl _) (by simp) (by simp [Out.lt, Out.fz, AV.fz, fzL, AV.lt, ltL]) ?_ (.done ?_))
    · simp [Pr.row, Blk.fzOk, fzOkL, AV.fzOk, stL_len]
    · simp [Pr.row, Blk.lt, Blk.fz, AV.fz, AV.lt, ltL]
    · rw [← hpost]
      simp [Pr.row, Out.fz, AV.fz, fzL, Blk.fz, e4]
def Pr.set7 (p : Pr) (v : Int) : Pr := { p with rg := { p.rg with r7 := v } }
theorem push_c (p : Pr) (v : Int) :
    ACalls Tryz.prog 156 [.ptr 0 0 0, iv v] [.rows 31 [p.row dnil]] (fun o H => o = .ret (.tuple []) ∧ H = [.rows 31 [{ p.set7 (iw .i64 (p.old.r7 - 8)) with pos := iw .i64 (p.old.r7 - 8) }.row (dby (stL 8 v))]]) := by
  refine ACalls.up ?_
  refine ACalls.intro (cs := []) (n := 25) Tryz.func156 rfl rfl rfl (by kernel_rfl) rfl ?_
  generalize hpost : (fun (o : Out) (H : Heap) => o = Out.ret (.tuple []) ∧ H = [.rows 31 [{ p.set7 (iw .i64 (p.old.r7 - 8)) with pos := iw .i64 (p.old.r7 - 8) }.row (dby (stL 8 v))]]) = post
  simp only [go_sem,Pr.row]
  refine draw [.qu 0 0, .qu 0 0, .qu 0 0, .qu 0 0, .qu 0 0, .qu 0 0, .qu 0 0, .qu 0 0, .qu 0 0, .qu 0 0, .qu 0 0, .qu 0 0, .mn 0] (by kernel_rfl) (by kernel_rfl) ?_
  simp only [go_sem]
  refine rK_use (enters_of Tryz.func153 rfl (by decide)) (store_c (p.set7 (iw .i64 (p.old.r7 - 8))) (iw .i64 (p.old.r7 - 8)) v 8 (by decide)) ?_
  simp only [go_sem]
  exact fink rfl (Pr.row_lt _ (by simp [AV.lt]) 1) (by rw [← hpost]; exact ⟨rfl, rfl⟩)
end Go.Proofs.YtfiflailjbmlpaaGreatDoor
set_option maxRecDepth 100000
set_option linter.unusedVariables false
set_option linter.unusedSimpArgs false
namespace Go.Proofs.YtfiflailjbmlpaaGreatDoor
open Go.AM
def Pr.setA (p : Pr) (v : Int) : Pr := { p with rg := p.rg.set p.x.a v }
theorem t1_c (p : Pr) (hx : p.x.ok) :
    ACalls Tryz.prog 144 [.ptr 0 0 0] [.rows 31 [p.row dnil]] (fun o H => o = .ret (.tuple []) ∧ H = [.rows 31 [(p).row dnil]]) := by
  refine ACalls.up ?_
  refine ACalls.intro (cs := []) (n := 2) Tryz.func144 rfl rfl rfl (by kernel_rfl) rfl ?_
  generalize hpost : (fun (o : Out) (H : Heap) => o = Out.ret (.tuple []) ∧ H = [.rows 31 [Pr.row (p) dnil]]) = post
  have ha : 0 ≤ p.x.a ∧ p.x.a < 8 := ⟨hx.a0, by have := hx.a7; omega⟩
  have ha' : p.x.a.toNat + 1 ≤ 31 := by omega
  simp only [go_sem]
  exact fink rfl (Pr.row_lt (p) (d := dnil) (by first | rfl | simp [AV.lt]) 1) (by rw [← hpost]; exact ⟨rfl, rfl⟩)
theorem t2_c (p : Pr) (hx : p.x.ok) :
    ACalls Tryz.prog 145 [.ptr 0 0 0] [.rows 31 [p.row dnil]] (fun o H => o = .ret (.tuple []) ∧ H = [.rows 31 [(p.setA (p.old.get p.x.b)).row dnil]]) := by
  refine ACalls.up ?_
  refine ACalls.intro (cs := []) (n := 14) Tryz.func145 rfl rfl rfl (by kernel_rfl) rfl ?_
  generalize hpost : (fun (o : Out) (H : Heap) => o = Out.ret (.tuple []) ∧ H = [.rows 31 [Pr.row (p.setA (p.old.get p.x.b)) dnil]]) = post
  have ha : 0 ≤ p.x.a ∧ p.x.a < 8 := ⟨hx.a0, by have := hx.a7; omega⟩
  have ha' : p.x.a.toNat + 1 ≤ 31 := by omega
  simp only [go_sem]
  refine draw [.qu 0 1, .qu 0 1, .qu 0 1, .qu 0 1, .qu 0 1, .rd 0 1, .qu 0 0, .mn 0, .qu 0 1, .qu 0 1, .qu 0 1, .qu 1 1, .mn 1] (by kernel_rfl) (by kernel_rfl) ?_
  simp only [go_sem,Pr.row]
  refine dM_call (enters_of Tryz.func139 rfl (by decide)) (b_c p hx dnil rfl) ?_
  simp only [go_sem,Pr.row,ha,ha',wr0 ha.1 ha.2]
  exact fink rfl (Pr.row_lt (p.setA (p.old.get p.x.b)) (d := dnil) (by first | rfl | simp [AV.lt]) 1) (by rw [← hpost]; exact ⟨rfl, rfl⟩)
theorem t3_c (p : Pr) (hx : p.x.ok) :
    ACalls Tryz.prog 146 [.ptr 0 0 0] [.rows 31 [p.row dnil]] (fun o H => o = .ret (.tuple []) ∧ H = [.rows 31 [(p.setA p.x.imm).row dnil]]) := by
  refine ACalls.up ?_
  refine ACalls.intro (cs := []) (n := 17) Tryz.func146 rfl rfl rfl (by kernel_rfl) rfl ?_
  generalize hpost : (fun (o : Out) (H : Heap) => o = Out.ret (.tuple []) ∧ H = [.rows 31 [Pr.row (p.setA p.x.imm) dnil]]) = post
  have ha : 0 ≤ p.x.a ∧ p.x.a < 8 := ⟨hx.a0, by have := hx.a7; omega⟩
  have ha' : p.x.a.toNat + 1 ≤ 31 := by omega
  simp only [go_sem]
  refine draw [.qu 0 0, .qu 0 0, .qu 0 0, .qu 0 0, .qu 0 0, .qu 0 0, .qu 0 0, .qu 0 0, .qu 0 0, .qu 0 0, .qu 0 0, .qu 0 0, .qu 0 0, .qu 0 0, .qu 0 0, .mn 0] (by kernel_rfl) (by kernel_rfl) ?_
  simp only [go_sem,Pr.row,ha,ha',wr0 ha.1 ha.2]
  exact fink rfl (Pr.row_lt (p.setA p.x.imm) (d := dnil) (by first | rfl | simp [AV.lt]) 1) (by rw [← hpost]; exact ⟨rfl, rfl⟩)
theorem t4_c (p : Pr) (hx : p.x.ok) :
    ACalls Tryz.prog 147 [.ptr 0 0 0] [.rows 31 [p.row dnil]] (fun o H => o = .ret (.tuple []) ∧ H = [.rows 31 [(p.setA p.x.imm).row dnil]]) := by
  refine ACalls.up ?_
  refine ACalls.intro (cs := []) (n := 17) Tryz.func147 rfl rfl rfl (by kernel_rfl) rfl ?_
  generalize hpost : (fun (o : Out) (H : Heap) => o = Out.ret (.tuple []) ∧ H = [.rows 31 [Pr.row (p.setA p.x.imm) dnil]]) = post
  have ha : 0 ≤ p.x.a ∧ p.x.a < 8 := ⟨hx.a0, by have := hx.a7; omega⟩
  have ha' : p.x.a.toNat + 1 ≤ 31 := by omega
  simp only [go_sem]
  refine draw [.qu 0 0, .qu 0 0, .qu 0 0, .qu 0 0, .qu 0 0, .qu 0 0, .qu 0 0, .qu 0 0, .qu 0 0, .qu 0 0, .qu 0 0, .qu 0 0, .qu 0 0, .qu 0 0, .qu 0 0, .mn 0] (by kernel_rfl) (by kernel_rfl) ?_
  simp only [go_sem,Pr.row,ha,ha',wr0 ha.1 ha.2]
  exact fink rfl (Pr.row_lt (p.setA p.x.imm) (d := dnil) (by first | rfl | simp [AV.lt]) 1) (by rw [← hpost]; exact ⟨rfl, rfl⟩)
theorem t5_c (p : Pr) (hx : p.x.ok) :
    ACalls Tryz.prog 148 [.ptr 0 0 0] [.rows 31 [p.row dnil]] (fun o H => o = .ret (.tuple []) ∧ H = [.rows 31 [(p.setA (iw .i64 (p.old.get p.x.a + p.x.imm))).row dnil]]) := by
  refine ACalls.up ?_
  refine ACalls.intro (cs := []) (n := 20) Tryz.func148 rfl rfl rfl (by kernel_rfl) rfl ?_
  generalize hpost : (fun (o : Out) (H : Heap) => o = Out.ret (.tuple []) ∧ H = [.rows 31 [Pr.row (p.setA (iw .i64 (p.old.get p.x.a + p.x.imm))) dnil]]) = post
  have ha : 0 ≤ p.x.a ∧ p.x.a < 8 := ⟨hx.a0, by have := hx.a7; omega⟩
  have ha' : p.x.a.toNat + 1 ≤ 31 := by omega
  simp only [go_sem]
  refine draw [.qu 0 1, .qu 0 1, .qu 0 1, .qu 0 1, .qu 0 1, .rd 0 1, .qu 0 0, .mn 0, .qu 0 1, .qu 0 1, .qu 0 1, .qu 0 1, .rd 0 1, .qu 1 1, .qu 0 1, .qu 0 1, .qu 0 1, .qu 1 1, .mn 1] (by kernel_rfl) (by kernel_rfl) ?_
  simp only [go_sem,Pr.row]
  refine dM_call (enters_of Tryz.func138 rfl (by decide)) (a_c p hx dnil rfl) ?_
  simp only [go_sem,Pr.row,ha,ha',wr0 ha.1 ha.2]
  exact fink rfl (Pr.row_lt (p.setA (iw .i64 (p.old.get p.x.a + p.x.imm))) (d := dnil) (by first | rfl | simp [AV.lt]) 1) (by rw [← hpost]; exact ⟨rfl, rfl⟩)
theorem t6_c (p : Pr) (hx : p.x.ok) (hs : p.s.ok) (hf : (p.s.flt (iw .i64 (p.old.get p.x.b + p.x.imm)) 0 1 0).kind = 0) :
    ACalls Tryz.prog 149 [.ptr 0 0 0] [.rows 31 [p.row dnil]] (fun o H => o = .ret (.tuple []) ∧ H = [.rows 31 [(p.setA (rdL (p.s.sub (iw .i64 (p.old.get p.x.b + p.x.imm)) 1))).row dnil]]) := by
  refine ACalls.up ?_
  refine ACalls.intro (cs := []) (n := 22) Tryz.func149 rfl rfl rfl (by kernel_rfl) rfl ?_
  generalize hpost : (fun (o : Out) (H : Heap) => o = Out.ret (.tuple []) ∧ H = [.rows 31 [Pr.row (p.setA (rdL (p.s.sub (iw .i64 (p.old.get p.x.b + p.x.imm)) 1))) dnil]]) = post
  have ha : 0 ≤ p.x.a ∧ p.x.a < 8 := ⟨hx.a0, by have := hx.a7; omega⟩
  have ha' : p.x.a.toNat + 1 ≤ 31 := by omega
  simp only [go_sem]
  refine draw [.qu 0 2, .qu 0 2, .qu 0 2, .qu 0 2, .qu 0 2, .rd 0 2, .qu 0 1, .qu 0 0, .mn 0, .qu 0 1, .qu 0 1, .qu 0 1, .qu 0 1, .rd 0 1, .qu 1 1, .mn 1, .qu 0 2, .qu 0 2, .qu 0 2, .qu 2 2, .mn 2] (by kernel_rfl) (by kernel_rfl) ?_
  simp only [go_sem,Pr.row]
  refine dM_call (enters_of Tryz.func139 rfl (by decide)) (b_c p hx dnil rfl) ?_
  simp only [go_sem,Pr.row]
  refine dM_call (enters_of Tryz.func150 rfl (by decide)) (load_c p hs dnil rfl _ (iw_i64 _) 1 (by decide) (by decide) hf) ?_
  simp only [go_sem,Pr.row,ha,ha',wr0 ha.1 ha.2]
  exact fink rfl (Pr.row_lt (p.setA (rdL (p.s.sub (iw .i64 (p.old.get p.x.b + p.x.imm)) 1))) (d := dnil) (by first | rfl | simp [AV.lt]) 1) (by rw [← hpost]; exact ⟨rfl, rfl⟩)
theorem t7_c (p : Pr) (hx : p.x.ok) (hs : p.s.ok) (hf : (p.s.flt (iw .i64 (p.old.get p.x.b + p.x.imm)) 0 8 0).kind = 0) :
    ACalls Tryz.prog 151 [.ptr 0 0 0] [.rows 31 [p.row dnil]] (fun o H => o = .ret (.tuple []) ∧ H = [.rows 31 [(p.setA (rdL (p.s.sub (iw .i64 (p.old.get p.x.b + p.x.imm)) 8))).row dnil]]) := by
  refine ACalls.up ?_
  refine ACalls.intro (cs := []) (n := 22) Tryz.func151 rfl rfl rfl (by kernel_rfl) rfl ?_
  generalize hpost : (fun (o : Out) (H : Heap) => o = Out.ret (.tuple []) ∧ H = [.rows 31 [Pr.row (p.setA (rdL (p.s.sub (iw .i64 (p.old.get p.x.b + p.x.imm)) 8))) dnil]]) = post
  have ha : 0 ≤ p.x.a ∧ p.x.a < 8 := ⟨hx.a0, by have := hx.a7; omega⟩
  have ha' : p.x.a.toNat + 1 ≤ 31 := by omega
  simp only [go_sem]
  refine draw [.qu 0 2, .qu 0 2, .qu 0 2, .qu 0 2, .qu 0 2, .rd 0 2, .qu 0 1, .qu 0 0, .mn 0, .qu 0 1, .qu 0 1, .qu 0 1, .qu 0 1, .rd 0 1, .qu 1 1, .mn 1, .qu 0 2, .qu 0 2, .qu 0 2, .qu 2 2, .mn 2] (by kernel_rfl) (by kernel_rfl) ?_
  simp only [go_sem,Pr.row]
  refine dM_call (enters_of Tryz.func139 rfl (by decide)) (b_c p hx dnil rfl) ?_
  simp only [go_sem,Pr.row]
  refine dM_call (enters_of Tryz.func150 rfl (by decide)) (load_c p hs dnil rfl _ (iw_i64 _) 8 (by decide) (by decide) hf) ?_
  simp only [go_sem,Pr.row,ha,ha',wr0 ha.1 ha.2]
  exact fink rfl (Pr.row_lt (p.setA (rdL (p.s.sub (iw .i64 (p.old.get p.x.b + p.x.imm)) 8))) (d := dnil) (by first | rfl | simp [AV.lt]) 1) (by rw [← hpost]; exact ⟨rfl, rfl⟩)
theorem t8_c (p : Pr) (hx : p.x.ok) :
    ACalls Tryz.prog 152 [.ptr 0 0 0] [.rows 31 [p.row dnil]] (fun o H => o = .ret (.tuple []) ∧ H = [.rows 31 [({ p with pos := (iw .i64 (p.old.get p.x.b + p.x.imm)) }).row (dby (stL 1 (p.old.get p.x.a)))]]) := by
  refine ACalls.up ?_
  refine ACalls.intro (cs := []) (n := 14) Tryz.func152 rfl rfl rfl (by kernel_rfl) rfl ?_
  generalize hpost : (fun (o : Out) (H : Heap) => o = Out.ret (.tuple []) ∧ H = [.rows 31 [Pr.row ({ p with pos := (iw .i64 (p.old.get p.x.b + p.x.imm)) }) (dby (stL 1 (p.old.get p.x.a)))]]) = post
  have ha : 0 ≤ p.x.a ∧ p.x.a < 8 := ⟨hx.a0, by have := hx.a7; omega⟩
  have ha' : p.x.a.toNat + 1 ≤ 31 := by omega
  simp only [go_sem]
  refine draw [.qu 0 2, .qu 0 0, .mn 0, .qu 0 2, .qu 0 2, .qu 0 2, .qu 0 2, .rd 0 2, .qu 1 2, .qu 0 1, .mn 1, .mn 2] (by kernel_rfl) (by kernel_rfl) ?_
  simp only [go_sem,Pr.row]
  refine dM_call (enters_of Tryz.func139 rfl (by decide)) (b_c p hx dnil rfl) ?_
  simp only [go_sem,Pr.row]
  refine dM_call (enters_of Tryz.func138 rfl (by decide)) (a_c p hx dnil rfl) ?_
  simp only [go_sem,Pr.row]
  refine dM_call (enters_of Tryz.func153 rfl (by decide)) (store_c p _ _ 1 (by decide)) ?_
  simp only [go_sem,Pr.row]
  exact fink rfl (Pr.row_lt ({ p with pos := (iw .i64 (p.old.get p.x.b + p.x.imm)) }) (d := (dby (stL 1 (p.old.get p.x.a)))) (by first | rfl | simp [AV.lt]) 1) (by rw [← hpost]; exact ⟨rfl, rfl⟩)
theorem t9_c (p : Pr) (hx : p.x.ok) :
    ACalls Tryz.prog 154 [.ptr 0 0 0] [.rows 31 [p.row dnil]] (fun o H => o = .ret (.tuple []) ∧ H = [.rows 31 [({ p with pos := (iw .i64 (p.old.get p.x.b + p.x.imm)) }).row (dby (stL 8 (p.old.get p.x.a)))]]) := by
  refine ACalls.up ?_
  refine ACalls.intro (cs := []) (n := 14) Tryz.func154 rfl rfl rfl (by kernel_rfl) rfl ?_
  generalize hpost : (fun (o : Out) (H : Heap) => o = Out.ret (.tuple []) ∧ H = [.rows 31 [Pr.row ({ p with pos := (iw .i64 (p.old.get p.x.b + p.x.imm)) }) (dby (stL 8 (p.old.get p.x.a)))]]) = post
  have ha : 0 ≤ p.x.a ∧ p.x.a < 8 := ⟨hx.a0, by have := hx.a7; omega⟩
  have ha' : p.x.a.toNat + 1 ≤ 31 := by omega
  simp only [go_sem]
  refine draw [.qu 0 2, .qu 0 0, .mn 0, .qu 0 2, .qu 0 2, .qu 0 2, .qu 0 2, .rd 0 2, .qu 1 2, .qu 0 1, .mn 1, .mn 2] (by kernel_rfl) (by kernel_rfl) ?_
  simp only [go_sem,Pr.row]
  refine dM_call (enters_of Tryz.func139 rfl (by decide)) (b_c p hx dnil rfl) ?_
  simp only [go_sem,Pr.row]
  refine dM_call (enters_of Tryz.func138 rfl (by decide)) (a_c p hx dnil rfl) ?_
  simp only [go_sem,Pr.row]
  refine dM_call (enters_of Tryz.func153 rfl (by decide)) (store_c p _ _ 8 (by decide)) ?_
  simp only [go_sem,Pr.row]
  exact fink rfl (Pr.row_lt ({ p with pos := (iw .i64 (p.old.get p.x.b + p.x.imm)) }) (d := (dby (stL 8 (p.old.get p.x.a)))) (by first | rfl | simp [AV.lt]) 1) (by rw [← hpost]; exact ⟨rfl, rfl⟩)
theorem t10_c (p : Pr) (hx : p.x.ok) :
    ACalls Tryz.prog 155 [.ptr 0 0 0] [.rows 31 [p.row dnil]] (fun o H => o = .ret (.tuple []) ∧ H = [.rows 31 [({ p.set7 (iw .i64 (p.old.r7 - 8)) with pos := iw .i64 (p.old.r7 - 8), rg := { (p.set7 (iw .i64 (p.old.r7 - 8))).rg with pc := iw .i64 (p.next + p.x.imm) } }).row (dby (stL 8 p.next))]]) := by
  refine ACalls.up ?_
  refine ACalls.intro (cs := []) (n := 22) Tryz.func155 rfl rfl rfl (by kernel_rfl) rfl ?_
  generalize hpost : (fun (o : Out) (H : Heap) => o = Out.ret (.tuple []) ∧ H = [.rows 31 [Pr.row ({ p.set7 (iw .i64 (p.old.r7 - 8)) with pos := iw .i64 (p.old.r7 - 8), rg := { (p.set7 (iw .i64 (p.old.r7 - 8))).rg with pc := iw .i64 (p.next + p.x.imm) } }) (dby (stL 8 p.next))]]) = post
  have ha : 0 ≤ p.x.a ∧ p.x.a < 8 := ⟨hx.a0, by have := hx.a7; omega⟩
  have ha' : p.x.a.toNat + 1 ≤ 31 := by omega
  simp only [go_sem,Pr.row]
  refine rK_use (enters_of Tryz.func156 rfl (by decide)) (push_c p p.next) ?_
  simp only [go_sem]
  refine draw [.qu 0 0, .qu 0 0, .qu 0 0, .qu 0 0, .qu 0 0, .qu 0 0, .qu 0 0, .qu 0 0, .qu 0 0, .qu 0 0, .qu 0 0, .qu 0 0, .qu 0 0, .qu 0 0, .mn 0] (by kernel_rfl) (by kernel_rfl) ?_
  simp only [go_sem,Pr.row,Pr.set7]
  exact fink rfl (Pr.row_lt ({ p.set7 (iw .i64 (p.old.r7 - 8)) with pos := iw .i64 (p.old.r7 - 8), rg := { (p.set7 (iw .i64 (p.old.r7 - 8))).rg with pc := iw .i64 (p.next + p.x.imm) } }) (d := (dby (stL 8 p.next))) (by first | rfl | simp [AV.lt]) 1) (by rw [← hpost]; exact ⟨rfl, rfl⟩)
theorem t11_c (p : Pr) (hx : p.x.ok) :
    ACalls Tryz.prog 157 [.ptr 0 0 0] [.rows 31 [p.row dnil]] (fun o H => o = .ret (.tuple []) ∧ H = [.rows 31 [({ p.set7 (iw .i64 (p.old.r7 - 8)) with pos := iw .i64 (p.old.r7 - 8), rg := { (p.set7 (iw .i64 (p.old.r7 - 8))).rg with pc := p.old.get p.x.a } }).row (dby (stL 8 p.next))]]) := by
  refine ACalls.up ?_
  refine ACalls.intro (cs := []) (n := 14) Tryz.func157 rfl rfl rfl (by kernel_rfl) rfl ?_
  generalize hpost : (fun (o : Out) (H : Heap) => o = Out.ret (.tuple []) ∧ H = [.rows 31 [Pr.row ({ p.set7 (iw .i64 (p.old.r7 - 8)) with pos := iw .i64 (p.old.r7 - 8), rg := { (p.set7 (iw .i64 (p.old.r7 - 8))).rg with pc := p.old.get p.x.a } }) (dby (stL 8 p.next))]]) = post
  have ha : 0 ≤ p.x.a ∧ p.x.a < 8 := ⟨hx.a0, by have := hx.a7; omega⟩
  have ha' : p.x.a.toNat + 1 ≤ 31 := by omega
  simp only [go_sem,Pr.row]
  refine rK_use (enters_of Tryz.func156 rfl (by decide)) (push_c p p.next) ?_
  simp only [go_sem]
  refine rK_use (enters_of Tryz.func138 rfl (by decide)) (a_c ({ p.set7 (iw .i64 (p.old.r7 - 8)) with pos := iw .i64 (p.old.r7 - 8) : Pr }) hx (dby (stL 8 p.next)) (by simp [AV.lt])) ?_
  simp only [go_sem,Pr.row,Pr.set7]
  exact fink rfl (Pr.row_lt ({ p.set7 (iw .i64 (p.old.r7 - 8)) with pos := iw .i64 (p.old.r7 - 8), rg := { (p.set7 (iw .i64 (p.old.r7 - 8))).rg with pc := p.old.get p.x.a } }) (d := (dby (stL 8 p.next))) (by first | rfl | simp [AV.lt]) 1) (by rw [← hpost]; exact ⟨rfl, rfl⟩)
theorem t12_c (p : Pr) (hx : p.x.ok) (hs : p.s.ok) (h7 : I64 p.old.r7) (hf : (p.s.flt p.old.r7 0 8 0).kind = 0) :
    ACalls Tryz.prog 158 [.ptr 0 0 0] [.rows 31 [p.row dnil]] (fun o H => o = .ret (.tuple []) ∧ H = [.rows 31 [({ p with rg := { p.rg with pc := rdL (p.s.sub p.old.r7 8), r7 := iw .i64 (p.old.r7 + 8) } }).row dnil]]) := by
  refine ACalls.up ?_
  refine ACalls.intro (cs := []) (n := 26) Tryz.func158 rfl rfl rfl (by kernel_rfl) rfl ?_
  generalize hpost : (fun (o : Out) (H : Heap) => o = Out.ret (.tuple []) ∧ H = [.rows 31 [Pr.row ({ p with rg := { p.rg with pc := rdL (p.s.sub p.old.r7 8), r7 := iw .i64 (p.old.r7 + 8) } }) dnil]]) = post
  have ha : 0 ≤ p.x.a ∧ p.x.a < 8 := ⟨hx.a0, by have := hx.a7; omega⟩
  have ha' : p.x.a.toNat + 1 ≤ 31 := by omega
  simp only [go_sem,Pr.row]
  refine rK_use (enters_of Tryz.func150 rfl (by decide)) (load_c p hs dnil rfl p.old.r7 h7 8 (by decide) (by decide) hf) ?_
  simp only [go_sem,Pr.row]
  refine draw [.qu 0 0, .qu 0 0, .qu 0 0, .qu 0 0, .qu 0 0, .qu 0 0, .qu 0 0, .qu 0 0, .qu 0 0, .qu 0 0, .qu 0 0, .qu 0 0, .mn 0] (by kernel_rfl) (by kernel_rfl) ?_
  simp only [go_sem,Pr.row]
  exact fink rfl (Pr.row_lt ({ p with rg := { p.rg with pc := rdL (p.s.sub p.old.r7 8), r7 := iw .i64 (p.old.r7 + 8) } }) (d := dnil) (by first | rfl | simp [AV.lt]) 1) (by rw [← hpost]; exact ⟨rfl, rfl⟩)
theorem t13_c (p : Pr) (hx : p.x.ok) :
    ACalls Tryz.prog 159 [.ptr 0 0 0] [.rows 31 [p.row dnil]] (fun o H => o = .ret (.tuple []) ∧ H = [.rows 31 [({ p.set7 (iw .i64 (p.old.r7 - 8)) with pos := iw .i64 (p.old.r7 - 8) : Pr }).row (dby (stL 8 (p.old.get p.x.a)))]]) := by
  refine ACalls.up ?_
  refine ACalls.intro (cs := []) (n := 6) Tryz.func159 rfl rfl rfl (by kernel_rfl) rfl ?_
  generalize hpost : (fun (o : Out) (H : Heap) => o = Out.ret (.tuple []) ∧ H = [.rows 31 [Pr.row ({ p.set7 (iw .i64 (p.old.r7 - 8)) with pos := iw .i64 (p.old.r7 - 8) : Pr }) (dby (stL 8 (p.old.get p.x.a)))]]) = post
  have ha : 0 ≤ p.x.a ∧ p.x.a < 8 := ⟨hx.a0, by have := hx.a7; omega⟩
  have ha' : p.x.a.toNat + 1 ≤ 31 := by omega
  simp only [go_sem]
  refine rK_use (enters_of Tryz.func138 rfl (by decide)) (a_c p hx dnil rfl) ?_
  simp only [go_sem]
  refine rK_use (enters_of Tryz.func156 rfl (by decide)) (push_c p _) ?_
  simp only [go_sem]
  exact fink rfl (Pr.row_lt ({ p.set7 (iw .i64 (p.old.r7 - 8)) with pos := iw .i64 (p.old.r7 - 8) : Pr }) (d := (dby (stL 8 (p.old.get p.x.a)))) (by first | rfl | simp [AV.lt]) 1) (by rw [← hpost]; exact ⟨rfl, rfl⟩)
theorem t14_c (p : Pr) (hx : p.x.ok) (hs : p.s.ok) (h7 : I64 p.old.r7) (hf : (p.s.flt p.old.r7 0 8 0).kind = 0) :
    ACalls Tryz.prog 160 [.ptr 0 0 0] [.rows 31 [p.row dnil]] (fun o H => o = .ret (.tuple []) ∧ H = [.rows 31 [((p.set7 (iw .i64 (p.old.r7 + 8))).setA (rdL (p.s.sub p.old.r7 8))).row dnil]]) := by
  refine ACalls.up ?_
  refine ACalls.intro (cs := []) (n := 32) Tryz.func160 rfl rfl rfl (by kernel_rfl) rfl ?_
  generalize hpost : (fun (o : Out) (H : Heap) => o = Out.ret (.tuple []) ∧ H = [.rows 31 [Pr.row ((p.set7 (iw .i64 (p.old.r7 + 8))).setA (rdL (p.s.sub p.old.r7 8))) dnil]]) = post
  have ha : 0 ≤ p.x.a ∧ p.x.a < 8 := ⟨hx.a0, by have := hx.a7; omega⟩
  have ha' : p.x.a.toNat + 1 ≤ 31 := by omega
  simp only [go_sem,Pr.row]
  refine draw [.qu 0 0, .qu 0 0, .qu 0 0, .qu 0 0, .qu 0 0, .qu 0 0, .qu 0 0, .qu 0 0, .qu 0 0, .qu 0 0, .qu 0 0, .qu 0 0, .mn 0] (by kernel_rfl) (by kernel_rfl) ?_
  simp only [go_sem,Pr.row]
  refine draw [.qu 0 1, .qu 0 1, .qu 0 1, .qu 0 1, .qu 0 1, .rd 0 1, .qu 0 0, .qu 0 0, .qu 0 0, .qu 0 0, .qu 0 0, .qu 0 0, .qu 0 0, .mn 0, .qu 0 1, .qu 0 1, .qu 0 1, .qu 1 1, .mn 1] (by kernel_rfl) (by kernel_rfl) ?_
  simp only [go_sem,Pr.row]
  refine dM_call (enters_of Tryz.func150 rfl (by decide)) (load_c (p.set7 (iw .i64 (p.old.r7 + 8))) hs dnil rfl p.old.r7 h7 8 (by decide) (by decide) hf) ?_
  simp only [go_sem,Pr.row,Pr.set7,ha,ha',wr0 ha.1 ha.2]
  exact fink rfl (Pr.row_lt ((p.set7 (iw .i64 (p.old.r7 + 8))).setA (rdL (p.s.sub p.old.r7 8))) (d := dnil) (by first | rfl | simp [AV.lt]) 1) (by rw [← hpost]; exact ⟨rfl, rfl⟩)
theorem t15_c (p : Pr) (hx : p.x.ok) :
    ACalls Tryz.prog 161 [.ptr 0 0 0] [.rows 31 [p.row dnil]] (fun o H => o = .ret (.tuple []) ∧ H = [.rows 31 [(p.setA (iw .i64 (p.next + p.x.imm))).row dnil]]) := by
  refine ACalls.up ?_
  refine ACalls.intro (cs := []) (n := 22) Tryz.func161 rfl rfl rfl (by kernel_rfl) rfl ?_
  generalize hpost : (fun (o : Out) (H : Heap) => o = Out.ret (.tuple []) ∧ H = [.rows 31 [Pr.row (p.setA (iw .i64 (p.next + p.x.imm))) dnil]]) = post
  have ha : 0 ≤ p.x.a ∧ p.x.a < 8 := ⟨hx.a0, by have := hx.a7; omega⟩
  have ha' : p.x.a.toNat + 1 ≤ 31 := by omega
  simp only [go_sem]
  refine draw [.qu 0 0, .qu 0 0, .qu 0 0, .qu 0 0, .qu 0 0, .qu 0 0, .qu 0 0, .qu 0 0, .qu 0 0, .qu 0 0, .qu 0 0, .qu 0 0, .qu 0 0, .qu 0 0, .qu 0 0, .qu 0 0, .qu 0 0, .qu 0 0, .qu 0 0, .qu 0 0, .mn 0] (by kernel_rfl) (by kernel_rfl) ?_
  simp only [go_sem,Pr.row,ha,ha',wr0 ha.1 ha.2]
  exact fink rfl (Pr.row_lt (p.setA (iw .i64 (p.next + p.x.imm))) (d := dnil) (by first | rfl | simp [AV.lt]) 1) (by rw [← hpost]; exact ⟨rfl, rfl⟩)
theorem t16_c (p : Pr) (hx : p.x.ok) (hi : iw .i64 p.x.imm = p.x.imm) :
    ACalls Tryz.prog 162 [.ptr 0 0 0] [.rows 31 [p.row dnil]] (fun o H => o = .ret (.tuple []) ∧ H = [.rows 31 [({ p with tk := 1, tn := p.x.imm }).row dnil]]) := by
  refine ACalls.up ?_
  refine ACalls.intro (cs := []) (n := 11) Tryz.func162 rfl rfl rfl (by kernel_rfl) rfl ?_
  generalize hpost : (fun (o : Out) (H : Heap) => o = Out.ret (.tuple []) ∧ H = [.rows 31 [Pr.row ({ p with tk := 1, tn := p.x.imm }) dnil]]) = post
  have ha : 0 ≤ p.x.a ∧ p.x.a < 8 := ⟨hx.a0, by have := hx.a7; omega⟩
  have ha' : p.x.a.toNat + 1 ≤ 31 := by omega
  simp only [go_sem,Pr.row,hi]
  exact fink rfl (Pr.row_lt ({ p with tk := 1, tn := p.x.imm }) (d := dnil) (by first | rfl | simp [AV.lt]) 1) (by rw [← hpost]; exact ⟨rfl, rfl⟩)
theorem t17_c (p : Pr) (hx : p.x.ok) (hs : p.s.ok) (hb : I64 (p.old.get p.x.b)) (hf : (p.s.flt (p.old.get p.x.b) 0 8 0).kind = 0) :
    ACalls Tryz.prog 163 [.ptr 0 0 0] [.rows 31 [p.row dnil]] (fun o H => o = .ret (.tuple []) ∧ H = [.rows 31 [(({ p with pos := p.old.get p.x.b : Pr }).setA (rdL (p.s.sub (p.old.get p.x.b) 8))).row (dby (stL 8 (p.old.get p.x.a)))]]) := by
  refine ACalls.up ?_
  refine ACalls.intro (cs := []) (n := 22) Tryz.func163 rfl rfl rfl (by kernel_rfl) rfl ?_
  generalize hpost : (fun (o : Out) (H : Heap) => o = Out.ret (.tuple []) ∧ H = [.rows 31 [Pr.row (({ p with pos := p.old.get p.x.b : Pr }).setA (rdL (p.s.sub (p.old.get p.x.b) 8))) (dby (stL 8 (p.old.get p.x.a)))]]) = post
  have ha : 0 ≤ p.x.a ∧ p.x.a < 8 := ⟨hx.a0, by have := hx.a7; omega⟩
  have ha' : p.x.a.toNat + 1 ≤ 31 := by omega
  simp only [go_sem]
  refine rK_use (enters_of Tryz.func139 rfl (by decide)) (b_c p hx dnil rfl) ?_
  simp only [go_sem]
  refine rK_use (enters_of Tryz.func138 rfl (by decide)) (a_c p hx dnil rfl) ?_
  simp only [go_sem]
  refine rK_use (enters_of Tryz.func153 rfl (by decide)) (store_c p _ _ 8 (by decide)) ?_
  simp only [go_sem]
  refine draw [.qu 0 2, .qu 0 2, .qu 0 2, .qu 0 2, .qu 0 2, .rd 0 2, .qu 0 1, .qu 0 0, .mn 0, .mn 1, .qu 0 2, .qu 0 2, .qu 0 2, .qu 2 2, .mn 2] (by kernel_rfl) (by kernel_rfl) ?_
  simp only [go_sem,Pr.row]
  refine dM_call (enters_of Tryz.func139 rfl (by decide)) (b_c ({ p with pos := p.old.get p.x.b : Pr }) hx (dby (stL 8 (p.old.get p.x.a))) (by simp [AV.lt])) ?_
  simp only [go_sem,Pr.row]
  refine dM_call (enters_of Tryz.func150 rfl (by decide)) (load_c ({ p with pos := p.old.get p.x.b : Pr }) hs (dby (stL 8 (p.old.get p.x.a))) (by simp [AV.lt]) _ hb 8 (by decide) (by decide) hf) ?_
  simp only [go_sem,Pr.row,ha,ha',wr0 ha.1 ha.2]
  exact fink rfl (Pr.row_lt (({ p with pos := p.old.get p.x.b : Pr }).setA (rdL (p.s.sub (p.old.get p.x.b) 8))) (d := (dby (stL 8 (p.old.get p.x.a)))) (by first | rfl | simp [AV.lt]) 1) (by rw [← hpost]; exact ⟨rfl, rfl⟩)
theorem t18_c (p : Pr) :
    ACalls Tryz.prog 164 [.ptr 0 0 0] [.rows 31 [p.row dnil]] (fun o H => o = .pan (.iface 184 (.agg [iv 2, iv 0, iv 0, iv 0])) ∧ H = [.rows 31 [p.row dnil]]) := by
  refine ACalls.up ?_
  refine ACalls.intro (cs := []) (n := 5) Tryz.func164 rfl rfl rfl (by kernel_rfl) rfl ?_
  simp only [go_sem]
  exact .done ⟨rfl, rfl⟩
end Go.Proofs.YtfiflailjbmlpaaGreatDoor
set_option maxRecDepth 100000
set_option linter.unusedVariables false
set_option linter.unusedSimpArgs false
namespace Go.Proofs.YtfiflailjbmlpaaGreatDoor
open Go.AM
structure Trp where
  kind : Int
  n : Int
  f : Flt
def Trp.cells (t : Trp) : List AV := [iv t.kind, iv t.n, iv t.f.kind, iv t.f.pos]
def trapV (t : Trp) : AV := .iface 184 (.agg t.cells)
def Acc.perm (a : Acc) : Int := if a.write = true then 2 else 1
def ffault (s : Sp) : List Acc → Flt
  | [] => ⟨0, 0⟩
  | a :: l => if (s.flt a.pos a.perm a.size.toNat 0).kind = 0 then ffault s l else s.flt a.pos a.perm a.size.toNat 0
theorem foot_size (x : Ins) (r : Rg) : ∀ a ∈ foot x r, a.size = 1 ∨ a.size = 8 := by
  unfold foot
  repeat' split
  all_goals simp
theorem ffault0 {s : Sp} : ∀ {l : List Acc}, (ffault s l).kind = 0 → ∀ a ∈ l, (s.flt a.pos a.perm a.size.toNat 0).kind = 0
  | [], _, a, h => by simp at h
  | b :: l, h, a, ha => by
    rw [ffault] at h
    split at h
    · rename_i h1
      rcases List.mem_cons.1 ha with rfl | ha
      · exact h1
      · exact ffault0 h a ha
    · rename_i h1; exact absurd h h1
theorem ffault_drop {s : Sp} {l : List Acc} {i : Nat} {a : Acc} (h : l[i]? = some a) : ffault s (l.drop i) = if (s.flt a.pos a.perm a.size.toNat 0).kind = 0 then ffault s (l.drop (i + 1)) else s.flt a.pos a.perm a.size.toNat 0 := by
  rw [drop_at h, ffault]
def permOut (f : Flt) (o : Out) : Prop := if f.kind = 0 then o = .ret (.tuple []) else o = .pan (trapV ⟨3, 0, f⟩)
theorem permit_c (p : Pr) (hx : p.x.ok) (hs : p.s.ok) (d : AV) (hd : d.lt 0 = true) :
    ACalls Tryz.prog 136 [.ptr 0 0 0] [.rows 31 [p.row d]] (fun o H => permOut (ffault p.s (foot p.x p.old)) o ∧ H = [.rows 31 [p.row d]]) := by
  refine ACalls.up ?_
  refine ACalls.intro (cs := []) (n := 43) Tryz.func136 rfl rfl rfl (by kernel_rfl) rfl ?_
  generalize hpost : (fun (o : Out) (H : Heap) => permOut (ffault p.s (foot p.x p.old)) o ∧ H = [.rows 31 [p.row d]]) = post
  simp only [go_sem]
  refine draw [.qu 0 0, .qu 0 0, .qu 0 0, .qu 0 0, .qu 0 0, .qu 0 0, .qu 0 0, .qu 0 0, .qu 0 0, .qu 0 0, .qu 0 0] (by kernel_rfl) (by kernel_rfl) ?_
  simp only [go_sem,Pr.row]
  refine y_call (enters_of Tryz.func143 rfl (by decide)) (fun _ => ACalls.pure_use (footprint_c p.x hx p.old) rfl (by simp [AV.lt])) ?_
  simp only [go_sem,List.length_map]
  generalize hl : foot p.x p.old = l
  have hsz : ∀ a ∈ l, a.size = 1 ∨ a.size = 8 := hl ▸ foot_size p.x p.old
  have hll : l.length ≤ 2 := hl ▸ foot_len p.x p.old
  refine loop_fam (fun i : Nat => ((((Ch.nil.put 0 (.ptr 0 0 0)).put 14 (.view false 3 (l.map Acc.row))).put 15 (iv l.length)).put 16 (iv i))) (fun _ => [.rows 31 [p.row d]]) (fun i => l.length - i) (fun i => i ≤ l.length ∧ ffault p.s l = ffault p.s (l.drop i)) 0 (by kernel_rfl) ⟨Nat.zero_le _, rfl⟩
    (Wk.slots' rfl (by simp [wkS, Ch.get])) ?_
  rintro i ⟨hi, hf⟩ K hK
  simp only [go_sem]
  refine condD_dec (fun hc => ?_) (fun hc => ?_)
  · obtain ⟨a, ha⟩ := at_lt (l := l) (i := i) (by omega)
    have hlt : (i : Int) < l.length := by omega
    have e1 : iw .i64 ((i : Int) + 1) = ((i + 1 : Nat) : Int) := by rw [iw64] <;> omega
    rw [ffault_drop ha] at hf
    have hn : ∃ n : Nat, a.size = n ∧ n ≤ 8 := by rcases hsz a (List.mem_of_getElem? ha) with h | h <;> exact ⟨a.size.toNat, by omega, by omega⟩
    obtain ⟨n, hn, hn8⟩ := hn
    rw [hn] at hf
    simp only [Int.toNat_natCast] at hf
    simp only [go_sem,List.length_map,List.getElem?_map,ha,hlt,Int.natCast_nonneg,Acc.row]
    cases hw : a.write <;> simp only [Acc.perm, hw, Bool.false_eq_true, if_true, if_false] at hf
    all_goals
      simp only [go_sem]
      refine draw [.qu 0 1, .qu 0 1, .qu 0 1, .rd 0 1, .qu 0 1, .rd 0 1, .qu 0 1, .rd 0 1, .qu 0 1, .qu 0 1, .qu 0 1, .qu 0 1, .qu 0 1, .mn 0, .mn 1] (by kernel_rfl) (by kernel_rfl) ?_
      simp only [go_sem,Pr.row,hn]
      refine y_call (enters_of Tryz.func72 rfl (by decide)) (fun _ => ACalls.pure_use (access_c p.s hs a.pos _ n (by omega) (by simp)) rfl rfl) ?_
      simp only [go_sem]
      refine y_call (enters_of Tryz.func71 rfl (by decide)) (fun _ => ACalls.pure_use (mustF_c _) rfl rfl) ?_
      simp only [go_sem,Flt.cells]
      refine condD_dec (fun hk => ?_) (fun hk => ?_)
      · simp only [go_sem]
        rw [if_neg hk] at hf
        exact finkp rfl (p.row_lt hd 1) (by rw [← hpost, hl, hf]; exact ⟨by rw [permOut, if_neg hk]; rfl, rfl⟩)
      · have hk' := Decidable.of_not_not hk
        rw [if_pos hk'] at hf
        simp only [go_sem,e1]
        exact hK (i + 1) _ _ ⟨by omega, hf⟩ (by omega) (Wk.drop (m := 1) (by simp [wkS, Ch.get]) (Nat.le_refl _) (by simp) (by simp [chLt, AV.lt]) rfl (by intro b hb; simp at hb; subst hb; exact p.row_lt hd 1))
  · simp only [go_sem]
    have : i = l.length := by omega
    subst this
    rw [List.drop_length, ffault] at hf
    exact fink rfl (p.row_lt hd 1) (by rw [← hpost, hl, hf]; exact ⟨by simp [permOut], rfl⟩)
theorem permit_ok (p : Pr) (hx : p.x.ok) (hs : p.s.ok) (d : AV) (hd : d.lt 0 = true) (h : (ffault p.s (foot p.x p.old)).kind = 0) :
    ACalls Tryz.prog 136 [.ptr 0 0 0] [.rows 31 [p.row d]] (fun o H => o = .ret (.tuple []) ∧ H = [.rows 31 [p.row d]]) := (permit_c p hx hs d hd).mono fun o H ⟨h1, h2⟩ => ⟨by rwa [permOut, if_pos h] at h1, h2⟩
theorem permit_no (p : Pr) (hx : p.x.ok) (hs : p.s.ok) (d : AV) (hd : d.lt 0 = true) (h : ¬ (ffault p.s (foot p.x p.old)).kind = 0) :
    ACalls Tryz.prog 136 [.ptr 0 0 0] [.rows 31 [p.row d]] (fun o H => o = .pan (trapV ⟨3, 0, ffault p.s (foot p.x p.old)⟩) ∧ H = [.rows 31 [p.row d]]) := (permit_c p hx hs d hd).mono fun o H ⟨h1, h2⟩ => ⟨by rwa [permOut, if_neg h] at h1, h2⟩
abbrev fnv (f : Nat) : AV := .func (.func f) [] []
def tabE : List (AV × AV) := [(iv 1, fnv 144), (iv 2, fnv 145), (iv 3, fnv 146), (iv 4, fnv 147), (iv 16, fnv 148), (iv 17, fnv 149), (iv 18, fnv 151), (iv 19, fnv 152), (iv 20, fnv 154), (iv 27, fnv 155), (iv 28, fnv 157), (iv 29, fnv 158), (iv 30, fnv 159), (iv 31, fnv 160), (iv 32, fnv 161), (iv 33, fnv 162), (iv 34, fnv 163), (iv 76, fnv 164)]
theorem table_c (b : Blk) (hb : b.lt 1) :
    ACalls Tryz.prog 141 [] [b] (fun o H => o = .ret (.map 1) ∧ H = [b, .amap tabE]) := by
  refine ACalls.up ?_
  refine ACalls.intro (cs := []) (n := 3) Tryz.func141 rfl rfl rfl (by kernel_rfl) rfl ?_
  simp only [go_sem]
  exact .done ⟨rfl, rfl⟩
end Go.Proofs.YtfiflailjbmlpaaGreatDoor
set_option maxRecDepth 100000
set_option linter.unusedVariables false
set_option linter.unusedSimpArgs false
namespace Go.Proofs.YtfiflailjbmlpaaGreatDoor
open Go.AM
def Pr.start (x : Ins) (s : Sp) (r : Rg) : Pr := ⟨r, x, r, s, iw .i64 (r.pc + x.len), 0, 0, 0⟩
def Pr.toPc (p : Pr) (v : Int) : Pr := { p with rg := { p.rg with pc := v } }
def Pr.p1 (x : Ins) (s : Sp) (r : Rg) : Pr := (Pr.start x s r).toPc (iw .i64 (r.pc + x.len))
inductive Res where
  | tr (t : Trp) (p : Pr)
  | ok (p : Pr) (d : List UInt8)
def dav : List UInt8 → AV
  | [] => dnil
  | d => dby d
theorem dav_lt (d : List UInt8) : (dav d).lt 0 = true := by cases d <;> rfl
def tabR (p : Pr) : Res :=
  if p.x.op = 1 then .ok p []
  else if p.x.op = 2 then .ok (p.setA (p.old.get p.x.b)) []
  else if p.x.op = 3 ∨ p.x.op = 4 then .ok (p.setA p.x.imm) []
  else if p.x.op = 16 then .ok (p.setA (iw .i64 (p.old.get p.x.a + p.x.imm))) []
  else if p.x.op = 17 then .ok (p.setA (rdL (p.s.sub (iw .i64 (p.old.get p.x.b + p.x.imm)) 1))) []
  else if p.x.op = 18 then .ok (p.setA (rdL (p.s.sub (iw .i64 (p.old.get p.x.b + p.x.imm)) 8))) []
  else if p.x.op = 19 then .ok { p with pos := iw .i64 (p.old.get p.x.b + p.x.imm) } (stL 1 (p.old.get p.x.a))
  else if p.x.op = 20 then .ok { p with pos := iw .i64 (p.old.get p.x.b + p.x.imm) } (stL 8 (p.old.get p.x.a))
  else if p.x.op = 27 then .ok ({ p.set7 (iw .i64 (p.old.r7 - 8)) with pos := iw .i64 (p.old.r7 - 8) }.toPc (iw .i64 (p.next + p.x.imm))) (stL 8 p.next)
  else if p.x.op = 28 then .ok ({ p.set7 (iw .i64 (p.old.r7 - 8)) with pos := iw .i64 (p.old.r7 - 8) }.toPc (p.old.get p.x.a)) (stL 8 p.next)
  else if p.x.op = 29 then .ok ((p.set7 (iw .i64 (p.old.r7 + 8))).toPc (rdL (p.s.sub p.old.r7 8))) []
  else if p.x.op = 30 then .ok { p.set7 (iw .i64 (p.old.r7 - 8)) with pos := iw .i64 (p.old.r7 - 8) } (stL 8 (p.old.get p.x.a))
  else if p.x.op = 31 then .ok ((p.set7 (iw .i64 (p.old.r7 + 8))).setA (rdL (p.s.sub p.old.r7 8))) []
  else if p.x.op = 32 then .ok (p.setA (iw .i64 (p.next + p.x.imm))) []
  else if p.x.op = 33 then .ok { p with tk := 1, tn := p.x.imm } []
  else if p.x.op = 34 then .ok ({ p with pos := p.old.get p.x.b : Pr }.setA (rdL (p.s.sub (p.old.get p.x.b) 8))) (stL 8 (p.old.get p.x.a))
  else .tr ⟨2, 0, ⟨0, 0⟩⟩ p
def effect (x : Ins) (s : Sp) (r : Rg) : Res :=
  if ¬ (ffault s (foot x r)).kind = 0 then .tr ⟨3, 0, ffault s (foot x r)⟩ (Pr.start x s r)
  else if isAlu x.op = true then (match alu x.op (r.get x.a) (r.get x.b) with
    | none => .tr ⟨5, 0, ⟨0, 0⟩⟩ (Pr.p1 x s r)
    | some v => .ok ((Pr.p1 x s r).setA v) [])
  else if 21 ≤ x.op ∧ x.op ≤ 25 then .ok (if taken x r = true then (Pr.p1 x s r).toPc (iw .i64 ((Pr.p1 x s r).next + x.imm)) else Pr.p1 x s r) []
  else if x.op = 26 then .ok ((Pr.p1 x s r).toPc (r.get x.a)) []
  else tabR (Pr.p1 x s r)
def resOut (q : Res) (o : Out) (H : Heap) : Prop := match q with
  | .tr t p => o = .pan (trapV t) ∧ H = [.rows 31 [p.row dnil]]
  | .ok p d => o = .ret (.tuple []) ∧ H = [.rows 31 [p.row (dav d)]]
theorem flt_perm0 {s : Sp} {pos perm : Int} : ∀ (m i : Nat), (s.flt pos perm m i).kind = 0 → (s.flt pos 0 m i).kind = 0
  | 0, i, _ => rfl
  | m + 1, i, h => by
    rw [Sp.flt] at h ⊢
    split at h
    · rename_i h1
      have hx : s.has (iw .i64 (pos + i)) = true := by
        unfold Sp.bad1 at h1
        split at h1
        · assumption
        · cases h1
      rw [bad1_ok hx rfl (alw0 _), if_pos rfl]
      exact flt_perm0 m (i + 1) h
    · rename_i h1; exact absurd h h1
theorem row1_lt (p : Pr) {d : AV} (hd : d.lt 0 = true) : ∀ b ∈ [Blk.rows 31 [p.row d]], b.lt 1 := fun b hb => by
  simp at hb; subst hb; exact p.row_lt hd 1
theorem dd_lt (l : List UInt8) : (dby l).lt 0 = true := by simp [AV.lt]
theorem tfr {P : Program} {f : FuncId} {p q : Pr} {d d' : AV} {R : Heap} (hd : d.lt 0 = true) (hd' : d'.lt 0 = true) (hc : ACalls P f [.ptr 0 0 0] [.rows 31 [p.row d]] (fun o H => o = .ret (.tuple []) ∧ H = [.rows 31 [q.row d']])) :
    ACalls P f [.ptr 0 0 0] (.rows 31 [p.row d] :: R) (fun o H => o = .ret (.tuple []) ∧ H = .rows 31 [q.row d'] :: R) :=
  ACalls.frame (H0 := [.rows 31 [p.row d]]) (H0' := [.rows 31 [q.row d']]) (R := R) hc rfl rfl (row1_lt p hd) (row1_lt q hd') rfl
theorem execute_c (x : Ins) (hx : x.ok) (s : Sp) (hs : s.ok) (r : Rg) (hr : r.wf) :
    ACalls Tryz.prog 132 [.ptr 0 0 0] [.rows 31 [(Pr.start x s r).row dnil]] (resOut (effect x s r)) := by
  refine ACalls.up ?_
  refine ACalls.intro (cs := []) (n := 118) Tryz.func132 rfl rfl rfl (by kernel_rfl) rfl ?_
  generalize hpost : resOut (effect x s r) = post
  have finT : ∀ t p R, effect x s r = .tr t p → Up 1 post (.pan (trapV t)) (.rows 31 [p.row dnil] :: R) := fun t p R h => finkp rfl (p.row_lt rfl 1) (by rw [← hpost, h]; exact ⟨rfl, rfl⟩)
  have finO : ∀ p d R, effect x s r = .ok p d → Up 1 post (.ret (.tuple [])) (.rows 31 [p.row (dav d)] :: R) := fun p d R h => fink rfl (p.row_lt (dav_lt d) 1) (by rw [← hpost, h]; exact ⟨rfl, rfl⟩)
  have ha : 0 ≤ x.a ∧ x.a < 8 := ⟨hx.a0, by have := hx.a7; omega⟩
  have ha' : x.a.toNat + 1 ≤ 31 := by omega
  simp only [go_sem]
  rcases Decidable.em ((ffault s (foot x r)).kind = 0) with hf | hf
  rotate_left
  · refine rK_pans (enters_of Tryz.func136 rfl (by decide)) (permit_no (Pr.start x s r) hx hs dnil rfl hf) ?_
    simp only [go_sem]
    exact finT _ _ _ (by rw [effect, if_pos hf]; rfl)
  refine rK_use (enters_of Tryz.func136 rfl (by decide)) (permit_ok (Pr.start x s r) hx hs dnil rfl hf) ?_
  simp only [go_sem,Pr.row,Pr.start]
  have e0 : effect x s r = effect x s r := rfl
  conv at e0 => rhs; rw [effect, if_neg (fun h => h hf)]
  rcases Decidable.em (isAlu x.op = true) with hal | hal
  · rw [if_pos hal] at e0
    have hal2 := hal
    simp only [isAlu, Bool.and_eq_true, decide_eq_true_eq] at hal2
    simp only [go_sem,hal2,Pr.row]
    refine draw [.qu 0 2, .qu 0 2, .qu 0 2, .qu 0 2, .rd 0 2, .qu 0 0, .mn 0, .qu 0 1, .mn 1, .qu 2 2, .qu 2 2, .qu 2 2, .qu 2 2, .qu 2 2, .qu 2 2] (by kernel_rfl) (by kernel_rfl) ?_
    simp only [go_sem]
    refine dM_call (enters_of Tryz.func138 rfl (by decide)) (a_c (Pr.p1 x s r) hx dnil rfl) ?_
    simp only [go_sem,Pr.row,Pr.p1,Pr.toPc,Pr.start]
    refine dM_call (enters_of Tryz.func139 rfl (by decide)) (b_c (Pr.p1 x s r) hx dnil rfl) ?_
    simp only [go_sem,Pr.row,Pr.p1,Pr.toPc,Pr.start]
    refine y_call (enters_of Tryz.func137 rfl (by decide)) (fun _ => ACalls.pure_use (alu_c x.op (r.get x.a) (r.get x.b) (hr.get _)) rfl rfl) ?_
    cases hv : alu x.op (r.get x.a) (r.get x.b) with
    | none =>
      rw [hv] at e0
      simp only [go_sem,aluV,Option.isSome_none,Option.getD_none]
      exact finT ⟨5, 0, ⟨0, 0⟩⟩ _ _ e0
    | some v =>
      rw [hv] at e0
      simp only [go_sem,aluV,Option.isSome_some,Option.getD_some]
      refine draw [.qu 0 0, .qu 0 0, .qu 0 0, .qu 0 0, .qu 0 0, .qu 0 0, .qu 0 0, .qu 0 0, .qu 0 0, .qu 0 0, .qu 0 0, .mn 0] (by kernel_rfl) (by kernel_rfl) ?_
      simp only [go_sem,Pr.row,Pr.p1,Pr.toPc,Pr.start,ha,ha',wr0 ha.1 ha.2]
      exact finO _ [] _ e0
  rw [if_neg hal] at e0
  have hal2 : ¬ (5 ≤ x.op ∧ x.op ≤ 15) := by simpa [isAlu] using hal
  rcases Decidable.em (21 ≤ x.op ∧ x.op ≤ 25) with hj | hj
  · rw [if_pos hj] at e0
    have h5 : 5 ≤ x.op := by omega
    have h15 : ¬ x.op ≤ 15 := by omega
    simp only [go_sem,h5,h15,hj,Pr.row]
    refine draw [.qu 0 0, .qu 0 0, .qu 0 0, .qu 0 0, .qu 0 0, .qu 0 0, .qu 0 0, .qu 0 0, .qu 0 0] (by kernel_rfl) (by kernel_rfl) ?_
    simp only [go_sem,Pr.row,Pr.p1,Pr.toPc,Pr.start]
    refine y_call (enters_of Tryz.func140 rfl (by decide)) (fun _ => ACalls.pure_use (taken_c x hx r) rfl rfl) ?_
    cases ht : taken x r
    · rw [ht] at e0
      simp only [go_sem]
      exact finO _ [] _ e0
    · rw [ht] at e0
      simp only [go_sem]
      refine draw [.qu 0 0, .qu 0 0, .qu 0 0, .qu 0 0, .qu 0 0, .qu 0 0, .qu 0 0, .qu 0 0, .qu 0 0, .qu 0 0, .qu 0 0, .qu 0 0, .qu 0 0, .qu 0 0, .mn 0] (by kernel_rfl) (by kernel_rfl) ?_
      simp only [go_sem,Pr.row,Pr.p1,Pr.toPc,Pr.start]
      exact finO _ [] _ e0
  rw [if_neg hj] at e0
  obtain ⟨xop, xa, xb, xi⟩ := x
  simp only at hal2 hj e0
  rcases Decidable.em (xop = 26) with h26 | h26
  · rw [if_pos h26] at e0
    subst h26
    simp only [go_sem,Pr.row]
    refine rK_use (enters_of Tryz.func138 rfl (by decide)) (a_c (Pr.p1 ⟨26, xa, xb, xi⟩ s r) hx dnil rfl) ?_
    simp only [go_sem,Pr.row,Pr.p1,Pr.toPc,Pr.start]
    exact finO _ [] _ e0
  rw [if_neg h26] at e0
  have h7 : I64 r.r7 := hr.reg _ (by simp [Rg.list])
  have hcs : xop = 1 ∨ xop = 2 ∨ xop = 3 ∨ xop = 4 ∨ xop = 16 ∨ xop = 17 ∨ xop = 18 ∨ xop = 19 ∨ xop = 20 ∨ xop = 27 ∨ xop = 28 ∨ xop = 29 ∨ xop = 30 ∨ xop = 31 ∨ xop = 32 ∨ xop = 33 ∨ xop = 34 ∨ xop = 76 := by
    rcases opcases hx.op with h | ⟨k, h1, h2, h3⟩
    · simp only at h; omega
    · simp only at h3; omega
  rcases hcs with h | h | h | h | h | h | h | h | h | h | h | h | h | h | h | h | h | h
  · subst h
    simp only [go_sem,Pr.row]
    refine drawLL [.mn 0, .qu 0 1, .qu 0 1, .qu 0 1, .qu 0 1, .rd 0 1, .qu 1 1, .qu 0 1] 8 rfl (by kernel_rfl) (by kernel_rfl) (by kernel_rfl) (by kernel_rfl) ?_; simp only [List.take_succ_cons, List.take_zero]
    simp only [go_sem]
    refine dM_call (enters_of Tryz.func141 rfl (by decide)) (table_c (.rows 31 [(Pr.p1 ⟨1, xa, xb, xi⟩ s r).row dnil]) (Pr.row_lt _ rfl 1)) ?_
    simp only [go_sem,Pr.row,Pr.p1,Pr.toPc,Pr.start,tabE]
    refine rK_use (enters_of Tryz.func144 rfl (by decide)) (tfr (R := [.amap tabE]) rfl (by first | exact dd_lt _ | rfl) (t1_c (Pr.p1 ⟨1, xa, xb, xi⟩ s r) hx)) ?_
    simp only [go_sem]
    exact finO _ _ _ (by rw [e0, tabR]; rfl)
  · subst h
    simp only [go_sem,Pr.row]
    refine drawLL [.mn 0, .qu 0 1, .qu 0 1, .qu 0 1, .qu 0 1, .rd 0 1, .qu 1 1, .qu 0 1] 8 rfl (by kernel_rfl) (by kernel_rfl) (by kernel_rfl) (by kernel_rfl) ?_; simp only [List.take_succ_cons, List.take_zero]
    simp only [go_sem]
    refine dM_call (enters_of Tryz.func141 rfl (by decide)) (table_c (.rows 31 [(Pr.p1 ⟨2, xa, xb, xi⟩ s r).row dnil]) (Pr.row_lt _ rfl 1)) ?_
    simp only [go_sem,Pr.row,Pr.p1,Pr.toPc,Pr.start,tabE]
    refine rK_use (enters_of Tryz.func145 rfl (by decide)) (tfr (R := [.amap tabE]) rfl (by first | exact dd_lt _ | rfl) (t2_c (Pr.p1 ⟨2, xa, xb, xi⟩ s r) hx)) ?_
    simp only [go_sem]
    exact finO _ _ _ (by rw [e0, tabR]; rfl)
  · subst h
    simp only [go_sem,Pr.row]
    refine drawLL [.mn 0, .qu 0 1, .qu 0 1, .qu 0 1, .qu 0 1, .rd 0 1, .qu 1 1, .qu 0 1] 8 rfl (by kernel_rfl) (by kernel_rfl) (by kernel_rfl) (by kernel_rfl) ?_; simp only [List.take_succ_cons, List.take_zero]
    simp only [go_sem]
    refine dM_call (enters_of Tryz.func141 rfl (by decide)) (table_c (.rows 31 [(Pr.p1 ⟨3, xa, xb, xi⟩ s r).row dnil]) (Pr.row_lt _ rfl 1)) ?_
    simp only [go_sem,Pr.row,Pr.p1,Pr.toPc,Pr.start,tabE]
    refine rK_use (enters_of Tryz.func146 rfl (by decide)) (tfr (R := [.amap tabE]) rfl (by first | exact dd_lt _ | rfl) (t3_c (Pr.p1 ⟨3, xa, xb, xi⟩ s r) hx)) ?_
    simp only [go_sem]
    exact finO _ _ _ (by rw [e0, tabR]; rfl)
  · subst h
    simp only [go_sem,Pr.row]
    refine drawLL [.mn 0, .qu 0 1, .qu 0 1, .qu 0 1, .qu 0 1, .rd 0 1, .qu 1 1, .qu 0 1] 8 rfl (by kernel_rfl) (by kernel_rfl) (by kernel_rfl) (by kernel_rfl) ?_; simp only [List.take_succ_cons, List.take_zero]
    simp only [go_sem]
    refine dM_call (enters_of Tryz.func141 rfl (by decide)) (table_c (.rows 31 [(Pr.p1 ⟨4, xa, xb, xi⟩ s r).row dnil]) (Pr.row_lt _ rfl 1)) ?_
    simp only [go_sem,Pr.row,Pr.p1,Pr.toPc,Pr.start,tabE]
    refine rK_use (enters_of Tryz.func147 rfl (by decide)) (tfr (R := [.amap tabE]) rfl (by first | exact dd_lt _ | rfl) (t4_c (Pr.p1 ⟨4, xa, xb, xi⟩ s r) hx)) ?_
    simp only [go_sem]
    exact finO _ _ _ (by rw [e0, tabR]; rfl)
  · subst h
    simp only [go_sem,Pr.row]
    refine drawLL [.mn 0, .qu 0 1, .qu 0 1, .qu 0 1, .qu 0 1, .rd 0 1, .qu 1 1, .qu 0 1] 8 rfl (by kernel_rfl) (by kernel_rfl) (by kernel_rfl) (by kernel_rfl) ?_; simp only [List.take_succ_cons, List.take_zero]
    simp only [go_sem]
    refine dM_call (enters_of Tryz.func141 rfl (by decide)) (table_c (.rows 31 [(Pr.p1 ⟨16, xa, xb, xi⟩ s r).row dnil]) (Pr.row_lt _ rfl 1)) ?_
    simp only [go_sem,Pr.row,Pr.p1,Pr.toPc,Pr.start,tabE]
    refine rK_use (enters_of Tryz.func148 rfl (by decide)) (tfr (R := [.amap tabE]) rfl (by first | exact dd_lt _ | rfl) (t5_c (Pr.p1 ⟨16, xa, xb, xi⟩ s r) hx)) ?_
    simp only [go_sem]
    exact finO _ _ _ (by rw [e0, tabR]; rfl)
  · subst h
    have hq := flt_perm0 _ _ (ffault0 hf ⟨iw .i64 (r.get xb + xi), 1, false⟩ (by simp [foot]))
    simp only [go_sem,Pr.row]
    refine drawLL [.mn 0, .qu 0 1, .qu 0 1, .qu 0 1, .qu 0 1, .rd 0 1, .qu 1 1, .qu 0 1] 8 rfl (by kernel_rfl) (by kernel_rfl) (by kernel_rfl) (by kernel_rfl) ?_; simp only [List.take_succ_cons, List.take_zero]
    simp only [go_sem]
    refine dM_call (enters_of Tryz.func141 rfl (by decide)) (table_c (.rows 31 [(Pr.p1 ⟨17, xa, xb, xi⟩ s r).row dnil]) (Pr.row_lt _ rfl 1)) ?_
    simp only [go_sem,Pr.row,Pr.p1,Pr.toPc,Pr.start,tabE]
    refine rK_use (enters_of Tryz.func149 rfl (by decide)) (tfr (R := [.amap tabE]) rfl (by first | exact dd_lt _ | rfl) (t6_c (Pr.p1 ⟨17, xa, xb, xi⟩ s r) hx hs hq)) ?_
    simp only [go_sem]
    exact finO _ _ _ (by rw [e0, tabR]; rfl)
  · subst h
    have hq := flt_perm0 _ _ (ffault0 hf ⟨iw .i64 (r.get xb + xi), 8, false⟩ (by simp [foot]))
    simp only [go_sem,Pr.row]
    refine drawLL [.mn 0, .qu 0 1, .qu 0 1, .qu 0 1, .qu 0 1, .rd 0 1, .qu 1 1, .qu 0 1] 8 rfl (by kernel_rfl) (by kernel_rfl) (by kernel_rfl) (by kernel_rfl) ?_; simp only [List.take_succ_cons, List.take_zero]
    simp only [go_sem]
    refine dM_call (enters_of Tryz.func141 rfl (by decide)) (table_c (.rows 31 [(Pr.p1 ⟨18, xa, xb, xi⟩ s r).row dnil]) (Pr.row_lt _ rfl 1)) ?_
    simp only [go_sem,Pr.row,Pr.p1,Pr.toPc,Pr.start,tabE]
    refine rK_use (enters_of Tryz.func151 rfl (by decide)) (tfr (R := [.amap tabE]) rfl (by first | exact dd_lt _ | rfl) (t7_c (Pr.p1 ⟨18, xa, xb, xi⟩ s r) hx hs hq)) ?_
    simp only [go_sem]
    exact finO _ _ _ (by rw [e0, tabR]; rfl)
  · subst h
    simp only [go_sem,Pr.row]
    refine drawLL [.mn 0, .qu 0 1, .qu 0 1, .qu 0 1, .qu 0 1, .rd 0 1, .qu 1 1, .qu 0 1] 8 rfl (by kernel_rfl) (by kernel_rfl) (by kernel_rfl) (by kernel_rfl) ?_; simp only [List.take_succ_cons, List.take_zero]
    simp only [go_sem]
    refine dM_call (enters_of Tryz.func141 rfl (by decide)) (table_c (.rows 31 [(Pr.p1 ⟨19, xa, xb, xi⟩ s r).row dnil]) (Pr.row_lt _ rfl 1)) ?_
    simp only [go_sem,Pr.row,Pr.p1,Pr.toPc,Pr.start,tabE]
    refine rK_use (enters_of Tryz.func152 rfl (by decide)) (tfr (R := [.amap tabE]) rfl (by first | exact dd_lt _ | rfl) (t8_c (Pr.p1 ⟨19, xa, xb, xi⟩ s r) hx)) ?_
    simp only [go_sem]
    exact finO _ _ _ (by rw [e0, tabR]; rfl)
  · subst h
    simp only [go_sem,Pr.row]
    refine drawLL [.mn 0, .qu 0 1, .qu 0 1, .qu 0 1, .qu 0 1, .rd 0 1, .qu 1 1, .qu 0 1] 8 rfl (by kernel_rfl) (by kernel_rfl) (by kernel_rfl) (by kernel_rfl) ?_; simp only [List.take_succ_cons, List.take_zero]
    simp only [go_sem]
    refine dM_call (enters_of Tryz.func141 rfl (by decide)) (table_c (.rows 31 [(Pr.p1 ⟨20, xa, xb, xi⟩ s r).row dnil]) (Pr.row_lt _ rfl 1)) ?_
    simp only [go_sem,Pr.row,Pr.p1,Pr.toPc,Pr.start,tabE]
    refine rK_use (enters_of Tryz.func154 rfl (by decide)) (tfr (R := [.amap tabE]) rfl (by first | exact dd_lt _ | rfl) (t9_c (Pr.p1 ⟨20, xa, xb, xi⟩ s r) hx)) ?_
    simp only [go_sem]
    exact finO _ _ _ (by rw [e0, tabR]; rfl)
  · subst h
    simp only [go_sem,Pr.row]
    refine drawLL [.mn 0, .qu 0 1, .qu 0 1, .qu 0 1, .qu 0 1, .rd 0 1, .qu 1 1, .qu 0 1] 8 rfl (by kernel_rfl) (by kernel_rfl) (by kernel_rfl) (by kernel_rfl) ?_; simp only [List.take_succ_cons, List.take_zero]
    simp only [go_sem]
    refine dM_call (enters_of Tryz.func141 rfl (by decide)) (table_c (.rows 31 [(Pr.p1 ⟨27, xa, xb, xi⟩ s r).row dnil]) (Pr.row_lt _ rfl 1)) ?_
    simp only [go_sem,Pr.row,Pr.p1,Pr.toPc,Pr.start,tabE]
    refine rK_use (enters_of Tryz.func155 rfl (by decide)) (tfr (R := [.amap tabE]) rfl (by first | exact dd_lt _ | rfl) (t10_c (Pr.p1 ⟨27, xa, xb, xi⟩ s r) hx)) ?_
    simp only [go_sem]
    exact finO _ _ _ (by rw [e0, tabR]; rfl)
  · subst h
    simp only [go_sem,Pr.row]
    refine drawLL [.mn 0, .qu 0 1, .qu 0 1, .qu 0 1, .qu 0 1, .rd 0 1, .qu 1 1, .qu 0 1] 8 rfl (by kernel_rfl) (by kernel_rfl) (by kernel_rfl) (by kernel_rfl) ?_; simp only [List.take_succ_cons, List.take_zero]
    simp only [go_sem]
    refine dM_call (enters_of Tryz.func141 rfl (by decide)) (table_c (.rows 31 [(Pr.p1 ⟨28, xa, xb, xi⟩ s r).row dnil]) (Pr.row_lt _ rfl 1)) ?_
    simp only [go_sem,Pr.row,Pr.p1,Pr.toPc,Pr.start,tabE]
    refine rK_use (enters_of Tryz.func157 rfl (by decide)) (tfr (R := [.amap tabE]) rfl (by first | exact dd_lt _ | rfl) (t11_c (Pr.p1 ⟨28, xa, xb, xi⟩ s r) hx)) ?_
    simp only [go_sem]
    exact finO _ _ _ (by rw [e0, tabR]; rfl)
  · subst h
    have hq := flt_perm0 _ _ (ffault0 hf ⟨r.r7, 8, false⟩ (by simp [foot]))
    simp only [go_sem,Pr.row]
    refine drawLL [.mn 0, .qu 0 1, .qu 0 1, .qu 0 1, .qu 0 1, .rd 0 1, .qu 1 1, .qu 0 1] 8 rfl (by kernel_rfl) (by kernel_rfl) (by kernel_rfl) (by kernel_rfl) ?_; simp only [List.take_succ_cons, List.take_zero]
    simp only [go_sem]
    refine dM_call (enters_of Tryz.func141 rfl (by decide)) (table_c (.rows 31 [(Pr.p1 ⟨29, xa, xb, xi⟩ s r).row dnil]) (Pr.row_lt _ rfl 1)) ?_
    simp only [go_sem,Pr.row,Pr.p1,Pr.toPc,Pr.start,tabE]
    refine rK_use (enters_of Tryz.func158 rfl (by decide)) (tfr (R := [.amap tabE]) rfl (by first | exact dd_lt _ | rfl) (t12_c (Pr.p1 ⟨29, xa, xb, xi⟩ s r) hx hs h7 hq)) ?_
    simp only [go_sem]
    exact finO _ _ _ (by rw [e0, tabR]; rfl)
  · subst h
    simp only [go_sem,Pr.row]
    refine drawLL [.mn 0, .qu 0 1, .qu 0 1, .qu 0 1, .qu 0 1, .rd 0 1, .qu 1 1, .qu 0 1] 8 rfl (by kernel_rfl) (by kernel_rfl) (by kernel_rfl) (by kernel_rfl) ?_; simp only [List.take_succ_cons, List.take_zero]
    simp only [go_sem]
    refine dM_call (enters_of Tryz.func141 rfl (by decide)) (table_c (.rows 31 [(Pr.p1 ⟨30, xa, xb, xi⟩ s r).row dnil]) (Pr.row_lt _ rfl 1)) ?_
    simp only [go_sem,Pr.row,Pr.p1,Pr.toPc,Pr.start,tabE]
    refine rK_use (enters_of Tryz.func159 rfl (by decide)) (tfr (R := [.amap tabE]) rfl (by first | exact dd_lt _ | rfl) (t13_c (Pr.p1 ⟨30, xa, xb, xi⟩ s r) hx)) ?_
    simp only [go_sem]
    exact finO _ _ _ (by rw [e0, tabR]; rfl)
  · subst h
    have hq := flt_perm0 _ _ (ffault0 hf ⟨r.r7, 8, false⟩ (by simp [foot]))
    simp only [go_sem,Pr.row]
    refine drawLL [.mn 0, .qu 0 1, .qu 0 1, .qu 0 1, .qu 0 1, .rd 0 1, .qu 1 1, .qu 0 1] 8 rfl (by kernel_rfl) (by kernel_rfl) (by kernel_rfl) (by kernel_rfl) ?_; simp only [List.take_succ_cons, List.take_zero]
    simp only [go_sem]
    refine dM_call (enters_of Tryz.func141 rfl (by decide)) (table_c (.rows 31 [(Pr.p1 ⟨31, xa, xb, xi⟩ s r).row dnil]) (Pr.row_lt _ rfl 1)) ?_
    simp only [go_sem,Pr.row,Pr.p1,Pr.toPc,Pr.start,tabE]
    refine rK_use (enters_of Tryz.func160 rfl (by decide)) (tfr (R := [.amap tabE]) rfl (by first | exact dd_lt _ | rfl) (t14_c (Pr.p1 ⟨31, xa, xb, xi⟩ s r) hx hs h7 hq)) ?_
    simp only [go_sem]
    exact finO _ _ _ (by rw [e0, tabR]; rfl)
  · subst h
    simp only [go_sem,Pr.row]
    refine drawLL [.mn 0, .qu 0 1, .qu 0 1, .qu 0 1, .qu 0 1, .rd 0 1, .qu 1 1, .qu 0 1] 8 rfl (by kernel_rfl) (by kernel_rfl) (by kernel_rfl) (by kernel_rfl) ?_; simp only [List.take_succ_cons, List.take_zero]
    simp only [go_sem]
    refine dM_call (enters_of Tryz.func141 rfl (by decide)) (table_c (.rows 31 [(Pr.p1 ⟨32, xa, xb, xi⟩ s r).row dnil]) (Pr.row_lt _ rfl 1)) ?_
    simp only [go_sem,Pr.row,Pr.p1,Pr.toPc,Pr.start,tabE]
    refine rK_use (enters_of Tryz.func161 rfl (by decide)) (tfr (R := [.amap tabE]) rfl (by first | exact dd_lt _ | rfl) (t15_c (Pr.p1 ⟨32, xa, xb, xi⟩ s r) hx)) ?_
    simp only [go_sem]
    exact finO _ _ _ (by rw [e0, tabR]; rfl)
  · subst h
    have hi0 : iw .i64 xi = xi := by
      have : fits 8 xi = true := hx.im
      simp [fits] at this
      exact iw64 (by omega) (by omega)
    simp only [go_sem,Pr.row]
    refine drawLL [.mn 0, .qu 0 1, .qu 0 1, .qu 0 1, .qu 0 1, .rd 0 1, .qu 1 1, .qu 0 1] 8 rfl (by kernel_rfl) (by kernel_rfl) (by kernel_rfl) (by kernel_rfl) ?_; simp only [List.take_succ_cons, List.take_zero]
    simp only [go_sem]
    refine dM_call (enters_of Tryz.func141 rfl (by decide)) (table_c (.rows 31 [(Pr.p1 ⟨33, xa, xb, xi⟩ s r).row dnil]) (Pr.row_lt _ rfl 1)) ?_
    simp only [go_sem,Pr.row,Pr.p1,Pr.toPc,Pr.start,tabE]
    refine rK_use (enters_of Tryz.func162 rfl (by decide)) (tfr (R := [.amap tabE]) rfl (by first | exact dd_lt _ | rfl) (t16_c (Pr.p1 ⟨33, xa, xb, xi⟩ s r) hx hi0)) ?_
    simp only [go_sem]
    exact finO _ _ _ (by rw [e0, tabR]; rfl)
  · subst h
    have hq := flt_perm0 _ _ (ffault0 hf ⟨iw .i64 (r.get xb + xi), 8, false⟩ (by simp [foot]))
    have hi0 : xi = 0 := swap_imm hx rfl
    have hb0 : iw .i64 (r.get xb + xi) = r.get xb := by rw [hi0, Int.add_zero]; exact (hr.get xb).iw
    rw [hb0] at hq
    simp only [go_sem,Pr.row]
    refine drawLL [.mn 0, .qu 0 1, .qu 0 1, .qu 0 1, .qu 0 1, .rd 0 1, .qu 1 1, .qu 0 1] 8 rfl (by kernel_rfl) (by kernel_rfl) (by kernel_rfl) (by kernel_rfl) ?_; simp only [List.take_succ_cons, List.take_zero]
    simp only [go_sem]
    refine dM_call (enters_of Tryz.func141 rfl (by decide)) (table_c (.rows 31 [(Pr.p1 ⟨34, xa, xb, xi⟩ s r).row dnil]) (Pr.row_lt _ rfl 1)) ?_
    simp only [go_sem,Pr.row,Pr.p1,Pr.toPc,Pr.start,tabE]
    refine rK_use (enters_of Tryz.func163 rfl (by decide)) (tfr (R := [.amap tabE]) rfl (by first | exact dd_lt _ | rfl) (t17_c (Pr.p1 ⟨34, xa, xb, xi⟩ s r) hx hs (hr.get xb) hq)) ?_
    simp only [go_sem]
    exact finO _ _ _ (by rw [e0, tabR]; rfl)
  · subst h
    simp only [go_sem,Pr.row]
    refine drawLL [.mn 0, .qu 0 1, .qu 0 1, .qu 0 1, .qu 0 1, .rd 0 1, .qu 1 1, .qu 0 1] 8 rfl (by kernel_rfl) (by kernel_rfl) (by kernel_rfl) (by kernel_rfl) ?_; simp only [List.take_succ_cons, List.take_zero]
    simp only [go_sem]
    refine dM_call (enters_of Tryz.func141 rfl (by decide)) (table_c (.rows 31 [(Pr.p1 ⟨76, xa, xb, xi⟩ s r).row dnil]) (Pr.row_lt _ rfl 1)) ?_
    simp only [go_sem,Pr.row,Pr.p1,Pr.toPc,Pr.start,tabE]
    refine rK_pans (enters_of Tryz.func164 rfl (by decide)) (ACalls.framep (H0 := [.rows 31 [(Pr.p1 ⟨76, xa, xb, xi⟩ s r).row dnil]]) (R := [.amap tabE]) (t18_c (Pr.p1 ⟨76, xa, xb, xi⟩ s r)) rfl rfl (row1_lt _ rfl) (row1_lt _ rfl) rfl) ?_
    simp only [go_sem]
    exact finT ⟨2, 0, ⟨0, 0⟩⟩ _ _ (by rw [e0, tabR]; rfl)
end Go.Proofs.YtfiflailjbmlpaaGreatDoor
