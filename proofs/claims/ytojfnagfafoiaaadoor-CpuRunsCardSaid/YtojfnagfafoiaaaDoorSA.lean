/- The types of this program, as the walk uses them. No condition. -/
import Derived.Test.YtojfnagfafoiaaaDoorKC
import Derived.Test.YtojfnagfafoiaaaDoorProg
import Derived.Test.YtojfnagfafoiaaaDoorKE
import Derived.KernelRfl
set_option maxRecDepth 100000
namespace Go.Proofs.YtojfnagfafoiaaaDoor
open Go.AM
theorem T1 : tinfo Tryd.prog 1 = some ⟨1, 8, [.nilfunc], .func⟩ := by kernel_rfl
theorem Z1 : tzero Tryd.prog 1 = some (.nilfunc) := by kernel_rfl
theorem T2 : tinfo Tryd.prog 2 = some ⟨1, 8, [.int .i64 0], .int .i64⟩ := by kernel_rfl
theorem Z2 : tzero Tryd.prog 2 = some (.int .i64 0) := by kernel_rfl
theorem T3 : tinfo Tryd.prog 3 = some ⟨1, 8, [.int .i64 0], .int .i64⟩ := by kernel_rfl
theorem Z3 : tzero Tryd.prog 3 = some (.int .i64 0) := by kernel_rfl
theorem T4 : tinfo Tryd.prog 4 = some ⟨1, 1, [.bool false], .bool⟩ := by kernel_rfl
theorem Z4 : tzero Tryd.prog 4 = some (.bool false) := by kernel_rfl
theorem T5 : tinfo Tryd.prog 5 = some ⟨1, 1, [.int .u8 0], .int .u8⟩ := by kernel_rfl
theorem Z5 : tzero Tryd.prog 5 = some (.int .u8 0) := by kernel_rfl
theorem T7 : tinfo Tryd.prog 7 = some ⟨4, 24, [.int .i64 0, .int .i64 0, .bool false, .int .u8 0], .struct [(0, 2), (1, 3), (2, 4), (3, 6)]⟩ := by kernel_rfl
theorem Z7 : tzero Tryd.prog 7 = some (.agg [.int .i64 0, .int .i64 0, .bool false, .int .u8 0]) := by kernel_rfl
theorem T9 : tinfo Tryd.prog 9 = some ⟨1, 16, [.str ⟨#[]⟩], .str⟩ := by kernel_rfl
theorem Z9 : tzero Tryd.prog 9 = some (.str ⟨#[]⟩) := by kernel_rfl
theorem T12 : tinfo Tryd.prog 12 = some ⟨1, 8, [.int .u64 0], .int .u64⟩ := by kernel_rfl
theorem Z12 : tzero Tryd.prog 12 = some (.int .u64 0) := by kernel_rfl
theorem T13 : tinfo Tryd.prog 13 = some ⟨2, 24, [.str ⟨#[]⟩, .int .u64 0], .struct [(0, 9), (1, 12)]⟩ := by kernel_rfl
theorem Z13 : tzero Tryd.prog 13 = some (.agg [.str ⟨#[]⟩, .int .u64 0]) := by kernel_rfl
theorem T15 : tinfo Tryd.prog 15 = some ⟨1, 8, [.nilptr], .ptr 173⟩ := by kernel_rfl
theorem Z15 : tzero Tryd.prog 15 = some (.nilptr) := by kernel_rfl
theorem T16 : tinfo Tryd.prog 16 = some ⟨1, 8, [.nilptr], .ptr 176⟩ := by kernel_rfl
theorem Z16 : tzero Tryd.prog 16 = some (.nilptr) := by kernel_rfl
theorem T20 : tinfo Tryd.prog 20 = some ⟨1, 16, [.nilif], .iface⟩ := by kernel_rfl
theorem Z20 : tzero Tryd.prog 20 = some (.nilif) := by kernel_rfl
theorem T21 : tinfo Tryd.prog 21 = some ⟨1, 4, [.int .i32 0], .int .i32⟩ := by kernel_rfl
theorem Z21 : tzero Tryd.prog 21 = some (.int .i32 0) := by kernel_rfl
theorem T22 : tinfo Tryd.prog 22 = some ⟨4, 32, [.int .i64 0, .int .i64 0, .int .i64 0, .int .i64 0], .struct [(0, 3), (1, 3), (2, 3), (3, 2)]⟩ := by kernel_rfl
theorem Z22 : tzero Tryd.prog 22 = some (.agg [.int .i64 0, .int .i64 0, .int .i64 0, .int .i64 0]) := by kernel_rfl
theorem E23 : aEqTy Tryd.prog 23 = some [.i, .i, .i, .i] := by kernel_rfl
theorem T23 : tinfo Tryd.prog 23 = some ⟨4, 32, [.int .i64 0, .int .i64 0, .int .i64 0, .int .i64 0], .struct [(0, 3), (1, 3), (2, 3), (3, 2)]⟩ := by kernel_rfl
theorem Z23 : tzero Tryd.prog 23 = some (.agg [.int .i64 0, .int .i64 0, .int .i64 0, .int .i64 0]) := by kernel_rfl
theorem T24 : tinfo Tryd.prog 24 = some ⟨1, 24, [.view true 0 []], .slice 3⟩ := by kernel_rfl
theorem Z24 : tzero Tryd.prog 24 = some (.view true 0 []) := by kernel_rfl
theorem T25 : tinfo Tryd.prog 25 = some ⟨1, 24, [.view true 0 []], .slice 5⟩ := by kernel_rfl
theorem Z25 : tzero Tryd.prog 25 = some (.view true 0 []) := by kernel_rfl
theorem T26 : tinfo Tryd.prog 26 = some ⟨2, 48, [.view true 0 [], .view true 0 []], .struct [(0, 24), (1, 25)]⟩ := by kernel_rfl
theorem Z26 : tzero Tryd.prog 26 = some (.agg [.view true 0 [], .view true 0 []]) := by kernel_rfl
theorem T27 : tinfo Tryd.prog 27 = some ⟨2, 48, [.view true 0 [], .view true 0 []], .struct [(0, 24), (1, 25)]⟩ := by kernel_rfl
theorem Z27 : tzero Tryd.prog 27 = some (.agg [.view true 0 [], .view true 0 []]) := by kernel_rfl
theorem T28 : tinfo Tryd.prog 28 = some ⟨8, 64, [.int .i64 0, .int .i64 0, .int .i64 0, .int .i64 0, .int .i64 0, .int .i64 0, .int .i64 0, .int .i64 0], .array 8 2⟩ := by kernel_rfl
theorem Z28 : tzero Tryd.prog 28 = some (.agg [.int .i64 0, .int .i64 0, .int .i64 0, .int .i64 0, .int .i64 0, .int .i64 0, .int .i64 0, .int .i64 0]) := by kernel_rfl
theorem T29 : tinfo Tryd.prog 29 = some ⟨9, 72, [.int .i64 0, .int .i64 0, .int .i64 0, .int .i64 0, .int .i64 0, .int .i64 0, .int .i64 0, .int .i64 0, .int .i64 0], .struct [(0, 28), (8, 2)]⟩ := by kernel_rfl
theorem Z29 : tzero Tryd.prog 29 = some (.agg [.int .i64 0, .int .i64 0, .int .i64 0, .int .i64 0, .int .i64 0, .int .i64 0, .int .i64 0, .int .i64 0, .int .i64 0]) := by kernel_rfl
theorem E30 : aEqTy Tryd.prog 30 = some [.i, .i, .i, .i, .i, .i, .i, .i, .i] := by kernel_rfl
theorem T30 : tinfo Tryd.prog 30 = some ⟨9, 72, [.int .i64 0, .int .i64 0, .int .i64 0, .int .i64 0, .int .i64 0, .int .i64 0, .int .i64 0, .int .i64 0, .int .i64 0], .struct [(0, 28), (8, 2)]⟩ := by kernel_rfl
theorem Z30 : tzero Tryd.prog 30 = some (.agg [.int .i64 0, .int .i64 0, .int .i64 0, .int .i64 0, .int .i64 0, .int .i64 0, .int .i64 0, .int .i64 0, .int .i64 0]) := by kernel_rfl
theorem T31 : tinfo Tryd.prog 31 = some ⟨1, 8, [.nilfunc], .func⟩ := by kernel_rfl
theorem Z31 : tzero Tryd.prog 31 = some (.nilfunc) := by kernel_rfl
theorem T32 : tinfo Tryd.prog 32 = some ⟨2, 16, [.int .i64 0, .int .i64 0], .struct [(0, 3), (1, 2)]⟩ := by kernel_rfl
theorem Z32 : tzero Tryd.prog 32 = some (.agg [.int .i64 0, .int .i64 0]) := by kernel_rfl
theorem E33 : aEqTy Tryd.prog 33 = some [.i, .i] := by kernel_rfl
theorem T33 : tinfo Tryd.prog 33 = some ⟨2, 16, [.int .i64 0, .int .i64 0], .struct [(0, 3), (1, 2)]⟩ := by kernel_rfl
theorem Z33 : tzero Tryd.prog 33 = some (.agg [.int .i64 0, .int .i64 0]) := by kernel_rfl
theorem T34 : tinfo Tryd.prog 34 = some ⟨4, 32, [.int .i64 0, .int .i64 0, .int .i64 0, .int .i64 0], .struct [(0, 3), (1, 3), (2, 33)]⟩ := by kernel_rfl
theorem Z34 : tzero Tryd.prog 34 = some (.agg [.int .i64 0, .int .i64 0, .int .i64 0, .int .i64 0]) := by kernel_rfl
theorem E35 : aEqTy Tryd.prog 35 = some [.i, .i, .i, .i] := by kernel_rfl
theorem T35 : tinfo Tryd.prog 35 = some ⟨4, 32, [.int .i64 0, .int .i64 0, .int .i64 0, .int .i64 0], .struct [(0, 3), (1, 3), (2, 33)]⟩ := by kernel_rfl
theorem Z35 : tzero Tryd.prog 35 = some (.agg [.int .i64 0, .int .i64 0, .int .i64 0, .int .i64 0]) := by kernel_rfl
theorem T36 : tinfo Tryd.prog 36 = some ⟨19, 168, [.int .i64 0, .int .i64 0, .int .i64 0, .int .i64 0, .int .i64 0, .int .i64 0, .int .i64 0, .int .i64 0, .int .i64 0, .int .i64 0, .view true 0 [], .int .i64 0, .int .i64 0, .int .i64 0, .int .i64 0, .int .i64 0, .int .i64 0, .int .i64 0, .int .i64 0], .struct [(0, 30), (9, 2), (10, 25), (11, 35), (15, 23)]⟩ := by kernel_rfl
theorem Z36 : tzero Tryd.prog 36 = some (.agg [.int .i64 0, .int .i64 0, .int .i64 0, .int .i64 0, .int .i64 0, .int .i64 0, .int .i64 0, .int .i64 0, .int .i64 0, .int .i64 0, .view true 0 [], .int .i64 0, .int .i64 0, .int .i64 0, .int .i64 0, .int .i64 0, .int .i64 0, .int .i64 0, .int .i64 0]) := by kernel_rfl
theorem T37 : tinfo Tryd.prog 37 = some ⟨19, 168, [.int .i64 0, .int .i64 0, .int .i64 0, .int .i64 0, .int .i64 0, .int .i64 0, .int .i64 0, .int .i64 0, .int .i64 0, .int .i64 0, .view true 0 [], .int .i64 0, .int .i64 0, .int .i64 0, .int .i64 0, .int .i64 0, .int .i64 0, .int .i64 0, .int .i64 0], .struct [(0, 30), (9, 2), (10, 25), (11, 35), (15, 23)]⟩ := by kernel_rfl
theorem Z37 : tzero Tryd.prog 37 = some (.agg [.int .i64 0, .int .i64 0, .int .i64 0, .int .i64 0, .int .i64 0, .int .i64 0, .int .i64 0, .int .i64 0, .int .i64 0, .int .i64 0, .view true 0 [], .int .i64 0, .int .i64 0, .int .i64 0, .int .i64 0, .int .i64 0, .int .i64 0, .int .i64 0, .int .i64 0]) := by kernel_rfl
theorem T38 : tinfo Tryd.prog 38 = some ⟨1, 8, [.int .i64 0], .int .i64⟩ := by kernel_rfl
theorem Z38 : tzero Tryd.prog 38 = some (.int .i64 0) := by kernel_rfl
theorem T40 : tinfo Tryd.prog 40 = some ⟨1, 8, [.nilfunc], .func⟩ := by kernel_rfl
theorem Z40 : tzero Tryd.prog 40 = some (.nilfunc) := by kernel_rfl
theorem T41 : tinfo Tryd.prog 41 = some ⟨1, 8, [.nilfunc], .func⟩ := by kernel_rfl
theorem Z41 : tzero Tryd.prog 41 = some (.nilfunc) := by kernel_rfl
theorem T42 : tinfo Tryd.prog 42 = some ⟨1, 8, [.nilfunc], .func⟩ := by kernel_rfl
theorem Z42 : tzero Tryd.prog 42 = some (.nilfunc) := by kernel_rfl
theorem T43 : tinfo Tryd.prog 43 = some ⟨1, 8, [.nilfunc], .func⟩ := by kernel_rfl
theorem Z43 : tzero Tryd.prog 43 = some (.nilfunc) := by kernel_rfl
theorem T44 : tinfo Tryd.prog 44 = some ⟨1, 8, [.nilfunc], .func⟩ := by kernel_rfl
theorem Z44 : tzero Tryd.prog 44 = some (.nilfunc) := by kernel_rfl
theorem T45 : tinfo Tryd.prog 45 = some ⟨1, 8, [.nilfunc], .func⟩ := by kernel_rfl
theorem Z45 : tzero Tryd.prog 45 = some (.nilfunc) := by kernel_rfl
theorem T46 : tinfo Tryd.prog 46 = some ⟨1, 8, [.nilfunc], .func⟩ := by kernel_rfl
theorem Z46 : tzero Tryd.prog 46 = some (.nilfunc) := by kernel_rfl
theorem T47 : tinfo Tryd.prog 47 = some ⟨1, 8, [.nilfunc], .func⟩ := by kernel_rfl
theorem Z47 : tzero Tryd.prog 47 = some (.nilfunc) := by kernel_rfl
theorem T48 : tinfo Tryd.prog 48 = some ⟨11, 120, [.view true 0 [], .view true 0 [], .int .i64 0, .int .i64 0, .int .i64 0, .int .i64 0, .int .i64 0, .int .i64 0, .int .i64 0, .int .i64 0, .int .i64 0], .struct [(0, 27), (2, 30)]⟩ := by kernel_rfl
theorem Z48 : tzero Tryd.prog 48 = some (.agg [.view true 0 [], .view true 0 [], .int .i64 0, .int .i64 0, .int .i64 0, .int .i64 0, .int .i64 0, .int .i64 0, .int .i64 0, .int .i64 0, .int .i64 0]) := by kernel_rfl
theorem T49 : tinfo Tryd.prog 49 = some ⟨11, 120, [.view true 0 [], .view true 0 [], .int .i64 0, .int .i64 0, .int .i64 0, .int .i64 0, .int .i64 0, .int .i64 0, .int .i64 0, .int .i64 0, .int .i64 0], .struct [(0, 27), (2, 30)]⟩ := by kernel_rfl
theorem Z49 : tzero Tryd.prog 49 = some (.agg [.view true 0 [], .view true 0 [], .int .i64 0, .int .i64 0, .int .i64 0, .int .i64 0, .int .i64 0, .int .i64 0, .int .i64 0, .int .i64 0, .int .i64 0]) := by kernel_rfl
theorem T50 : tinfo Tryd.prog 50 = some ⟨1, 2, [.int .u16 0], .int .u16⟩ := by kernel_rfl
theorem Z50 : tzero Tryd.prog 50 = some (.int .u16 0) := by kernel_rfl
theorem T52 : tinfo Tryd.prog 52 = some ⟨1, 8, [.nilfunc], .func⟩ := by kernel_rfl
theorem Z52 : tzero Tryd.prog 52 = some (.nilfunc) := by kernel_rfl
theorem T53 : tinfo Tryd.prog 53 = some ⟨1, 8, [.nilfunc], .func⟩ := by kernel_rfl
theorem Z53 : tzero Tryd.prog 53 = some (.nilfunc) := by kernel_rfl
theorem T55 : tinfo Tryd.prog 55 = some ⟨1, 8, [.nilfunc], .func⟩ := by kernel_rfl
theorem Z55 : tzero Tryd.prog 55 = some (.nilfunc) := by kernel_rfl
theorem T56 : tinfo Tryd.prog 56 = some ⟨1, 8, [.nilfunc], .func⟩ := by kernel_rfl
theorem Z56 : tzero Tryd.prog 56 = some (.nilfunc) := by kernel_rfl
theorem T57 : tinfo Tryd.prog 57 = some ⟨3, 24, [.int .i64 0, .int .i64 0, .int .i64 0], .struct [(0, 3), (1, 2), (2, 2)]⟩ := by kernel_rfl
theorem Z57 : tzero Tryd.prog 57 = some (.agg [.int .i64 0, .int .i64 0, .int .i64 0]) := by kernel_rfl
theorem E58 : aEqTy Tryd.prog 58 = some [.i, .i, .i] := by kernel_rfl
theorem T58 : tinfo Tryd.prog 58 = some ⟨3, 24, [.int .i64 0, .int .i64 0, .int .i64 0], .struct [(0, 3), (1, 2), (2, 2)]⟩ := by kernel_rfl
theorem Z58 : tzero Tryd.prog 58 = some (.agg [.int .i64 0, .int .i64 0, .int .i64 0]) := by kernel_rfl
theorem T60 : tinfo Tryd.prog 60 = some ⟨1, 8, [.nilfunc], .func⟩ := by kernel_rfl
theorem Z60 : tzero Tryd.prog 60 = some (.nilfunc) := by kernel_rfl
theorem T61 : tinfo Tryd.prog 61 = some ⟨1, 8, [.nilfunc], .func⟩ := by kernel_rfl
theorem Z61 : tzero Tryd.prog 61 = some (.nilfunc) := by kernel_rfl
theorem T63 : tinfo Tryd.prog 63 = some ⟨1, 8, [.nilfunc], .func⟩ := by kernel_rfl
theorem Z63 : tzero Tryd.prog 63 = some (.nilfunc) := by kernel_rfl
theorem T64 : tinfo Tryd.prog 64 = some ⟨1, 8, [.nilfunc], .func⟩ := by kernel_rfl
theorem Z64 : tzero Tryd.prog 64 = some (.nilfunc) := by kernel_rfl
theorem T66 : tinfo Tryd.prog 66 = some ⟨1, 8, [.nilfunc], .func⟩ := by kernel_rfl
theorem Z66 : tzero Tryd.prog 66 = some (.nilfunc) := by kernel_rfl
theorem T68 : tinfo Tryd.prog 68 = some ⟨1, 8, [.nilfunc], .func⟩ := by kernel_rfl
theorem Z68 : tzero Tryd.prog 68 = some (.nilfunc) := by kernel_rfl
theorem T69 : tinfo Tryd.prog 69 = some ⟨1, 24, [.view true 0 []], .slice 76⟩ := by kernel_rfl
theorem Z69 : tzero Tryd.prog 69 = some (.view true 0 []) := by kernel_rfl
theorem T71 : tinfo Tryd.prog 71 = some ⟨1, 8, [.nilfunc], .func⟩ := by kernel_rfl
theorem Z71 : tzero Tryd.prog 71 = some (.nilfunc) := by kernel_rfl
theorem T72 : tinfo Tryd.prog 72 = some ⟨1, 8, [.nilfunc], .func⟩ := by kernel_rfl
theorem Z72 : tzero Tryd.prog 72 = some (.nilfunc) := by kernel_rfl
theorem T73 : tinfo Tryd.prog 73 = some ⟨1, 8, [.nilfunc], .func⟩ := by kernel_rfl
theorem Z73 : tzero Tryd.prog 73 = some (.nilfunc) := by kernel_rfl
theorem T74 : tinfo Tryd.prog 74 = some ⟨1, 8, [.nilfunc], .func⟩ := by kernel_rfl
theorem Z74 : tzero Tryd.prog 74 = some (.nilfunc) := by kernel_rfl
theorem T75 : tinfo Tryd.prog 75 = some ⟨3, 24, [.int .i64 0, .int .i64 0, .bool false], .struct [(0, 2), (1, 3), (2, 4)]⟩ := by kernel_rfl
theorem Z75 : tzero Tryd.prog 75 = some (.agg [.int .i64 0, .int .i64 0, .bool false]) := by kernel_rfl
theorem E76 : aEqTy Tryd.prog 76 = some [.i, .i, .b] := by kernel_rfl
theorem T76 : tinfo Tryd.prog 76 = some ⟨3, 24, [.int .i64 0, .int .i64 0, .bool false], .struct [(0, 2), (1, 3), (2, 4)]⟩ := by kernel_rfl
theorem Z76 : tzero Tryd.prog 76 = some (.agg [.int .i64 0, .int .i64 0, .bool false]) := by kernel_rfl
theorem T77 : tinfo Tryd.prog 77 = some ⟨1, 8, [.nilfunc], .func⟩ := by kernel_rfl
theorem Z77 : tzero Tryd.prog 77 = some (.nilfunc) := by kernel_rfl
theorem T78 : tinfo Tryd.prog 78 = some ⟨1, 8, [.nilfunc], .func⟩ := by kernel_rfl
theorem Z78 : tzero Tryd.prog 78 = some (.nilfunc) := by kernel_rfl
theorem T79 : tinfo Tryd.prog 79 = some ⟨1, 8, [.nilfunc], .func⟩ := by kernel_rfl
theorem Z79 : tzero Tryd.prog 79 = some (.nilfunc) := by kernel_rfl
theorem T80 : tinfo Tryd.prog 80 = some ⟨1, 8, [.nilfunc], .func⟩ := by kernel_rfl
theorem Z80 : tzero Tryd.prog 80 = some (.nilfunc) := by kernel_rfl
theorem T81 : tinfo Tryd.prog 81 = some ⟨1, 8, [.nilfunc], .func⟩ := by kernel_rfl
theorem Z81 : tzero Tryd.prog 81 = some (.nilfunc) := by kernel_rfl
theorem T82 : tinfo Tryd.prog 82 = some ⟨1, 8, [.nilfunc], .func⟩ := by kernel_rfl
theorem Z82 : tzero Tryd.prog 82 = some (.nilfunc) := by kernel_rfl
theorem T83 : tinfo Tryd.prog 83 = some ⟨1, 8, [.nilfunc], .func⟩ := by kernel_rfl
theorem Z83 : tzero Tryd.prog 83 = some (.nilfunc) := by kernel_rfl
theorem T85 : tinfo Tryd.prog 85 = some ⟨1, 8, [.nilfunc], .func⟩ := by kernel_rfl
theorem Z85 : tzero Tryd.prog 85 = some (.nilfunc) := by kernel_rfl
theorem T86 : tinfo Tryd.prog 86 = some ⟨10, 80, [.int .i64 0, .int .i64 0, .int .i64 0, .int .i64 0, .int .i64 0, .int .i64 0, .int .i64 0, .int .i64 0, .int .i64 0, .int .u8 0], .struct [(0, 30), (9, 5)]⟩ := by kernel_rfl
theorem Z86 : tzero Tryd.prog 86 = some (.agg [.int .i64 0, .int .i64 0, .int .i64 0, .int .i64 0, .int .i64 0, .int .i64 0, .int .i64 0, .int .i64 0, .int .i64 0, .int .u8 0]) := by kernel_rfl
theorem E87 : aEqTy Tryd.prog 87 = some [.i, .i, .i, .i, .i, .i, .i, .i, .i, .i] := by kernel_rfl
theorem T87 : tinfo Tryd.prog 87 = some ⟨10, 80, [.int .i64 0, .int .i64 0, .int .i64 0, .int .i64 0, .int .i64 0, .int .i64 0, .int .i64 0, .int .i64 0, .int .i64 0, .int .u8 0], .struct [(0, 30), (9, 5)]⟩ := by kernel_rfl
theorem Z87 : tzero Tryd.prog 87 = some (.agg [.int .i64 0, .int .i64 0, .int .i64 0, .int .i64 0, .int .i64 0, .int .i64 0, .int .i64 0, .int .i64 0, .int .i64 0, .int .u8 0]) := by kernel_rfl
theorem T88 : tinfo Tryd.prog 88 = some ⟨1, 8, [.nilfunc], .func⟩ := by kernel_rfl
theorem Z88 : tzero Tryd.prog 88 = some (.nilfunc) := by kernel_rfl
theorem T89 : tinfo Tryd.prog 89 = some ⟨1, 8, [.nilfunc], .func⟩ := by kernel_rfl
theorem Z89 : tzero Tryd.prog 89 = some (.nilfunc) := by kernel_rfl
theorem T90 : tinfo Tryd.prog 90 = some ⟨3, 56, [.view true 0 [], .view true 0 [], .int .i64 0], .struct [(0, 27), (2, 38)]⟩ := by kernel_rfl
theorem Z90 : tzero Tryd.prog 90 = some (.agg [.view true 0 [], .view true 0 [], .int .i64 0]) := by kernel_rfl
theorem T91 : tinfo Tryd.prog 91 = some ⟨3, 56, [.view true 0 [], .view true 0 [], .int .i64 0], .struct [(0, 27), (2, 38)]⟩ := by kernel_rfl
theorem Z91 : tzero Tryd.prog 91 = some (.agg [.view true 0 [], .view true 0 [], .int .i64 0]) := by kernel_rfl
theorem T92 : tinfo Tryd.prog 92 = some ⟨1, 8, [.nilfunc], .func⟩ := by kernel_rfl
theorem Z92 : tzero Tryd.prog 92 = some (.nilfunc) := by kernel_rfl
theorem T93 : tinfo Tryd.prog 93 = some ⟨1, 8, [.nilfunc], .func⟩ := by kernel_rfl
theorem Z93 : tzero Tryd.prog 93 = some (.nilfunc) := by kernel_rfl
theorem T94 : tinfo Tryd.prog 94 = some ⟨2, 2, [.int .u8 0, .int .u8 0], .array 2 5⟩ := by kernel_rfl
theorem Z94 : tzero Tryd.prog 94 = some (.agg [.int .u8 0, .int .u8 0]) := by kernel_rfl
theorem T95 : tinfo Tryd.prog 95 = some ⟨1, 2, [.int .i16 0], .int .i16⟩ := by kernel_rfl
theorem Z95 : tzero Tryd.prog 95 = some (.int .i16 0) := by kernel_rfl
theorem T97 : tinfo Tryd.prog 97 = some ⟨1, 8, [.nilfunc], .func⟩ := by kernel_rfl
theorem Z97 : tzero Tryd.prog 97 = some (.nilfunc) := by kernel_rfl
theorem T98 : tinfo Tryd.prog 98 = some ⟨1, 8, [.nilfunc], .func⟩ := by kernel_rfl
theorem Z98 : tzero Tryd.prog 98 = some (.nilfunc) := by kernel_rfl
theorem T100 : tinfo Tryd.prog 100 = some ⟨1, 8, [.nilfunc], .func⟩ := by kernel_rfl
theorem Z100 : tzero Tryd.prog 100 = some (.nilfunc) := by kernel_rfl
theorem T101 : tinfo Tryd.prog 101 = some ⟨22, 224, [.view true 0 [], .view true 0 [], .int .i64 0, .int .i64 0, .int .i64 0, .int .i64 0, .int .i64 0, .int .i64 0, .int .i64 0, .int .i64 0, .int .i64 0, .int .i64 0, .view true 0 [], .int .i64 0, .int .i64 0, .int .i64 0, .int .i64 0, .int .i64 0, .int .i64 0, .int .i64 0, .int .i64 0, .int .i64 0], .struct [(0, 27), (2, 37), (21, 3)]⟩ := by kernel_rfl
theorem Z101 : tzero Tryd.prog 101 = some (.agg [.view true 0 [], .view true 0 [], .int .i64 0, .int .i64 0, .int .i64 0, .int .i64 0, .int .i64 0, .int .i64 0, .int .i64 0, .int .i64 0, .int .i64 0, .int .i64 0, .view true 0 [], .int .i64 0, .int .i64 0, .int .i64 0, .int .i64 0, .int .i64 0, .int .i64 0, .int .i64 0, .int .i64 0, .int .i64 0]) := by kernel_rfl
theorem T102 : tinfo Tryd.prog 102 = some ⟨22, 224, [.view true 0 [], .view true 0 [], .int .i64 0, .int .i64 0, .int .i64 0, .int .i64 0, .int .i64 0, .int .i64 0, .int .i64 0, .int .i64 0, .int .i64 0, .int .i64 0, .view true 0 [], .int .i64 0, .int .i64 0, .int .i64 0, .int .i64 0, .int .i64 0, .int .i64 0, .int .i64 0, .int .i64 0, .int .i64 0], .struct [(0, 27), (2, 37), (21, 3)]⟩ := by kernel_rfl
theorem Z102 : tzero Tryd.prog 102 = some (.agg [.view true 0 [], .view true 0 [], .int .i64 0, .int .i64 0, .int .i64 0, .int .i64 0, .int .i64 0, .int .i64 0, .int .i64 0, .int .i64 0, .int .i64 0, .int .i64 0, .view true 0 [], .int .i64 0, .int .i64 0, .int .i64 0, .int .i64 0, .int .i64 0, .int .i64 0, .int .i64 0, .int .i64 0, .int .i64 0]) := by kernel_rfl
theorem T103 : tinfo Tryd.prog 103 = some ⟨1, 8, [.nilfunc], .func⟩ := by kernel_rfl
theorem Z103 : tzero Tryd.prog 103 = some (.nilfunc) := by kernel_rfl
theorem T104 : tinfo Tryd.prog 104 = some ⟨1, 8, [.nilfunc], .func⟩ := by kernel_rfl
theorem Z104 : tzero Tryd.prog 104 = some (.nilfunc) := by kernel_rfl
theorem T105 : tinfo Tryd.prog 105 = some ⟨1, 8, [.nilfunc], .func⟩ := by kernel_rfl
theorem Z105 : tzero Tryd.prog 105 = some (.nilfunc) := by kernel_rfl
theorem T106 : tinfo Tryd.prog 106 = some ⟨1, 8, [.nilfunc], .func⟩ := by kernel_rfl
theorem Z106 : tzero Tryd.prog 106 = some (.nilfunc) := by kernel_rfl
theorem T107 : tinfo Tryd.prog 107 = some ⟨1, 8, [.nilfunc], .func⟩ := by kernel_rfl
theorem Z107 : tzero Tryd.prog 107 = some (.nilfunc) := by kernel_rfl
theorem T108 : tinfo Tryd.prog 108 = some ⟨1, 8, [.nilfunc], .func⟩ := by kernel_rfl
theorem Z108 : tzero Tryd.prog 108 = some (.nilfunc) := by kernel_rfl
theorem T109 : tinfo Tryd.prog 109 = some ⟨1, 8, [.nilfunc], .func⟩ := by kernel_rfl
theorem Z109 : tzero Tryd.prog 109 = some (.nilfunc) := by kernel_rfl
theorem T110 : tinfo Tryd.prog 110 = some ⟨1, 8, [.nilfunc], .func⟩ := by kernel_rfl
theorem Z110 : tzero Tryd.prog 110 = some (.nilfunc) := by kernel_rfl
theorem T111 : tinfo Tryd.prog 111 = some ⟨1, 8, [.nilfunc], .func⟩ := by kernel_rfl
theorem Z111 : tzero Tryd.prog 111 = some (.nilfunc) := by kernel_rfl
theorem T112 : tinfo Tryd.prog 112 = some ⟨6, 48, [.int .i64 0, .int .i64 0, .int .i64 0, .int .i64 0, .int .i64 0, .int .i64 0], .struct [(0, 23), (4, 3), (5, 38)]⟩ := by kernel_rfl
theorem Z112 : tzero Tryd.prog 112 = some (.agg [.int .i64 0, .int .i64 0, .int .i64 0, .int .i64 0, .int .i64 0, .int .i64 0]) := by kernel_rfl
theorem E113 : aEqTy Tryd.prog 113 = some [.i, .i, .i, .i, .i, .i] := by kernel_rfl
theorem T113 : tinfo Tryd.prog 113 = some ⟨6, 48, [.int .i64 0, .int .i64 0, .int .i64 0, .int .i64 0, .int .i64 0, .int .i64 0], .struct [(0, 23), (4, 3), (5, 38)]⟩ := by kernel_rfl
theorem Z113 : tzero Tryd.prog 113 = some (.agg [.int .i64 0, .int .i64 0, .int .i64 0, .int .i64 0, .int .i64 0, .int .i64 0]) := by kernel_rfl
theorem T114 : tinfo Tryd.prog 114 = some ⟨1, 8, [.nilfunc], .func⟩ := by kernel_rfl
theorem Z114 : tzero Tryd.prog 114 = some (.nilfunc) := by kernel_rfl
theorem T115 : tinfo Tryd.prog 115 = some ⟨1, 8, [.nilfunc], .func⟩ := by kernel_rfl
theorem Z115 : tzero Tryd.prog 115 = some (.nilfunc) := by kernel_rfl
theorem T116 : tinfo Tryd.prog 116 = some ⟨1, 8, [.nilfunc], .func⟩ := by kernel_rfl
theorem Z116 : tzero Tryd.prog 116 = some (.nilfunc) := by kernel_rfl
theorem T117 : tinfo Tryd.prog 117 = some ⟨2, 24, [.str ⟨#[]⟩, .int .i64 0], .struct [(0, 9), (1, 3)]⟩ := by kernel_rfl
theorem Z117 : tzero Tryd.prog 117 = some (.agg [.str ⟨#[]⟩, .int .i64 0]) := by kernel_rfl
theorem E118 : aEqTy Tryd.prog 118 = some [.s, .i] := by kernel_rfl
theorem T118 : tinfo Tryd.prog 118 = some ⟨2, 24, [.str ⟨#[]⟩, .int .i64 0], .struct [(0, 9), (1, 3)]⟩ := by kernel_rfl
theorem Z118 : tzero Tryd.prog 118 = some (.agg [.str ⟨#[]⟩, .int .i64 0]) := by kernel_rfl
theorem T119 : tinfo Tryd.prog 119 = some ⟨1, 8, [.nilfunc], .func⟩ := by kernel_rfl
theorem Z119 : tzero Tryd.prog 119 = some (.nilfunc) := by kernel_rfl
theorem T120 : tinfo Tryd.prog 120 = some ⟨1, 8, [.nilfunc], .func⟩ := by kernel_rfl
theorem Z120 : tzero Tryd.prog 120 = some (.nilfunc) := by kernel_rfl
theorem T121 : tinfo Tryd.prog 121 = some ⟨1, 8, [.nilfunc], .func⟩ := by kernel_rfl
theorem Z121 : tzero Tryd.prog 121 = some (.nilfunc) := by kernel_rfl
theorem T122 : tinfo Tryd.prog 122 = some ⟨1, 8, [.int .u64 0], .int .u64⟩ := by kernel_rfl
theorem Z122 : tzero Tryd.prog 122 = some (.int .u64 0) := by kernel_rfl
theorem T123 : tinfo Tryd.prog 123 = some ⟨1, 8, [.nilfunc], .func⟩ := by kernel_rfl
theorem Z123 : tzero Tryd.prog 123 = some (.nilfunc) := by kernel_rfl
theorem T125 : tinfo Tryd.prog 125 = some ⟨1, 8, [.nilfunc], .func⟩ := by kernel_rfl
theorem Z125 : tzero Tryd.prog 125 = some (.nilfunc) := by kernel_rfl
theorem T126 : tinfo Tryd.prog 126 = some ⟨1, 8, [.nilfunc], .func⟩ := by kernel_rfl
theorem Z126 : tzero Tryd.prog 126 = some (.nilfunc) := by kernel_rfl
theorem T127 : tinfo Tryd.prog 127 = some ⟨1, 8, [.nilfunc], .func⟩ := by kernel_rfl
theorem Z127 : tzero Tryd.prog 127 = some (.nilfunc) := by kernel_rfl
theorem T129 : tinfo Tryd.prog 129 = some ⟨1, 8, [.nilfunc], .func⟩ := by kernel_rfl
theorem Z129 : tzero Tryd.prog 129 = some (.nilfunc) := by kernel_rfl
theorem T131 : tinfo Tryd.prog 131 = some ⟨1, 8, [.nilfunc], .func⟩ := by kernel_rfl
theorem Z131 : tzero Tryd.prog 131 = some (.nilfunc) := by kernel_rfl
theorem T132 : tinfo Tryd.prog 132 = some ⟨1, 8, [.nilfunc], .func⟩ := by kernel_rfl
theorem Z132 : tzero Tryd.prog 132 = some (.nilfunc) := by kernel_rfl
theorem T133 : tinfo Tryd.prog 133 = some ⟨1, 8, [.nilfunc], .func⟩ := by kernel_rfl
theorem Z133 : tzero Tryd.prog 133 = some (.nilfunc) := by kernel_rfl
theorem T134 : tinfo Tryd.prog 134 = some ⟨4, 32, [.int .i64 0, .int .i64 0, .int .i64 0, .int .i64 0], .struct [(0, 35)]⟩ := by kernel_rfl
theorem Z134 : tzero Tryd.prog 134 = some (.agg [.int .i64 0, .int .i64 0, .int .i64 0, .int .i64 0]) := by kernel_rfl
theorem E135 : aEqTy Tryd.prog 135 = some [.i, .i, .i, .i] := by kernel_rfl
theorem T135 : tinfo Tryd.prog 135 = some ⟨4, 32, [.int .i64 0, .int .i64 0, .int .i64 0, .int .i64 0], .struct [(0, 35)]⟩ := by kernel_rfl
theorem Z135 : tzero Tryd.prog 135 = some (.agg [.int .i64 0, .int .i64 0, .int .i64 0, .int .i64 0]) := by kernel_rfl
theorem T136 : tinfo Tryd.prog 136 = some ⟨1, 8, [.nilptr], .ptr 139⟩ := by kernel_rfl
theorem Z136 : tzero Tryd.prog 136 = some (.nilptr) := by kernel_rfl
theorem T137 : tinfo Tryd.prog 137 = some ⟨1, 8, [.nilfunc], .func⟩ := by kernel_rfl
theorem Z137 : tzero Tryd.prog 137 = some (.nilfunc) := by kernel_rfl
theorem T138 : tinfo Tryd.prog 138 = some ⟨31, 296, [.int .i64 0, .int .i64 0, .int .i64 0, .int .i64 0, .int .i64 0, .int .i64 0, .int .i64 0, .int .i64 0, .int .i64 0, .int .i64 0, .int .i64 0, .int .i64 0, .int .i64 0, .int .i64 0, .int .i64 0, .int .i64 0, .int .i64 0, .int .i64 0, .int .i64 0, .int .i64 0, .int .i64 0, .int .i64 0, .view true 0 [], .view true 0 [], .int .i64 0, .int .i64 0, .view true 0 [], .int .i64 0, .int .i64 0, .int .i64 0, .int .i64 0], .struct [(0, 30), (9, 23), (13, 30), (22, 27), (24, 2), (25, 2), (26, 25), (27, 35)]⟩ := by kernel_rfl
theorem Z138 : tzero Tryd.prog 138 = some (.agg [.int .i64 0, .int .i64 0, .int .i64 0, .int .i64 0, .int .i64 0, .int .i64 0, .int .i64 0, .int .i64 0, .int .i64 0, .int .i64 0, .int .i64 0, .int .i64 0, .int .i64 0, .int .i64 0, .int .i64 0, .int .i64 0, .int .i64 0, .int .i64 0, .int .i64 0, .int .i64 0, .int .i64 0, .int .i64 0, .view true 0 [], .view true 0 [], .int .i64 0, .int .i64 0, .view true 0 [], .int .i64 0, .int .i64 0, .int .i64 0, .int .i64 0]) := by kernel_rfl
theorem T139 : tinfo Tryd.prog 139 = some ⟨31, 296, [.int .i64 0, .int .i64 0, .int .i64 0, .int .i64 0, .int .i64 0, .int .i64 0, .int .i64 0, .int .i64 0, .int .i64 0, .int .i64 0, .int .i64 0, .int .i64 0, .int .i64 0, .int .i64 0, .int .i64 0, .int .i64 0, .int .i64 0, .int .i64 0, .int .i64 0, .int .i64 0, .int .i64 0, .int .i64 0, .view true 0 [], .view true 0 [], .int .i64 0, .int .i64 0, .view true 0 [], .int .i64 0, .int .i64 0, .int .i64 0, .int .i64 0], .struct [(0, 30), (9, 23), (13, 30), (22, 27), (24, 2), (25, 2), (26, 25), (27, 35)]⟩ := by kernel_rfl
theorem Z139 : tzero Tryd.prog 139 = some (.agg [.int .i64 0, .int .i64 0, .int .i64 0, .int .i64 0, .int .i64 0, .int .i64 0, .int .i64 0, .int .i64 0, .int .i64 0, .int .i64 0, .int .i64 0, .int .i64 0, .int .i64 0, .int .i64 0, .int .i64 0, .int .i64 0, .int .i64 0, .int .i64 0, .int .i64 0, .int .i64 0, .int .i64 0, .int .i64 0, .view true 0 [], .view true 0 [], .int .i64 0, .int .i64 0, .view true 0 [], .int .i64 0, .int .i64 0, .int .i64 0, .int .i64 0]) := by kernel_rfl
theorem T140 : tinfo Tryd.prog 140 = some ⟨1, 8, [.nilfunc], .func⟩ := by kernel_rfl
theorem Z140 : tzero Tryd.prog 140 = some (.nilfunc) := by kernel_rfl
theorem T142 : tinfo Tryd.prog 142 = some ⟨1, 8, [.nilfunc], .func⟩ := by kernel_rfl
theorem Z142 : tzero Tryd.prog 142 = some (.nilfunc) := by kernel_rfl
theorem T143 : tinfo Tryd.prog 143 = some ⟨1, 8, [.nilfunc], .func⟩ := by kernel_rfl
theorem Z143 : tzero Tryd.prog 143 = some (.nilfunc) := by kernel_rfl
theorem T144 : tinfo Tryd.prog 144 = some ⟨1, 8, [.nilfunc], .func⟩ := by kernel_rfl
theorem Z144 : tzero Tryd.prog 144 = some (.nilfunc) := by kernel_rfl
theorem T145 : tinfo Tryd.prog 145 = some ⟨1, 8, [.nilfunc], .func⟩ := by kernel_rfl
theorem Z145 : tzero Tryd.prog 145 = some (.nilfunc) := by kernel_rfl
theorem T146 : tinfo Tryd.prog 146 = some ⟨1, 8, [.nilfunc], .func⟩ := by kernel_rfl
theorem Z146 : tzero Tryd.prog 146 = some (.nilfunc) := by kernel_rfl
theorem T147 : tinfo Tryd.prog 147 = some ⟨70, 840, [.str ⟨#[]⟩, .int .i64 0, .str ⟨#[]⟩, .int .i64 0, .str ⟨#[]⟩, .int .i64 0, .str ⟨#[]⟩, .int .i64 0, .str ⟨#[]⟩, .int .i64 0, .str ⟨#[]⟩, .int .i64 0, .str ⟨#[]⟩, .int .i64 0, .str ⟨#[]⟩, .int .i64 0, .str ⟨#[]⟩, .int .i64 0, .str ⟨#[]⟩, .int .i64 0, .str ⟨#[]⟩, .int .i64 0, .str ⟨#[]⟩, .int .i64 0, .str ⟨#[]⟩, .int .i64 0, .str ⟨#[]⟩, .int .i64 0, .str ⟨#[]⟩, .int .i64 0, .str ⟨#[]⟩, .int .i64 0, .str ⟨#[]⟩, .int .i64 0, .str ⟨#[]⟩, .int .i64 0, .str ⟨#[]⟩, .int .i64 0, .str ⟨#[]⟩, .int .i64 0, .str ⟨#[]⟩, .int .i64 0, .str ⟨#[]⟩, .int .i64 0, .str ⟨#[]⟩, .int .i64 0, .str ⟨#[]⟩, .int .i64 0, .str ⟨#[]⟩, .int .i64 0, .str ⟨#[]⟩, .int .i64 0, .str ⟨#[]⟩, .int .i64 0, .str ⟨#[]⟩, .int .i64 0, .str ⟨#[]⟩, .int .i64 0, .str ⟨#[]⟩, .int .i64 0, .str ⟨#[]⟩, .int .i64 0, .str ⟨#[]⟩, .int .i64 0, .str ⟨#[]⟩, .int .i64 0, .str ⟨#[]⟩, .int .i64 0, .str ⟨#[]⟩, .int .i64 0], .array 35 118⟩ := by kernel_rfl
theorem Z147 : tzero Tryd.prog 147 = some (.agg [.str ⟨#[]⟩, .int .i64 0, .str ⟨#[]⟩, .int .i64 0, .str ⟨#[]⟩, .int .i64 0, .str ⟨#[]⟩, .int .i64 0, .str ⟨#[]⟩, .int .i64 0, .str ⟨#[]⟩, .int .i64 0, .str ⟨#[]⟩, .int .i64 0, .str ⟨#[]⟩, .int .i64 0, .str ⟨#[]⟩, .int .i64 0, .str ⟨#[]⟩, .int .i64 0, .str ⟨#[]⟩, .int .i64 0, .str ⟨#[]⟩, .int .i64 0, .str ⟨#[]⟩, .int .i64 0, .str ⟨#[]⟩, .int .i64 0, .str ⟨#[]⟩, .int .i64 0, .str ⟨#[]⟩, .int .i64 0, .str ⟨#[]⟩, .int .i64 0, .str ⟨#[]⟩, .int .i64 0, .str ⟨#[]⟩, .int .i64 0, .str ⟨#[]⟩, .int .i64 0, .str ⟨#[]⟩, .int .i64 0, .str ⟨#[]⟩, .int .i64 0, .str ⟨#[]⟩, .int .i64 0, .str ⟨#[]⟩, .int .i64 0, .str ⟨#[]⟩, .int .i64 0, .str ⟨#[]⟩, .int .i64 0, .str ⟨#[]⟩, .int .i64 0, .str ⟨#[]⟩, .int .i64 0, .str ⟨#[]⟩, .int .i64 0, .str ⟨#[]⟩, .int .i64 0, .str ⟨#[]⟩, .int .i64 0, .str ⟨#[]⟩, .int .i64 0, .str ⟨#[]⟩, .int .i64 0, .str ⟨#[]⟩, .int .i64 0, .str ⟨#[]⟩, .int .i64 0]) := by kernel_rfl
theorem T148 : tinfo Tryd.prog 148 = some ⟨1, 8, [.int .u64 0], .int .u64⟩ := by kernel_rfl
theorem Z148 : tzero Tryd.prog 148 = some (.int .u64 0) := by kernel_rfl
theorem T149 : tinfo Tryd.prog 149 = some ⟨1, 8, [.nilfunc], .func⟩ := by kernel_rfl
theorem Z149 : tzero Tryd.prog 149 = some (.nilfunc) := by kernel_rfl
theorem T150 : tinfo Tryd.prog 150 = some ⟨1, 8, [.nilfunc], .func⟩ := by kernel_rfl
theorem Z150 : tzero Tryd.prog 150 = some (.nilfunc) := by kernel_rfl
theorem T151 : tinfo Tryd.prog 151 = some ⟨1, 8, [.nilfunc], .func⟩ := by kernel_rfl
theorem Z151 : tzero Tryd.prog 151 = some (.nilfunc) := by kernel_rfl
theorem T152 : tinfo Tryd.prog 152 = some ⟨1, 8, [.nilmap], .map 3 151⟩ := by kernel_rfl
theorem Z152 : tzero Tryd.prog 152 = some (.nilmap) := by kernel_rfl
theorem T153 : tinfo Tryd.prog 153 = some ⟨1, 8, [.nilfunc], .func⟩ := by kernel_rfl
theorem Z153 : tzero Tryd.prog 153 = some (.nilfunc) := by kernel_rfl
theorem T154 : tinfo Tryd.prog 154 = some ⟨1, 8, [.nilfunc], .func⟩ := by kernel_rfl
theorem Z154 : tzero Tryd.prog 154 = some (.nilfunc) := by kernel_rfl
theorem T155 : tinfo Tryd.prog 155 = some ⟨1, 8, [.nilptr], .ptr 33⟩ := by kernel_rfl
theorem Z155 : tzero Tryd.prog 155 = some (.nilptr) := by kernel_rfl
theorem T156 : tinfo Tryd.prog 156 = some ⟨1, 8, [.nilfunc], .func⟩ := by kernel_rfl
theorem Z156 : tzero Tryd.prog 156 = some (.nilfunc) := by kernel_rfl
theorem T157 : tinfo Tryd.prog 157 = some ⟨1, 8, [.nilfunc], .func⟩ := by kernel_rfl
theorem Z157 : tzero Tryd.prog 157 = some (.nilfunc) := by kernel_rfl
theorem T158 : tinfo Tryd.prog 158 = some ⟨1, 8, [.nilfunc], .func⟩ := by kernel_rfl
theorem Z158 : tzero Tryd.prog 158 = some (.nilfunc) := by kernel_rfl
theorem T159 : tinfo Tryd.prog 159 = some ⟨1, 8, [.nilfunc], .func⟩ := by kernel_rfl
theorem Z159 : tzero Tryd.prog 159 = some (.nilfunc) := by kernel_rfl
theorem T160 : tinfo Tryd.prog 160 = some ⟨64, 64, [.int .u8 0, .int .u8 0, .int .u8 0, .int .u8 0, .int .u8 0, .int .u8 0, .int .u8 0, .int .u8 0, .int .u8 0, .int .u8 0, .int .u8 0, .int .u8 0, .int .u8 0, .int .u8 0, .int .u8 0, .int .u8 0, .int .u8 0, .int .u8 0, .int .u8 0, .int .u8 0, .int .u8 0, .int .u8 0, .int .u8 0, .int .u8 0, .int .u8 0, .int .u8 0, .int .u8 0, .int .u8 0, .int .u8 0, .int .u8 0, .int .u8 0, .int .u8 0, .int .u8 0, .int .u8 0, .int .u8 0, .int .u8 0, .int .u8 0, .int .u8 0, .int .u8 0, .int .u8 0, .int .u8 0, .int .u8 0, .int .u8 0, .int .u8 0, .int .u8 0, .int .u8 0, .int .u8 0, .int .u8 0, .int .u8 0, .int .u8 0, .int .u8 0, .int .u8 0, .int .u8 0, .int .u8 0, .int .u8 0, .int .u8 0, .int .u8 0, .int .u8 0, .int .u8 0, .int .u8 0, .int .u8 0, .int .u8 0, .int .u8 0, .int .u8 0], .array 64 5⟩ := by kernel_rfl
theorem Z160 : tzero Tryd.prog 160 = some (.agg [.int .u8 0, .int .u8 0, .int .u8 0, .int .u8 0, .int .u8 0, .int .u8 0, .int .u8 0, .int .u8 0, .int .u8 0, .int .u8 0, .int .u8 0, .int .u8 0, .int .u8 0, .int .u8 0, .int .u8 0, .int .u8 0, .int .u8 0, .int .u8 0, .int .u8 0, .int .u8 0, .int .u8 0, .int .u8 0, .int .u8 0, .int .u8 0, .int .u8 0, .int .u8 0, .int .u8 0, .int .u8 0, .int .u8 0, .int .u8 0, .int .u8 0, .int .u8 0, .int .u8 0, .int .u8 0, .int .u8 0, .int .u8 0, .int .u8 0, .int .u8 0, .int .u8 0, .int .u8 0, .int .u8 0, .int .u8 0, .int .u8 0, .int .u8 0, .int .u8 0, .int .u8 0, .int .u8 0, .int .u8 0, .int .u8 0, .int .u8 0, .int .u8 0, .int .u8 0, .int .u8 0, .int .u8 0, .int .u8 0, .int .u8 0, .int .u8 0, .int .u8 0, .int .u8 0, .int .u8 0, .int .u8 0, .int .u8 0, .int .u8 0, .int .u8 0]) := by kernel_rfl
theorem E161 : aEqTy Tryd.prog 161 = some [.i, .i, .i, .i, .i, .i, .i, .i, .i, .i, .i, .i, .i, .i, .i, .i, .i, .i, .i, .i, .i, .i, .i, .i, .i, .i, .i, .i, .i, .i, .i, .i, .i, .i, .i, .i, .i, .i, .i, .i, .i, .i, .i, .i, .i, .i, .i, .i, .i, .i, .i, .i, .i, .i, .i, .i, .i, .i, .i, .i, .i, .i, .i, .i] := by kernel_rfl
theorem T161 : tinfo Tryd.prog 161 = some ⟨64, 64, [.int .u8 0, .int .u8 0, .int .u8 0, .int .u8 0, .int .u8 0, .int .u8 0, .int .u8 0, .int .u8 0, .int .u8 0, .int .u8 0, .int .u8 0, .int .u8 0, .int .u8 0, .int .u8 0, .int .u8 0, .int .u8 0, .int .u8 0, .int .u8 0, .int .u8 0, .int .u8 0, .int .u8 0, .int .u8 0, .int .u8 0, .int .u8 0, .int .u8 0, .int .u8 0, .int .u8 0, .int .u8 0, .int .u8 0, .int .u8 0, .int .u8 0, .int .u8 0, .int .u8 0, .int .u8 0, .int .u8 0, .int .u8 0, .int .u8 0, .int .u8 0, .int .u8 0, .int .u8 0, .int .u8 0, .int .u8 0, .int .u8 0, .int .u8 0, .int .u8 0, .int .u8 0, .int .u8 0, .int .u8 0, .int .u8 0, .int .u8 0, .int .u8 0, .int .u8 0, .int .u8 0, .int .u8 0, .int .u8 0, .int .u8 0, .int .u8 0, .int .u8 0, .int .u8 0, .int .u8 0, .int .u8 0, .int .u8 0, .int .u8 0, .int .u8 0], .array 64 5⟩ := by kernel_rfl
theorem Z161 : tzero Tryd.prog 161 = some (.agg [.int .u8 0, .int .u8 0, .int .u8 0, .int .u8 0, .int .u8 0, .int .u8 0, .int .u8 0, .int .u8 0, .int .u8 0, .int .u8 0, .int .u8 0, .int .u8 0, .int .u8 0, .int .u8 0, .int .u8 0, .int .u8 0, .int .u8 0, .int .u8 0, .int .u8 0, .int .u8 0, .int .u8 0, .int .u8 0, .int .u8 0, .int .u8 0, .int .u8 0, .int .u8 0, .int .u8 0, .int .u8 0, .int .u8 0, .int .u8 0, .int .u8 0, .int .u8 0, .int .u8 0, .int .u8 0, .int .u8 0, .int .u8 0, .int .u8 0, .int .u8 0, .int .u8 0, .int .u8 0, .int .u8 0, .int .u8 0, .int .u8 0, .int .u8 0, .int .u8 0, .int .u8 0, .int .u8 0, .int .u8 0, .int .u8 0, .int .u8 0, .int .u8 0, .int .u8 0, .int .u8 0, .int .u8 0, .int .u8 0, .int .u8 0, .int .u8 0, .int .u8 0, .int .u8 0, .int .u8 0, .int .u8 0, .int .u8 0, .int .u8 0, .int .u8 0]) := by kernel_rfl
theorem T162 : tinfo Tryd.prog 162 = some ⟨1, 8, [.nilfunc], .func⟩ := by kernel_rfl
theorem Z162 : tzero Tryd.prog 162 = some (.nilfunc) := by kernel_rfl
theorem T163 : tinfo Tryd.prog 163 = some ⟨1, 8, [.nilfunc], .func⟩ := by kernel_rfl
theorem Z163 : tzero Tryd.prog 163 = some (.nilfunc) := by kernel_rfl
theorem T164 : tinfo Tryd.prog 164 = some ⟨1, 8, [.nilfunc], .func⟩ := by kernel_rfl
theorem Z164 : tzero Tryd.prog 164 = some (.nilfunc) := by kernel_rfl
theorem T165 : tinfo Tryd.prog 165 = some ⟨2, 16, [.int .i64 0, .int .i64 0], .struct [(0, 33)]⟩ := by kernel_rfl
theorem Z165 : tzero Tryd.prog 165 = some (.agg [.int .i64 0, .int .i64 0]) := by kernel_rfl
theorem E166 : aEqTy Tryd.prog 166 = some [.i, .i] := by kernel_rfl
theorem T166 : tinfo Tryd.prog 166 = some ⟨2, 16, [.int .i64 0, .int .i64 0], .struct [(0, 33)]⟩ := by kernel_rfl
theorem Z166 : tzero Tryd.prog 166 = some (.agg [.int .i64 0, .int .i64 0]) := by kernel_rfl
theorem T167 : tinfo Tryd.prog 167 = some ⟨1, 8, [.nilmap], .map 3 3⟩ := by kernel_rfl
theorem Z167 : tzero Tryd.prog 167 = some (.nilmap) := by kernel_rfl
theorem T168 : tinfo Tryd.prog 168 = some ⟨1, 8, [.nilfunc], .func⟩ := by kernel_rfl
theorem Z168 : tzero Tryd.prog 168 = some (.nilfunc) := by kernel_rfl
theorem T170 : tinfo Tryd.prog 170 = some ⟨1, 8, [.nilfunc], .func⟩ := by kernel_rfl
theorem Z170 : tzero Tryd.prog 170 = some (.nilfunc) := by kernel_rfl
theorem T171 : tinfo Tryd.prog 171 = some ⟨1, 8, [.nilfunc], .func⟩ := by kernel_rfl
theorem Z171 : tzero Tryd.prog 171 = some (.nilfunc) := by kernel_rfl
theorem T174 : tinfo Tryd.prog 174 = some ⟨0, 0, [], .array 0 16⟩ := by kernel_rfl
theorem Z174 : tzero Tryd.prog 174 = some (.agg []) := by kernel_rfl
theorem T175 : tinfo Tryd.prog 175 = some ⟨0, 0, [], .struct [(0, 174)]⟩ := by kernel_rfl
theorem Z175 : tzero Tryd.prog 175 = some (.agg []) := by kernel_rfl
theorem T177 : tinfo Tryd.prog 177 = some ⟨1, 8, [.nilfunc], .func⟩ := by kernel_rfl
theorem Z177 : tzero Tryd.prog 177 = some (.nilfunc) := by kernel_rfl
theorem T178 : tinfo Tryd.prog 178 = some ⟨1, 4, [.int .u32 0], .int .u32⟩ := by kernel_rfl
theorem Z178 : tzero Tryd.prog 178 = some (.int .u32 0) := by kernel_rfl
theorem T181 : tinfo Tryd.prog 181 = some ⟨1, 8, [.nilfunc], .func⟩ := by kernel_rfl
theorem Z181 : tzero Tryd.prog 181 = some (.nilfunc) := by kernel_rfl
theorem T182 : tinfo Tryd.prog 182 = some ⟨1, 8, [.nilptr], .ptr 5⟩ := by kernel_rfl
theorem Z182 : tzero Tryd.prog 182 = some (.nilptr) := by kernel_rfl
theorem T187 : tinfo Tryd.prog 187 = some ⟨1, 8, [.nilptr], .other⟩ := by kernel_rfl
theorem Z187 : tzero Tryd.prog 187 = some (.nilptr) := by kernel_rfl
attribute [go_sem] T1 Z1 T2 Z2 T3 Z3 T4 Z4 T5 Z5 T7 Z7 T9 Z9 T12 Z12 T13 Z13 T15 Z15 T16 Z16 T20 Z20 T21 Z21 T22 Z22 E23 T23 Z23 T24 Z24 T25 Z25 T26 Z26 T27 Z27 T28 Z28 T29 Z29 E30 T30 Z30 T31 Z31 T32 Z32 E33 T33 Z33 T34 Z34 E35 T35 Z35 T36 Z36 T37 Z37 T38 Z38 T40 Z40 T41 Z41 T42 Z42 T43 Z43 T44 Z44 T45 Z45 T46 Z46 T47 Z47 T48 Z48 T49 Z49 T50 Z50 T52 Z52 T53 Z53 T55 Z55 T56 Z56 T57 Z57 E58 T58 Z58 T60 Z60 T61 Z61 T63 Z63 T64 Z64 T66 Z66 T68 Z68 T69 Z69 T71 Z71 T72 Z72 T73 Z73 T74 Z74 T75 Z75 E76 T76 Z76 T77 Z77 T78 Z78 T79 Z79 T80 Z80 T81 Z81 T82 Z82 T83 Z83 T85 Z85 T86 Z86 E87 T87 Z87 T88 Z88 T89 Z89 T90 Z90 T91 Z91 T92 Z92 T93 Z93 T94 Z94 T95 Z95 T97 Z97 T98 Z98 T100 Z100 T101 Z101 T102 Z102 T103 Z103 T104 Z104 T105 Z105 T106 Z106 T107 Z107 T108 Z108 T109 Z109 T110 Z110 T111 Z111 T112 Z112 E113 T113 Z113 T114 Z114 T115 Z115 T116 Z116 T117 Z117 E118 T118 Z118 T119 Z119 T120 Z120 T121 Z121 T122 Z122 T123 Z123 T125 Z125 T126 Z126 T127 Z127 T129 Z129 T131 Z131 T132 Z132 T133 Z133 T134 Z134 E135 T135 Z135 T136 Z136 T137 Z137 T138 Z138 T139 Z139 T140 Z140 T142 Z142 T143 Z143 T144 Z144 T145 Z145 T146 Z146 T147 Z147 T148 Z148 T149 Z149 T150 Z150 T151 Z151 T152 Z152 T153 Z153 T154 Z154 T155 Z155 T156 Z156 T157 Z157 T158 Z158 T159 Z159 T160 Z160 E161 T161 Z161 T162 Z162 T163 Z163 T164 Z164 T165 Z165 E166 T166 Z166 T167 Z167 T168 Z168 T170 Z170 T171 Z171 T174 Z174 T175 Z175 T177 Z177 T178 Z178 T181 Z181 T182 Z182 T187 Z187
end Go.Proofs.YtojfnagfafoiaaaDoor

set_option linter.unusedVariables false
set_option linter.unusedSimpArgs false
namespace Go.AM
attribute [go_sem] Int.cast_ofNat_Int Int.le_refl
abbrev iv (n : Int) : AV := .int .i64 n
abbrev bv (b : UInt8) : AV := .int .u8 (b.toNat : Int)
abbrev r1 (n : Int) : List AV := [.int .i64 n]
abbrev rb (b : UInt8) : List AV := [.int .u8 (b.toNat : Int)]
theorem drop_at {α : Type} {l : List α} {i : Nat} {y : α} (h : l[i]? = some y) : l.drop i = y :: l.drop (i + 1) := by
  obtain ⟨h1, rfl⟩ := List.getElem?_eq_some_iff.1 h
  exact List.drop_eq_getElem_cons h1
theorem at_lt {α : Type} {l : List α} {i : Nat} (h : i < l.length) : ∃ y, l[i]? = some y := ⟨_, List.getElem?_eq_getElem h⟩
theorem wkR_map' {α : Type} {f : α → List AV} (h : ∀ a, wkL (f a) = f a) (l : List α) : wkR (l.map f) = l.map f := by
  rw [wkR_map, List.map_map]
  exact List.map_congr_left fun a _ => h a
theorem r1_wk (n : Int) : wkL (r1 n) = r1 n := by simp [wkL, AV.wk]
theorem rb_wk (n : UInt8) : wkL (rb n) = rb n := by simp [wkL, AV.wk]
theorem rows_pure {α : Type} {f : α → List AV} (h : ∀ a, ltL 0 (f a) = true) (l : List α) : ∀ row ∈ l.map f, ∀ x ∈ row, x.pure = true := by
  intro row hr x hx
  obtain ⟨n, _, rfl⟩ := List.mem_map.1 hr
  obtain ⟨k, hk⟩ := List.getElem?_of_mem hx
  exact ltL_get (h n) hk
theorem r1_pure (l : List Int) : ∀ row ∈ l.map r1, ∀ x ∈ row, x.pure = true := rows_pure (fun _ => rfl) l
theorem rb_pure (l : List UInt8) : ∀ row ∈ l.map rb, ∀ x ∈ row, x.pure = true := rows_pure (fun _ => rfl) l
theorem ltL_mem {m : Nat} {xs : List AV} (h : ltL m xs = true) : ∀ x ∈ xs, x.lt m = true := fun x hx => by
  obtain ⟨k, hk⟩ := List.getElem?_of_mem hx
  exact ltL_get h hk
theorem Ch.fz_pure {r sz : Nat} {ys : List (List AV)} : ∀ {s : Ch}, s.lt 0 = true → s.fz r sz ys = s
  | .nil, _ => rfl
  | .put s d v, h => by
    simp only [Ch.lt, Bool.and_eq_true] at h
    simp only [Ch.fz, Ch.fz_pure h.1, Go.AM.fz_pure h.2]
theorem Ch.fzOk_pure {r n : Nat} : ∀ {s : Ch}, s.lt 0 = true → s.fzOk r n
  | .nil, _ => trivial
  | .put s d v, h => by
    simp only [Ch.lt, Bool.and_eq_true] at h
    exact ⟨Ch.fzOk_pure h.1, Go.AM.fzOk_pure h.2⟩
theorem bfz0 {r sz : Nat} {ys : List (List AV)} : ∀ {b : Blk}, b.lt 0 → b.fz r sz ys = b
  | .dead, _ => rfl
  | .rows z xs, h => bfz_pure h
  | .amap es, h => by
    rw [Blk.fz]
    congr 1
    conv => rhs; rw [← List.map_id' es]
    exact List.map_congr_left fun e he => by rw [fz_pure (h e he)]
  | .raw q, _ => rfl
  | .lrec q n s, h => by rw [Blk.fz, Ch.fz_pure h]
theorem bok0 {r n : Nat} : ∀ {b : Blk}, b.lt 0 → b.fzOk r n
  | .dead, _ => trivial
  | .rows z xs, h => bfzOk_pure h
  | .amap es, h => fun e he => fzOk_pure (h e he)
  | .raw _, _ => trivial
  | .lrec _ _ s, h => Ch.fzOk_pure h
/-- The end, with a value that names no block. -/
theorem finv {post : CQ} {v : AV} (hv : v.lt 0 = true) (h : post (.ret v) []) (H : Heap) : Up 0 post (.ret v) H := .gc 0 (Nat.le_refl _) (Nat.zero_le _) hv (by simp) (.done h)
theorem finp {post : CQ} {v : AV} (hv : v.lt 0 = true) (h : post (.pan v) []) (H : Heap) : Up 0 post (.pan v) H := .gc 0 (Nat.le_refl _) (Nat.zero_le _) hv (by simp) (.done h)
section
variable {P : Program} {ops : Array Oper} {want : Bool} {op : Op} {d : Option Tmp} {rest : List Oper} {Q : XQ} {s : Ch} {H : Heap} {n : Nat} {D : Fx} {x y : Code} {b : Bool}
theorem gD_bool (h1 : b = true → gD P ops (.bool true) want op d rest Q s H) (h2 : b = false → gD P ops (.bool false) want op d rest Q s H) : gD P ops (.bool b) want op d rest Q s H := by
  cases b
  · exact h2 rfl
  · exact h1 rfl
theorem condD_bool (h1 : b = true → cwp P n D x Q s H) (h2 : b = false → cwp P n D y Q s H) : condD P n D (.bool b) x y Q s H := condD_split h1 h2
end
theorem VRs.le {sn : Snap} {ρ : Env} {xs ys : List AV} {vs : List Value} (h : VRs sn ρ xs vs) (hl : LeL xs ys) : VRs sn ρ ys vs :=
  ⟨by rw [← hl.len]; exact h.1, fun k y v hy hv => by
    obtain ⟨x, hx, hle⟩ := hl.get hy
    exact (h.2 k x v hx hv).le hle⟩
/-- Weaker arguments. -/
theorem ACalls.leA {P : Program} {f : FuncId} {args args' : List AV} {H : Heap} {Q : CQ} (hl : LeL args args') (h : ACalls P f args' H Q) : ACalls P f args H Q :=
  fun sn ρ w vs hR hv => h sn ρ w vs hR (hv.le hl)
theorem LeV.vw {f : Bool} {sz : Nat} {xs : List (List AV)} : LeV (.view f sz xs) (.view false sz xs) := .view f false sz (by simp) (by
  have : ∀ xs : List (List AV), LeR xs xs := fun xs => by
    induction xs with
    | nil => exact .nil
    | cons x xs ih => exact .cons (LeL.refl x) ih
  exact this xs)
theorem u8_lt (b : UInt8) : (b.toNat : Int) < 256 := by have := b.toNat_lt; omega
theorem u8_ge (b : UInt8) : (0 : Int) ≤ b.toNat := Int.natCast_nonneg _
theorem kill_len : ∀ (ks : List Nat) (H : Heap), (kill H ks).length = H.length
  | [], _ => rfl
  | k :: ks, H => by rw [kill, kill_len ks]; simp
theorem kill_get : ∀ (ks : List Nat) (H : Heap) (i : Nat), (i ∉ ks → (kill H ks)[i]? = H[i]?) ∧ (i ∈ ks → i < H.length → (kill H ks)[i]? = some .dead)
  | [], H, i => ⟨fun _ => rfl, fun h => by simp at h⟩
  | k :: ks, H, i => by
    obtain ⟨h1, h2⟩ := kill_get ks (H.set k .dead) i
    refine ⟨fun hn => ?_, fun hm hl => ?_⟩
    · simp only [List.mem_cons, not_or] at hn
      rw [kill, h1 hn.2, List.getElem?_set_ne (fun e => hn.1 e.symm)]
    · rw [kill]
      by_cases hk : i ∈ ks
      · exact h2 hk (by simpa using hl)
      · have : i = k := by simpa [hk] using hm
        subst this
        rw [h1 hk, List.getElem?_set_self hl]
/-- All blocks but some. -/
def allBut (n : Nat) (rs : List Nat) : List Nat := (List.range n).filter fun i => !rs.contains i
theorem kill_but {H : Heap} {rs : List Nat} {b : Blk} (hb : b ∈ kill H (allBut H.length rs)) : b = .dead ∨ ∃ r, r ∈ rs ∧ H[r]? = some b := by
  obtain ⟨i, hi⟩ := List.getElem?_of_mem hb
  have hl : i < H.length := by have := (List.getElem?_eq_some_iff.1 hi).1; rwa [kill_len] at this
  by_cases h : i ∈ rs
  · rw [(kill_get _ H i).1 (by simp [allBut, h])] at hi
    exact .inr ⟨i, h, hi⟩
  · rw [(kill_get _ H i).2 (by simp [allBut, h, hl]) hl] at hi
    exact .inl (Option.some.inj hi).symm
/-- The end, with slices of one new block. -/
theorem up_one {post : CQ} {o : Out} {H : Heap} (r sz : Nat) (xs : List (List AV)) (hr : H[r]? = some (.rows sz xs)) (hp : ∀ row ∈ xs, ltL 0 row = true) (hok : o.fzOk r xs.length) (hv : (o.fz r sz xs).lt 0) (h : post (o.fz r sz xs) []) : Up 0 post o H := by
  have hg : (kill H (allBut H.length [r]))[r]? = some (.rows sz xs) := by rw [(kill_get _ H r).1 (by simp [allBut]), hr]
  refine Up.kill (allBut H.length [r]) H (.fz r sz xs hg (fun row hrow x hx => ltL_mem (hp row hrow) x hx) hok ?_ (.gc 0 (Nat.le_refl _) (Nat.zero_le _) hv (by simp) (.done (by simpa using h))))
  intro b hb
  rcases List.mem_or_eq_of_mem_set hb with hb | rfl
  · rcases kill_but hb with rfl | ⟨q, hq, hb2⟩
    · trivial
    · simp at hq; subst hq; rw [hr] at hb2; injection hb2 with hb2; subst hb2; exact bfzOk_pure hp
  · trivial
theorem fzz {r sz : Nat} {xs : List (List AV)} (v : AV) : (Out.ret v).fz r sz xs = .ret (v.fz r sz xs) := rfl
/-- The end, with slices of two new blocks. -/
theorem up_two {post : CQ} {o : Out} {H : Heap} (r sz : Nat) (xs : List (List AV)) (q sy : Nat) (ys : List (List AV)) (hrq : r ≠ q) (hr : H[r]? = some (.rows sz xs)) (hq : H[q]? = some (.rows sy ys)) (hp : ∀ row ∈ xs, ltL 0 row = true) (hp2 : ∀ row ∈ ys, ltL 0 row = true) (hok : o.fzOk r xs.length) (hok2 : (o.fz r sz xs).fzOk q ys.length)
    (hv : ((o.fz r sz xs).fz q sy ys).lt 0) (h : post ((o.fz r sz xs).fz q sy ys) []) : Up 0 post o H := by
  have hg : (kill H (allBut H.length [r, q]))[r]? = some (.rows sz xs) := by rw [(kill_get _ H r).1 (by simp [allBut]), hr]
  have hg2 : (kill H (allBut H.length [r, q]))[q]? = some (.rows sy ys) := by rw [(kill_get _ H q).1 (by simp [allBut]), hq]
  have hall : ∀ b ∈ kill H (allBut H.length [r, q]), b.lt 0 := fun b hb => by
    rcases kill_but hb with rfl | ⟨k, hk, hb2⟩
    · trivial
    · simp at hk
      rcases hk with rfl | rfl
      · rw [hr] at hb2; injection hb2 with hb2; subst hb2; exact hp
      · rw [hq] at hb2; injection hb2 with hb2; subst hb2; exact hp2
  refine Up.kill (allBut H.length [r, q]) H (.fz r sz xs hg (fun row hrow x hx => ltL_mem (hp row hrow) x hx) hok ?_ ?_)
  · intro b hb
    rcases List.mem_or_eq_of_mem_set hb with hb | rfl
    · exact bok0 (hall b hb)
    · trivial
  · have hm : (((kill H (allBut H.length [r, q])).set r .dead).map (Blk.fz r sz xs)) = (kill H (allBut H.length [r, q])).set r .dead := by
      conv => rhs; rw [← List.map_id' ((kill H (allBut H.length [r, q])).set r .dead)]
      refine List.map_congr_left fun b hb => ?_
      rcases List.mem_or_eq_of_mem_set hb with hb | rfl
      · exact bfz0 (hall b hb)
      · rfl
    rw [hm]
    refine .fz q sy ys (by rw [List.getElem?_set_ne hrq]; exact hg2) (fun row hrow x hx => ltL_mem (hp2 row hrow) x hx) hok2 ?_ (.gc 0 (Nat.le_refl _) (Nat.zero_le _) hv (by simp) (.done (by simpa using h)))
    intro b hb
    rcases List.mem_or_eq_of_mem_set hb with hb | rfl
    · rcases List.mem_or_eq_of_mem_set hb with hb | rfl
      · exact bok0 (hall b hb)
      · trivial
    · trivial
theorem rows_lt {α : Type} {f : α → List AV} (h : ∀ a, ltL 0 (f a) = true) (l : List α) : ∀ row ∈ l.map f, ltL 0 row = true := by
  intro row hr
  obtain ⟨n, _, rfl⟩ := List.mem_map.1 hr
  exact h n
theorem r1_lt0 (l : List Int) : ∀ row ∈ l.map r1, ltL 0 row = true := rows_lt (fun _ => rfl) l
theorem rb_lt0 (l : List UInt8) : ∀ row ∈ l.map rb, ltL 0 row = true := rows_lt (fun _ => rfl) l
theorem blt0 {sz m : Nat} {xs : List (List AV)} (h : ∀ row ∈ xs, ltL 0 row = true) : (Blk.rows sz xs).lt m := fun row hr => ltL_le (Nat.zero_le m) (h row hr)
end Go.AM

set_option linter.unusedVariables false
set_option linter.unusedSimpArgs false
namespace Go.AM
mutual
/-- A value that names no memory. -/
def AV.bare : AV → Bool
  | .view _ _ xs => xs.isEmpty
  | .iface _ v => AV.bare v
  | .agg cs => bareL cs
  | .tuple vs => bareL vs
  | .any | .bool _ | .int _ _ | .str _ | .nilptr | .nilchan | .nilmap | .nilfunc | .nilif => true
  | .ptr _ _ _ | .cptr _ _ | .sl _ _ _ _ | .rsl _ _ _ _ | .chan _ | .yfn _ | .map _ | .func _ _ _ => false
def bareL : List AV → Bool
  | [] => true
  | x :: xs => AV.bare x && bareL xs
end
theorem bareL_get : ∀ {xs : List AV}, bareL xs = true → ∀ {k : Nat} {x : AV}, xs[k]? = some x → x.bare = true
  | [], _, k, x, h => by simp at h
  | y :: ys, hl, k, x, h => by
    simp only [bareL, Bool.and_eq_true] at hl
    cases k with
    | zero => simp at h; subst h; exact hl.1
    | succ k => exact bareL_get hl.2 (by simpa using h)
theorem VR.bare {sn sn' : Snap} {ρ : Env} {x : AV} {v : Value} (h : VR sn ρ x v) : ∀ {ρ' : Env}, x.bare = true → VR sn' ρ' x v := by
  induction h with
  | any => intro _ _; exact .any _ _
  | bool => intro _ _; exact .bool _ _
  | int => intro _ _; exact .int _ _ _
  | str => intro _ _; exact .str _ _
  | nilptr => intro _ _; exact .nilptr _
  | ptr ρ r i j p h => intro _ hf; simp [AV.bare] at hf
  | cptr => intro _ hf; simp [AV.bare] at hf
  | view ρ full sz xs a b o c vs hl hm hf ha hz hc ho hr ih =>
    intro ρ' hfl
    have : xs = [] := by simpa [AV.bare] using hfl
    subst this
    exact .view _ full sz [] a b o c vs hl hm hf ha (by simp) (by simp) (by simp) (by simp)
  | sl => intro _ hf; simp [AV.bare] at hf
  | sl0 => intro _ hf; simp [AV.bare] at hf
  | rsl => intro _ hf; simp [AV.bare] at hf
  | nilchan => intro _ _; exact .nilchan _
  | chan => intro _ hf; simp [AV.bare] at hf
  | yfn => intro _ hf; simp [AV.bare] at hf
  | nilmap => intro _ _; exact .nilmap _
  | map => intro _ hf; simp [AV.bare] at hf
  | nilfunc => intro _ _; exact .nilfunc _
  | func => intro _ hf; simp [AV.bare] at hf
  | nilif => intro _ _; exact .nilif _
  | iface ρ t x y h ih => intro ρ' hf; simp only [AV.bare] at hf; exact .iface _ _ _ _ (ih hf)
  | agg ρ xs ys hs h ih => intro ρ' hf; simp only [AV.bare] at hf; exact .agg _ _ _ hs (fun k x y hx hy => ih k x y hx hy (bareL_get hf hx))
  | tuple ρ xs ys hs h ih => intro ρ' hf; simp only [AV.bare] at hf; exact .tuple _ _ _ hs (fun k x y hx hy => ih k x y hx hy (bareL_get hf hx))
/-- A function that sees no own block leaves all memory as it is. -/
theorem ACalls.reads {P : Program} {f : FuncId} {args args' : List AV} {v : AV} {H : Heap} (hv : v.bare = true) (hc : ACalls P f args' [] (fun o H => o = .ret v ∧ H = []))
    (ha : ∀ (sn : Snap) (ρ : Env) (w : World) (vs : Array Value), Rel sn ρ H w → VRs sn ρ args vs.toList → VRs (snapAll w) noEnv args' vs.toList) : ACalls P f args H (fun o H2 => o = .ret v ∧ H2 = H) := by
  intro sn ρ w vs hR hvs
  refine (hc (snapAll w) noEnv w vs (rel_all (hR.gl.mono hR.snap)) (ha sn ρ w vs hR hvs)).mono ?_
  rintro e w' ⟨sn', ρ', H', out, o1, R', E, rfl, rfl⟩
  have fr : ∀ b o, w.heap[b]? = some o → w'.heap[b]? = some o := fun b o hb => by
    rw [E.frame b (Array.getElem?_eq_some_iff.1 hb).1 (fun ⟨r, blk, p, h, _⟩ => by simp at h), hb]
  refine ⟨sn, ρ, H, .ret v, ?_, ⟨hR.gl, fun b o h => fr b o (hR.snap b o h), fun r blk p h1 h2 h3 => ?_, hR.inj, hR.top⟩, ⟨fun _ _ h => h, fun _ _ => rfl, Nat.le_refl _, fun _ _ h => h, E.below, E.os, E.tape, E.output, fun b hb _ => E.frame b hb (fun ⟨r, blk, p, h, _⟩ => by simp at h), fun b h => absurd rfl h, fun b h => .inr h⟩, rfl, rfl⟩
  · cases e with
    | returned cv => exact VR.bare (show VR sn' ρ' v cv from o1) hv
    | _ => exact o1.elim
  · obtain ⟨g1, o, g2, g3⟩ := hR.own r blk p h1 h2 h3
    exact ⟨g1, o, fr _ _ g2, g3⟩
theorem ACalls.lend {P : Program} {f : FuncId} {args : List AV} {v : AV} {H : Heap} (r : Nat) {sz : Nat} {xs : List (List AV)} (hv : v.bare = true) (h1 : H[r]? = some (.rows sz xs)) (h2 : ∀ row ∈ xs, ∀ x ∈ row, x.pure = true) (h3 : fzOkL r xs.length args) (hp : ltL 0 (fzL r sz xs args) = true)
    (hc : ACalls P f (fzL r sz xs args) [] (fun o H => o = .ret v ∧ H = [])) : ACalls P f args H (fun o H2 => o = .ret v ∧ H2 = H) := by
  refine ACalls.reads hv hc fun sn ρ w vs hR hvs => ?_
  refine ⟨by rw [fzL_map, List.length_map]; exact hvs.1, fun k x y hx hy => ?_⟩
  have hx' := hx
  rw [fzL_map, List.getElem?_map, Option.map_eq_some_iff] at hx
  obtain ⟨z, hz, rfl⟩ := hx
  exact (VR.fz hR h1 h2 (sn' := snapAll w) hR.snap (fun p _ => rfl) (hvs.2 k z y hz hy) rfl (fzOkL_get h3 hz)).pure (ltL_get hp hx')
/-- A function that makes a block. -/
theorem ACalls.fresh {P : Program} {f : FuncId} {args : List AV} {v v' : AV} {b : Blk} {H : Heap} (hc : ACalls P f args [] (fun o H => o = .ret v ∧ H = [b])) (ha : ltL 0 args = true) (hb : b.lt 0) (hv : v.ren (pi [] H.length) = v') : ACalls P f args H (fun o H2 => o = .ret v' ∧ H2 = H ++ [b]) := by
  refine hc.useE [] v' (H ++ [b]) List.nodup_nil rfl (by simp) rfl (renL_pure' ha).symm hv ?_
  simp [patch, setMany, bren_lt (m := 0) (fun k hk => absurd hk (Nat.not_lt_zero k)) hb]
end Go.AM
