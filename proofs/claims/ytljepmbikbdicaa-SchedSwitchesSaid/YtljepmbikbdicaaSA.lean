/- The types of this program, as the walk uses them. No condition. -/
import Derived.Test.YtljepmbikbdicaaKC
import Derived.Test.YtljepmbikbdicaaProg
import Derived.Test.YtljepmbikbdicaaKE
import Derived.KernelRfl
set_option maxRecDepth 100000
namespace Go.Proofs.Ytljepmbikbdicaa
open Go.AM
theorem T1 : tinfo Try.prog 1 = some ⟨1, 8, [.nilfunc], .func⟩ := by kernel_rfl
theorem Z1 : tzero Try.prog 1 = some (.nilfunc) := by kernel_rfl
theorem T2 : tinfo Try.prog 2 = some ⟨1, 8, [.int .i64 0], .int .i64⟩ := by kernel_rfl
theorem Z2 : tzero Try.prog 2 = some (.int .i64 0) := by kernel_rfl
theorem T3 : tinfo Try.prog 3 = some ⟨1, 8, [.int .i64 0], .int .i64⟩ := by kernel_rfl
theorem Z3 : tzero Try.prog 3 = some (.int .i64 0) := by kernel_rfl
theorem T4 : tinfo Try.prog 4 = some ⟨1, 1, [.bool false], .bool⟩ := by kernel_rfl
theorem Z4 : tzero Try.prog 4 = some (.bool false) := by kernel_rfl
theorem T5 : tinfo Try.prog 5 = some ⟨1, 1, [.int .u8 0], .int .u8⟩ := by kernel_rfl
theorem Z5 : tzero Try.prog 5 = some (.int .u8 0) := by kernel_rfl
theorem T7 : tinfo Try.prog 7 = some ⟨4, 24, [.int .i64 0, .int .i64 0, .bool false, .int .u8 0], .struct [(0, 2), (1, 3), (2, 4), (3, 6)]⟩ := by kernel_rfl
theorem Z7 : tzero Try.prog 7 = some (.agg [.int .i64 0, .int .i64 0, .bool false, .int .u8 0]) := by kernel_rfl
theorem T9 : tinfo Try.prog 9 = some ⟨1, 16, [.str ⟨#[]⟩], .str⟩ := by kernel_rfl
theorem Z9 : tzero Try.prog 9 = some (.str ⟨#[]⟩) := by kernel_rfl
theorem T12 : tinfo Try.prog 12 = some ⟨1, 8, [.int .u64 0], .int .u64⟩ := by kernel_rfl
theorem Z12 : tzero Try.prog 12 = some (.int .u64 0) := by kernel_rfl
theorem T13 : tinfo Try.prog 13 = some ⟨2, 24, [.str ⟨#[]⟩, .int .u64 0], .struct [(0, 9), (1, 12)]⟩ := by kernel_rfl
theorem Z13 : tzero Try.prog 13 = some (.agg [.str ⟨#[]⟩, .int .u64 0]) := by kernel_rfl
theorem T15 : tinfo Try.prog 15 = some ⟨1, 8, [.nilptr], .ptr 111⟩ := by kernel_rfl
theorem Z15 : tzero Try.prog 15 = some (.nilptr) := by kernel_rfl
theorem T16 : tinfo Try.prog 16 = some ⟨1, 8, [.nilptr], .ptr 114⟩ := by kernel_rfl
theorem Z16 : tzero Try.prog 16 = some (.nilptr) := by kernel_rfl
theorem T20 : tinfo Try.prog 20 = some ⟨1, 16, [.nilif], .iface⟩ := by kernel_rfl
theorem Z20 : tzero Try.prog 20 = some (.nilif) := by kernel_rfl
theorem T21 : tinfo Try.prog 21 = some ⟨1, 4, [.int .i32 0], .int .i32⟩ := by kernel_rfl
theorem Z21 : tzero Try.prog 21 = some (.int .i32 0) := by kernel_rfl
theorem T22 : tinfo Try.prog 22 = some ⟨1, 24, [.view true 0 []], .slice 32⟩ := by kernel_rfl
theorem Z22 : tzero Try.prog 22 = some (.view true 0 []) := by kernel_rfl
theorem T23 : tinfo Try.prog 23 = some ⟨1, 24, [.view true 0 []], .slice 35⟩ := by kernel_rfl
theorem Z23 : tzero Try.prog 23 = some (.view true 0 []) := by kernel_rfl
theorem T24 : tinfo Try.prog 24 = some ⟨3, 56, [.view true 0 [], .view true 0 [], .int .i64 0], .struct [(0, 22), (1, 23), (2, 3)]⟩ := by kernel_rfl
theorem Z24 : tzero Try.prog 24 = some (.agg [.view true 0 [], .view true 0 [], .int .i64 0]) := by kernel_rfl
theorem T25 : tinfo Try.prog 25 = some ⟨3, 56, [.view true 0 [], .view true 0 [], .int .i64 0], .struct [(0, 22), (1, 23), (2, 3)]⟩ := by kernel_rfl
theorem Z25 : tzero Try.prog 25 = some (.agg [.view true 0 [], .view true 0 [], .int .i64 0]) := by kernel_rfl
theorem T26 : tinfo Try.prog 26 = some ⟨1, 8, [.nilfunc], .func⟩ := by kernel_rfl
theorem Z26 : tzero Try.prog 26 = some (.nilfunc) := by kernel_rfl
theorem T27 : tinfo Try.prog 27 = some ⟨1, 8, [.int .i64 0], .int .i64⟩ := by kernel_rfl
theorem Z27 : tzero Try.prog 27 = some (.int .i64 0) := by kernel_rfl
theorem T29 : tinfo Try.prog 29 = some ⟨1, 8, [.nilfunc], .func⟩ := by kernel_rfl
theorem Z29 : tzero Try.prog 29 = some (.nilfunc) := by kernel_rfl
theorem T30 : tinfo Try.prog 30 = some ⟨1, 24, [.view true 0 []], .slice 3⟩ := by kernel_rfl
theorem Z30 : tzero Try.prog 30 = some (.view true 0 []) := by kernel_rfl
theorem T31 : tinfo Try.prog 31 = some ⟨3, 40, [.int .i64 0, .int .i64 0, .view true 0 []], .struct [(0, 3), (1, 3), (2, 30)]⟩ := by kernel_rfl
theorem Z31 : tzero Try.prog 31 = some (.agg [.int .i64 0, .int .i64 0, .view true 0 []]) := by kernel_rfl
theorem T32 : tinfo Try.prog 32 = some ⟨3, 40, [.int .i64 0, .int .i64 0, .view true 0 []], .struct [(0, 3), (1, 3), (2, 30)]⟩ := by kernel_rfl
theorem Z32 : tzero Try.prog 32 = some (.agg [.int .i64 0, .int .i64 0, .view true 0 []]) := by kernel_rfl
theorem T33 : tinfo Try.prog 33 = some ⟨1, 8, [.nilfunc], .func⟩ := by kernel_rfl
theorem Z33 : tzero Try.prog 33 = some (.nilfunc) := by kernel_rfl
theorem T34 : tinfo Try.prog 34 = some ⟨3, 24, [.int .i64 0, .int .i64 0, .int .i64 0], .struct [(0, 3), (1, 3), (2, 3)]⟩ := by kernel_rfl
theorem Z34 : tzero Try.prog 34 = some (.agg [.int .i64 0, .int .i64 0, .int .i64 0]) := by kernel_rfl
theorem E35 : aEqTy Try.prog 35 = some [.i, .i, .i] := by kernel_rfl
theorem T35 : tinfo Try.prog 35 = some ⟨3, 24, [.int .i64 0, .int .i64 0, .int .i64 0], .struct [(0, 3), (1, 3), (2, 3)]⟩ := by kernel_rfl
theorem Z35 : tzero Try.prog 35 = some (.agg [.int .i64 0, .int .i64 0, .int .i64 0]) := by kernel_rfl
theorem T36 : tinfo Try.prog 36 = some ⟨1, 8, [.nilfunc], .func⟩ := by kernel_rfl
theorem Z36 : tzero Try.prog 36 = some (.nilfunc) := by kernel_rfl
theorem T38 : tinfo Try.prog 38 = some ⟨1, 8, [.nilfunc], .func⟩ := by kernel_rfl
theorem Z38 : tzero Try.prog 38 = some (.nilfunc) := by kernel_rfl
theorem T39 : tinfo Try.prog 39 = some ⟨1, 8, [.nilfunc], .func⟩ := by kernel_rfl
theorem Z39 : tzero Try.prog 39 = some (.nilfunc) := by kernel_rfl
theorem T40 : tinfo Try.prog 40 = some ⟨2, 16, [.int .i64 0, .int .i64 0], .array 2 3⟩ := by kernel_rfl
theorem Z40 : tzero Try.prog 40 = some (.agg [.int .i64 0, .int .i64 0]) := by kernel_rfl
theorem T41 : tinfo Try.prog 41 = some ⟨1, 8, [.nilfunc], .func⟩ := by kernel_rfl
theorem Z41 : tzero Try.prog 41 = some (.nilfunc) := by kernel_rfl
theorem T43 : tinfo Try.prog 43 = some ⟨1, 8, [.nilfunc], .func⟩ := by kernel_rfl
theorem Z43 : tzero Try.prog 43 = some (.nilfunc) := by kernel_rfl
theorem T44 : tinfo Try.prog 44 = some ⟨1, 8, [.nilfunc], .func⟩ := by kernel_rfl
theorem Z44 : tzero Try.prog 44 = some (.nilfunc) := by kernel_rfl
theorem T45 : tinfo Try.prog 45 = some ⟨1, 8, [.nilfunc], .func⟩ := by kernel_rfl
theorem Z45 : tzero Try.prog 45 = some (.nilfunc) := by kernel_rfl
theorem T46 : tinfo Try.prog 46 = some ⟨6, 80, [.view true 0 [], .view true 0 [], .int .i64 0, .int .i64 0, .bool false, .int .i64 0], .struct [(0, 25), (3, 3), (4, 4), (5, 27)]⟩ := by kernel_rfl
theorem Z46 : tzero Try.prog 46 = some (.agg [.view true 0 [], .view true 0 [], .int .i64 0, .int .i64 0, .bool false, .int .i64 0]) := by kernel_rfl
theorem T47 : tinfo Try.prog 47 = some ⟨6, 80, [.view true 0 [], .view true 0 [], .int .i64 0, .int .i64 0, .bool false, .int .i64 0], .struct [(0, 25), (3, 3), (4, 4), (5, 27)]⟩ := by kernel_rfl
theorem Z47 : tzero Try.prog 47 = some (.agg [.view true 0 [], .view true 0 [], .int .i64 0, .int .i64 0, .bool false, .int .i64 0]) := by kernel_rfl
theorem T48 : tinfo Try.prog 48 = some ⟨1, 8, [.nilfunc], .func⟩ := by kernel_rfl
theorem Z48 : tzero Try.prog 48 = some (.nilfunc) := by kernel_rfl
theorem T49 : tinfo Try.prog 49 = some ⟨1, 8, [.nilfunc], .func⟩ := by kernel_rfl
theorem Z49 : tzero Try.prog 49 = some (.nilfunc) := by kernel_rfl
theorem T50 : tinfo Try.prog 50 = some ⟨1, 8, [.nilfunc], .func⟩ := by kernel_rfl
theorem Z50 : tzero Try.prog 50 = some (.nilfunc) := by kernel_rfl
theorem T51 : tinfo Try.prog 51 = some ⟨1, 8, [.nilfunc], .func⟩ := by kernel_rfl
theorem Z51 : tzero Try.prog 51 = some (.nilfunc) := by kernel_rfl
theorem T52 : tinfo Try.prog 52 = some ⟨1, 8, [.nilfunc], .func⟩ := by kernel_rfl
theorem Z52 : tzero Try.prog 52 = some (.nilfunc) := by kernel_rfl
theorem T53 : tinfo Try.prog 53 = some ⟨1, 8, [.nilfunc], .func⟩ := by kernel_rfl
theorem Z53 : tzero Try.prog 53 = some (.nilfunc) := by kernel_rfl
theorem T54 : tinfo Try.prog 54 = some ⟨1, 8, [.nilfunc], .func⟩ := by kernel_rfl
theorem Z54 : tzero Try.prog 54 = some (.nilfunc) := by kernel_rfl
theorem T55 : tinfo Try.prog 55 = some ⟨1, 24, [.view true 0 []], .slice 58⟩ := by kernel_rfl
theorem Z55 : tzero Try.prog 55 = some (.view true 0 []) := by kernel_rfl
theorem T56 : tinfo Try.prog 56 = some ⟨1, 8, [.nilfunc], .func⟩ := by kernel_rfl
theorem Z56 : tzero Try.prog 56 = some (.nilfunc) := by kernel_rfl
theorem T57 : tinfo Try.prog 57 = some ⟨3, 24, [.int .i64 0, .int .i64 0, .int .i64 0], .struct [(0, 3), (1, 3), (2, 3)]⟩ := by kernel_rfl
theorem Z57 : tzero Try.prog 57 = some (.agg [.int .i64 0, .int .i64 0, .int .i64 0]) := by kernel_rfl
theorem E58 : aEqTy Try.prog 58 = some [.i, .i, .i] := by kernel_rfl
theorem T58 : tinfo Try.prog 58 = some ⟨3, 24, [.int .i64 0, .int .i64 0, .int .i64 0], .struct [(0, 3), (1, 3), (2, 3)]⟩ := by kernel_rfl
theorem Z58 : tzero Try.prog 58 = some (.agg [.int .i64 0, .int .i64 0, .int .i64 0]) := by kernel_rfl
theorem T59 : tinfo Try.prog 59 = some ⟨1, 8, [.nilfunc], .func⟩ := by kernel_rfl
theorem Z59 : tzero Try.prog 59 = some (.nilfunc) := by kernel_rfl
theorem T60 : tinfo Try.prog 60 = some ⟨1, 8, [.nilfunc], .func⟩ := by kernel_rfl
theorem Z60 : tzero Try.prog 60 = some (.nilfunc) := by kernel_rfl
theorem T61 : tinfo Try.prog 61 = some ⟨1, 8, [.nilfunc], .func⟩ := by kernel_rfl
theorem Z61 : tzero Try.prog 61 = some (.nilfunc) := by kernel_rfl
theorem T62 : tinfo Try.prog 62 = some ⟨1, 8, [.nilfunc], .func⟩ := by kernel_rfl
theorem Z62 : tzero Try.prog 62 = some (.nilfunc) := by kernel_rfl
theorem T63 : tinfo Try.prog 63 = some ⟨1, 8, [.nilfunc], .func⟩ := by kernel_rfl
theorem Z63 : tzero Try.prog 63 = some (.nilfunc) := by kernel_rfl
theorem T64 : tinfo Try.prog 64 = some ⟨1, 8, [.nilfunc], .func⟩ := by kernel_rfl
theorem Z64 : tzero Try.prog 64 = some (.nilfunc) := by kernel_rfl
theorem T65 : tinfo Try.prog 65 = some ⟨1, 8, [.nilfunc], .func⟩ := by kernel_rfl
theorem Z65 : tzero Try.prog 65 = some (.nilfunc) := by kernel_rfl
theorem T66 : tinfo Try.prog 66 = some ⟨1, 8, [.nilptr], .ptr 72⟩ := by kernel_rfl
theorem Z66 : tzero Try.prog 66 = some (.nilptr) := by kernel_rfl
theorem T67 : tinfo Try.prog 67 = some ⟨1, 8, [.nilptr], .ptr 32⟩ := by kernel_rfl
theorem Z67 : tzero Try.prog 67 = some (.nilptr) := by kernel_rfl
theorem T68 : tinfo Try.prog 68 = some ⟨1, 8, [.nilfunc], .func⟩ := by kernel_rfl
theorem Z68 : tzero Try.prog 68 = some (.nilfunc) := by kernel_rfl
theorem T69 : tinfo Try.prog 69 = some ⟨1, 8, [.nilfunc], .func⟩ := by kernel_rfl
theorem Z69 : tzero Try.prog 69 = some (.nilfunc) := by kernel_rfl
theorem T70 : tinfo Try.prog 70 = some ⟨1, 8, [.nilfunc], .func⟩ := by kernel_rfl
theorem Z70 : tzero Try.prog 70 = some (.nilfunc) := by kernel_rfl
theorem T71 : tinfo Try.prog 71 = some ⟨3, 56, [.view true 0 [], .view true 0 [], .int .i64 0], .struct [(0, 25)]⟩ := by kernel_rfl
theorem Z71 : tzero Try.prog 71 = some (.agg [.view true 0 [], .view true 0 [], .int .i64 0]) := by kernel_rfl
theorem T72 : tinfo Try.prog 72 = some ⟨3, 56, [.view true 0 [], .view true 0 [], .int .i64 0], .struct [(0, 25)]⟩ := by kernel_rfl
theorem Z72 : tzero Try.prog 72 = some (.agg [.view true 0 [], .view true 0 [], .int .i64 0]) := by kernel_rfl
theorem T73 : tinfo Try.prog 73 = some ⟨1, 8, [.nilfunc], .func⟩ := by kernel_rfl
theorem Z73 : tzero Try.prog 73 = some (.nilfunc) := by kernel_rfl
theorem T74 : tinfo Try.prog 74 = some ⟨1, 8, [.nilfunc], .func⟩ := by kernel_rfl
theorem Z74 : tzero Try.prog 74 = some (.nilfunc) := by kernel_rfl
theorem T75 : tinfo Try.prog 75 = some ⟨1, 8, [.nilptr], .ptr 35⟩ := by kernel_rfl
theorem Z75 : tzero Try.prog 75 = some (.nilptr) := by kernel_rfl
theorem T76 : tinfo Try.prog 76 = some ⟨1, 8, [.nilfunc], .func⟩ := by kernel_rfl
theorem Z76 : tzero Try.prog 76 = some (.nilfunc) := by kernel_rfl
theorem T77 : tinfo Try.prog 77 = some ⟨1, 8, [.nilfunc], .func⟩ := by kernel_rfl
theorem Z77 : tzero Try.prog 77 = some (.nilfunc) := by kernel_rfl
theorem T78 : tinfo Try.prog 78 = some ⟨1, 8, [.nilfunc], .func⟩ := by kernel_rfl
theorem Z78 : tzero Try.prog 78 = some (.nilfunc) := by kernel_rfl
theorem T79 : tinfo Try.prog 79 = some ⟨1, 8, [.nilfunc], .func⟩ := by kernel_rfl
theorem Z79 : tzero Try.prog 79 = some (.nilfunc) := by kernel_rfl
theorem T80 : tinfo Try.prog 80 = some ⟨1, 8, [.nilfunc], .func⟩ := by kernel_rfl
theorem Z80 : tzero Try.prog 80 = some (.nilfunc) := by kernel_rfl
theorem T81 : tinfo Try.prog 81 = some ⟨1, 8, [.nilfunc], .func⟩ := by kernel_rfl
theorem Z81 : tzero Try.prog 81 = some (.nilfunc) := by kernel_rfl
theorem T82 : tinfo Try.prog 82 = some ⟨1, 8, [.nilfunc], .func⟩ := by kernel_rfl
theorem Z82 : tzero Try.prog 82 = some (.nilfunc) := by kernel_rfl
theorem T83 : tinfo Try.prog 83 = some ⟨1, 8, [.nilfunc], .func⟩ := by kernel_rfl
theorem Z83 : tzero Try.prog 83 = some (.nilfunc) := by kernel_rfl
theorem T84 : tinfo Try.prog 84 = some ⟨1, 8, [.nilfunc], .func⟩ := by kernel_rfl
theorem Z84 : tzero Try.prog 84 = some (.nilfunc) := by kernel_rfl
theorem T85 : tinfo Try.prog 85 = some ⟨1, 8, [.nilfunc], .func⟩ := by kernel_rfl
theorem Z85 : tzero Try.prog 85 = some (.nilfunc) := by kernel_rfl
theorem T86 : tinfo Try.prog 86 = some ⟨1, 8, [.nilfunc], .func⟩ := by kernel_rfl
theorem Z86 : tzero Try.prog 86 = some (.nilfunc) := by kernel_rfl
theorem T87 : tinfo Try.prog 87 = some ⟨1, 8, [.nilfunc], .func⟩ := by kernel_rfl
theorem Z87 : tzero Try.prog 87 = some (.nilfunc) := by kernel_rfl
theorem T88 : tinfo Try.prog 88 = some ⟨1, 8, [.nilfunc], .func⟩ := by kernel_rfl
theorem Z88 : tzero Try.prog 88 = some (.nilfunc) := by kernel_rfl
theorem T90 : tinfo Try.prog 90 = some ⟨1, 8, [.nilfunc], .func⟩ := by kernel_rfl
theorem Z90 : tzero Try.prog 90 = some (.nilfunc) := by kernel_rfl
theorem T91 : tinfo Try.prog 91 = some ⟨1, 8, [.int .i64 0], .struct [(0, 27)]⟩ := by kernel_rfl
theorem Z91 : tzero Try.prog 91 = some (.agg [.int .i64 0]) := by kernel_rfl
theorem E92 : aEqTy Try.prog 92 = some [.i] := by kernel_rfl
theorem T92 : tinfo Try.prog 92 = some ⟨1, 8, [.int .i64 0], .struct [(0, 27)]⟩ := by kernel_rfl
theorem Z92 : tzero Try.prog 92 = some (.agg [.int .i64 0]) := by kernel_rfl
theorem T93 : tinfo Try.prog 93 = some ⟨1, 8, [.nilfunc], .func⟩ := by kernel_rfl
theorem Z93 : tzero Try.prog 93 = some (.nilfunc) := by kernel_rfl
theorem T94 : tinfo Try.prog 94 = some ⟨1, 8, [.nilfunc], .func⟩ := by kernel_rfl
theorem Z94 : tzero Try.prog 94 = some (.nilfunc) := by kernel_rfl
theorem T95 : tinfo Try.prog 95 = some ⟨1, 24, [.view true 0 []], .slice 3⟩ := by kernel_rfl
theorem Z95 : tzero Try.prog 95 = some (.view true 0 []) := by kernel_rfl
theorem T96 : tinfo Try.prog 96 = some ⟨1, 8, [.nilfunc], .func⟩ := by kernel_rfl
theorem Z96 : tzero Try.prog 96 = some (.nilfunc) := by kernel_rfl
theorem T97 : tinfo Try.prog 97 = some ⟨1, 8, [.nilfunc], .func⟩ := by kernel_rfl
theorem Z97 : tzero Try.prog 97 = some (.nilfunc) := by kernel_rfl
theorem T98 : tinfo Try.prog 98 = some ⟨1, 8, [.nilmap], .map 3 4⟩ := by kernel_rfl
theorem Z98 : tzero Try.prog 98 = some (.nilmap) := by kernel_rfl
theorem T99 : tinfo Try.prog 99 = some ⟨1, 8, [.nilfunc], .func⟩ := by kernel_rfl
theorem Z99 : tzero Try.prog 99 = some (.nilfunc) := by kernel_rfl
theorem T100 : tinfo Try.prog 100 = some ⟨1, 8, [.nilfunc], .func⟩ := by kernel_rfl
theorem Z100 : tzero Try.prog 100 = some (.nilfunc) := by kernel_rfl
theorem T101 : tinfo Try.prog 101 = some ⟨1, 8, [.nilfunc], .func⟩ := by kernel_rfl
theorem Z101 : tzero Try.prog 101 = some (.nilfunc) := by kernel_rfl
theorem T102 : tinfo Try.prog 102 = some ⟨1, 8, [.nilptr], .ptr 25⟩ := by kernel_rfl
theorem Z102 : tzero Try.prog 102 = some (.nilptr) := by kernel_rfl
theorem T103 : tinfo Try.prog 103 = some ⟨1, 8, [.nilfunc], .func⟩ := by kernel_rfl
theorem Z103 : tzero Try.prog 103 = some (.nilfunc) := by kernel_rfl
theorem T104 : tinfo Try.prog 104 = some ⟨1, 8, [.nilfunc], .func⟩ := by kernel_rfl
theorem Z104 : tzero Try.prog 104 = some (.nilfunc) := by kernel_rfl
theorem T105 : tinfo Try.prog 105 = some ⟨1, 8, [.nilfunc], .func⟩ := by kernel_rfl
theorem Z105 : tzero Try.prog 105 = some (.nilfunc) := by kernel_rfl
theorem T106 : tinfo Try.prog 106 = some ⟨1, 8, [.nilfunc], .func⟩ := by kernel_rfl
theorem Z106 : tzero Try.prog 106 = some (.nilfunc) := by kernel_rfl
theorem T107 : tinfo Try.prog 107 = some ⟨1, 8, [.nilfunc], .func⟩ := by kernel_rfl
theorem Z107 : tzero Try.prog 107 = some (.nilfunc) := by kernel_rfl
theorem T108 : tinfo Try.prog 108 = some ⟨1, 8, [.nilfunc], .func⟩ := by kernel_rfl
theorem Z108 : tzero Try.prog 108 = some (.nilfunc) := by kernel_rfl
theorem T109 : tinfo Try.prog 109 = some ⟨1, 8, [.nilfunc], .func⟩ := by kernel_rfl
theorem Z109 : tzero Try.prog 109 = some (.nilfunc) := by kernel_rfl
theorem T112 : tinfo Try.prog 112 = some ⟨0, 0, [], .array 0 16⟩ := by kernel_rfl
theorem Z112 : tzero Try.prog 112 = some (.agg []) := by kernel_rfl
theorem T113 : tinfo Try.prog 113 = some ⟨0, 0, [], .struct [(0, 112)]⟩ := by kernel_rfl
theorem Z113 : tzero Try.prog 113 = some (.agg []) := by kernel_rfl
theorem T115 : tinfo Try.prog 115 = some ⟨1, 8, [.nilfunc], .func⟩ := by kernel_rfl
theorem Z115 : tzero Try.prog 115 = some (.nilfunc) := by kernel_rfl
theorem T116 : tinfo Try.prog 116 = some ⟨1, 4, [.int .u32 0], .int .u32⟩ := by kernel_rfl
theorem Z116 : tzero Try.prog 116 = some (.int .u32 0) := by kernel_rfl
theorem T119 : tinfo Try.prog 119 = some ⟨1, 8, [.nilfunc], .func⟩ := by kernel_rfl
theorem Z119 : tzero Try.prog 119 = some (.nilfunc) := by kernel_rfl
theorem T120 : tinfo Try.prog 120 = some ⟨1, 8, [.nilptr], .ptr 5⟩ := by kernel_rfl
theorem Z120 : tzero Try.prog 120 = some (.nilptr) := by kernel_rfl
theorem T125 : tinfo Try.prog 125 = some ⟨1, 8, [.nilptr], .other⟩ := by kernel_rfl
theorem Z125 : tzero Try.prog 125 = some (.nilptr) := by kernel_rfl
attribute [go_sem] T1 Z1 T2 Z2 T3 Z3 T4 Z4 T5 Z5 T7 Z7 T9 Z9 T12 Z12 T13 Z13 T15 Z15 T16 Z16 T20 Z20 T21 Z21 T22 Z22 T23 Z23 T24 Z24 T25 Z25 T26 Z26 T27 Z27 T29 Z29 T30 Z30 T31 Z31 T32 Z32 T33 Z33 T34 Z34 E35 T35 Z35 T36 Z36 T38 Z38 T39 Z39 T40 Z40 T41 Z41 T43 Z43 T44 Z44 T45 Z45 T46 Z46 T47 Z47 T48 Z48 T49 Z49 T50 Z50 T51 Z51 T52 Z52 T53 Z53 T54 Z54 T55 Z55 T56 Z56 T57 Z57 E58 T58 Z58 T59 Z59 T60 Z60 T61 Z61 T62 Z62 T63 Z63 T64 Z64 T65 Z65 T66 Z66 T67 Z67 T68 Z68 T69 Z69 T70 Z70 T71 Z71 T72 Z72 T73 Z73 T74 Z74 T75 Z75 T76 Z76 T77 Z77 T78 Z78 T79 Z79 T80 Z80 T81 Z81 T82 Z82 T83 Z83 T84 Z84 T85 Z85 T86 Z86 T87 Z87 T88 Z88 T90 Z90 T91 Z91 E92 T92 Z92 T93 Z93 T94 Z94 T95 Z95 T96 Z96 T97 Z97 T98 Z98 T99 Z99 T100 Z100 T101 Z101 T102 Z102 T103 Z103 T104 Z104 T105 Z105 T106 Z106 T107 Z107 T108 Z108 T109 Z109 T112 Z112 T113 Z113 T115 Z115 T116 Z116 T119 Z119 T120 Z120 T125 Z125
end Go.Proofs.Ytljepmbikbdicaa

set_option maxRecDepth 100000
set_option linter.unusedVariables false
set_option linter.unusedSimpArgs false
namespace Go.Proofs.Ytljepmbikbdicaa
open Go.AM
abbrev iv (n : Int) : AV := .int .i64 n
abbrev r1 (n : Int) : List AV := [.int .i64 n]
/-- The place of an element, or -1. -/
def idx (x : Int) : List Int → Int → Int
  | [], _ => -1
  | y :: l, i => if y = x then i else idx x l (i + 1)
theorem drop_at {α : Type} {l : List α} {i : Nat} {y : α} (h : l[i]? = some y) : l.drop i = y :: l.drop (i + 1) := by
  obtain ⟨h1, rfl⟩ := List.getElem?_eq_some_iff.1 h
  exact List.drop_eq_getElem_cons h1
theorem at_lt {α : Type} {l : List α} {i : Nat} (h : i < l.length) : ∃ y, l[i]? = some y := ⟨_, List.getElem?_eq_getElem h⟩
theorem index_c (l : List Int) (x : Int) (full : Bool) : ACalls Try.prog 101 [.view full 1 (l.map r1), iv x] [] (fun o H => o = .ret (iv (idx x l 0)) ∧ H = []) := by
  refine ACalls.small fun hsm => ?_
  simp only [smallL, AV.small, List.length_map, maxLen] at hsm
  refine ACalls.intro (cs := []) (n := 19) Try.func101 rfl rfl rfl (by kernel_rfl) rfl ?_
  simp only [go_sem, Nat.reduceAdd, Nat.reduceSub, Nat.reduceMul, Nat.reduceEqDiff, Nat.reduceLeDiff, Nat.reduceLT, ↓reduceIte, Int.reduceToNat, reduceCtorEq]
  refine loop_fam (fun i : Nat => ((((Ch.nil.put 0 (.view full 1 (l.map r1))).put 1 (iv x)).put 7 (iv l.length)).put 8 (iv i))) (fun _ => []) (fun i => l.length - i) (fun i => i ≤ l.length ∧ idx x l 0 = idx x (l.drop i) i) 0 (by kernel_rfl) ⟨Nat.zero_le _, by simp⟩ (Wk.slots' rfl (by simp [wkS, Ch.get])) ?_
  rintro i ⟨hi, hx⟩ K hK
  simp only [go_sem, Nat.reduceAdd, Nat.reduceSub, Nat.reduceMul, Nat.reduceEqDiff, Nat.reduceLeDiff, Nat.reduceLT, ↓reduceIte, Int.reduceToNat, reduceCtorEq]
  refine condD_dec (fun hc => ?_) (fun hc => ?_)
  · have hc' : i < l.length := by omega
    obtain ⟨y, hy⟩ := at_lt hc'
    have e1 : iw .i64 ((i : Int) + 1) = ((i + 1 : Nat) : Int) := by rw [iw64] <;> omega
    simp only [go_sem, Nat.reduceAdd, Nat.reduceSub, Nat.reduceMul, Nat.reduceEqDiff, Nat.reduceLeDiff, Nat.reduceLT, ↓reduceIte, Int.reduceToNat, reduceCtorEq, List.length_map, List.getElem?_map, hy, hc, Int.natCast_nonneg]
    refine condD_dec (fun hd => ?_) (fun hd => ?_)
    · simp only [go_sem, Nat.reduceAdd, Nat.reduceSub, Nat.reduceMul, Nat.reduceEqDiff, Nat.reduceLeDiff, Nat.reduceLT, ↓reduceIte, Int.reduceToNat, reduceCtorEq]
      rw [hx, drop_at hy, idx, if_pos hd.symm]
    · simp only [go_sem, Nat.reduceAdd, Nat.reduceSub, Nat.reduceMul, Nat.reduceEqDiff, Nat.reduceLeDiff, Nat.reduceLT, ↓reduceIte, Int.reduceToNat, reduceCtorEq, e1]
      refine hK (i + 1) _ _ ⟨hc', ?_⟩ (by omega) (Wk.slots' rfl (by simp [wkS, Ch.get]))
      rw [hx, drop_at hy, idx, if_neg (fun e => hd e.symm)]
      simp
  · simp only [go_sem, Nat.reduceAdd, Nat.reduceSub, Nat.reduceMul, Nat.reduceEqDiff, Nat.reduceLeDiff, Nat.reduceLT, ↓reduceIte, Int.reduceToNat, reduceCtorEq]
    have : l.drop i = [] := by simp; omega
    rw [hx, this, idx]
theorem wkR_map' {α : Type} {f : α → List AV} (h : ∀ a, wkL (f a) = f a) (l : List α) : wkR (l.map f) = l.map f := by
  rw [wkR_map, List.map_map]
  exact List.map_congr_left fun a _ => h a
theorem r1_wk (n : Int) : wkL (r1 n) = r1 n := by simp [wkL, AV.wk]
theorem r1_pure (l : List Int) : ∀ row ∈ l.map r1, ∀ x ∈ row, x.pure = true := by
  intro row hr x hx
  obtain ⟨n, _, rfl⟩ := List.mem_map.1 hr
  simp at hx
  subst hx
  rfl
/-- A new slice that is returned, as a list. -/
theorem up_sl {α : Type} {f : α → List AV} {sz r n : Nat} {l : List α} {xs : List (List AV)} {H : Heap} {Q : CQ} (hr : H[r]? = some (.rows sz xs)) (he : xs = l.map f) (hn : n = l.length) (hp : ∀ row ∈ l.map f, ∀ x ∈ row, x.pure = true) (hb : ∀ b ∈ H.set r .dead, b.fzOk r l.length)
    (hq : Q (.ret (.view false sz (l.map f))) []) : Up 0 Q (.ret (.sl r 0 n none)) H := by
  subst he hn
  refine .fz r sz (l.map f) hr hp (by simp [Out.fzOk, AV.fzOk]) (by rw [List.length_map]; exact hb) (.gc 0 (Nat.le_refl _) (Nat.zero_le _) ?_ (by simp) (.done ?_))
  · simp [Out.fz, AV.fz, Out.lt, AV.lt]
  · have : (List.take l.length (l.map f)) = l.map f := List.take_of_length_le (by simp)
    simpa [Out.fz, AV.fz, this] using hq
theorem clone_int_c (l : List Int) (full : Bool) (hl : l.length ≤ 1000) : ACalls Try.prog 100 [.view full 1 (l.map r1)] [] (fun o H => o = .ret (.view false 1 (l.map r1)) ∧ H = []) := by
  refine ACalls.up ?_
  refine ACalls.intro (cs := []) (n := 8) Try.func100 rfl rfl rfl (by kernel_rfl) rfl ?_
  simp only [go_sem, Nat.reduceAdd, Nat.reduceSub, Nat.reduceMul, Nat.reduceEqDiff, Nat.reduceLeDiff, Nat.reduceLT, ↓reduceIte, Int.reduceToNat, reduceCtorEq, rK_ndb]
  intro b hb
  refine condD_split (fun e => ?_) (fun e => ?_)
  · have hl0 : l = [] := by
      rw [List.length_map] at hb
      rcases l with _ | ⟨x, l⟩
      · rfl
      · have := hb (by simp); rw [e] at this; cases this
    subst hl0
    simp only [go_sem, Nat.reduceAdd, Nat.reduceSub, Nat.reduceMul, Nat.reduceEqDiff, Nat.reduceLeDiff, Nat.reduceLT, ↓reduceIte, Int.reduceToNat, reduceCtorEq]
    exact .le (.ret (.nil _ _ 0 1 (by simp))) .nil (.done ⟨rfl, rfl⟩)
  · simp only [go_sem, Nat.reduceAdd, Nat.reduceSub, Nat.reduceMul, Nat.reduceEqDiff, Nat.reduceLeDiff, Nat.reduceLT, ↓reduceIte, Int.reduceToNat, reduceCtorEq, List.length_map]
    refine ⟨by omega, ?_⟩
    simp only [go_sem, Nat.reduceAdd, Nat.reduceSub, Nat.reduceMul, Nat.reduceEqDiff, Nat.reduceLeDiff, Nat.reduceLT, ↓reduceIte, Int.reduceToNat, reduceCtorEq]
    refine .fz 1 1 (l.map r1) rfl (r1_pure l) (by simp [Out.fzOk, AV.fzOk]) (by simp [Blk.fzOk]) ?_
    refine .gc 0 (Nat.le_refl _) (Nat.zero_le _) (by simp [Out.fz, AV.fz, Out.lt, AV.lt]) (by simp) (.done ⟨?_, rfl⟩)
    simp [Out.fz, AV.fz]
    rw [List.take_of_length_le (by simp)]
theorem at_c (l : List Int) (i : Nat) (x : Int) (full : Bool) (hl : l.length ≤ 1000) (hi : i ≤ l.length) : ACalls Try.prog 88 [.view full 1 (l.map r1), iv i, iv x] [] (fun o H => o = .ret (.view false 1 ((l.take i ++ x :: l.drop i).map r1)) ∧ H = []) := by
  refine ACalls.up ?_
  refine ACalls.intro (cs := []) (n := 18) Try.func88 rfl rfl rfl (by kernel_rfl) rfl ?_
  simp only [go_sem, Nat.reduceAdd, Nat.reduceSub, Nat.reduceMul, Nat.reduceEqDiff, Nat.reduceLeDiff, Nat.reduceLT, ↓reduceIte, Int.reduceToNat, reduceCtorEq]
  refine draw [.qu 0 1, .qu 0 1, .qu 0 1, .rd 0 1, .qu 0 0, .mn 0, .mn 1, .qu 0 2, .qu 0 2, .rd 0 2, .mn 2, .qu 3 3] (by kernel_rfl) (by kernel_rfl) ?_
  have e1 : (0 : Int) ≤ i := by omega
  have e2 : (i : Int) ≤ l.length := by omega
  have e3 : (List.take i (l.map r1)).length = i := by simp; omega
  have e4 : i ≤ 68719476735 := by omega
  have e5 : (i : Int).toNat = i := rfl
  simp only [go_sem, Nat.reduceAdd, Nat.reduceSub, Nat.reduceMul, Nat.reduceEqDiff, Nat.reduceLeDiff, Nat.reduceLT, ↓reduceIte, Int.reduceToNat, reduceCtorEq, List.length_map, e1, e2, Int.le_refl, e3, e4, false_and]
  refine ⟨⟨by simp; omega, by simp; omega⟩, ?_⟩
  refine up_sl (l := l.take i ++ x :: l.drop i) (f := r1) rfl ?_ ?_ (r1_pure _) (by simp [Blk.fzOk, fzOkL, AV.fzOk]) ⟨rfl, rfl⟩
  · rw [List.take_of_length_le (by simp; omega)]
    simp
  · simp; omega
theorem qindex_c (l : List Int) (x : Int) (full : Bool) : ACalls Try.prog 102 [.view full 1 (l.map r1), iv x] [] (fun o H => o = .ret (iv (idx x l 0)) ∧ H = []) := by
  refine ACalls.small fun hsm => ?_
  simp only [smallL, AV.small, List.length_map, maxLen] at hsm
  refine ACalls.intro (cs := []) (n := 19) Try.func102 rfl rfl rfl (by kernel_rfl) rfl ?_
  simp only [go_sem, Nat.reduceAdd, Nat.reduceSub, Nat.reduceMul, Nat.reduceEqDiff, Nat.reduceLeDiff, Nat.reduceLT, ↓reduceIte, Int.reduceToNat, reduceCtorEq]
  refine loop_fam (fun i : Nat => ((((Ch.nil.put 0 (.view full 1 (l.map r1))).put 1 (iv x)).put 7 (iv l.length)).put 8 (iv i))) (fun _ => []) (fun i => l.length - i) (fun i => i ≤ l.length ∧ idx x l 0 = idx x (l.drop i) i) 0 (by kernel_rfl) ⟨Nat.zero_le _, by simp⟩ (Wk.slots' rfl (by simp [wkS, Ch.get])) ?_
  rintro i ⟨hi, hx⟩ K hK
  simp only [go_sem, Nat.reduceAdd, Nat.reduceSub, Nat.reduceMul, Nat.reduceEqDiff, Nat.reduceLeDiff, Nat.reduceLT, ↓reduceIte, Int.reduceToNat, reduceCtorEq]
  refine condD_dec (fun hc => ?_) (fun hc => ?_)
  · have hc' : i < l.length := by omega
    obtain ⟨y, hy⟩ := at_lt hc'
    have e1 : iw .i64 ((i : Int) + 1) = ((i + 1 : Nat) : Int) := by rw [iw64] <;> omega
    simp only [go_sem, Nat.reduceAdd, Nat.reduceSub, Nat.reduceMul, Nat.reduceEqDiff, Nat.reduceLeDiff, Nat.reduceLT, ↓reduceIte, Int.reduceToNat, reduceCtorEq, List.length_map, List.getElem?_map, hy, hc, Int.natCast_nonneg]
    refine condD_dec (fun hd => ?_) (fun hd => ?_)
    · simp only [go_sem, Nat.reduceAdd, Nat.reduceSub, Nat.reduceMul, Nat.reduceEqDiff, Nat.reduceLeDiff, Nat.reduceLT, ↓reduceIte, Int.reduceToNat, reduceCtorEq]
      rw [hx, drop_at hy, idx, if_pos hd.symm]
    · simp only [go_sem, Nat.reduceAdd, Nat.reduceSub, Nat.reduceMul, Nat.reduceEqDiff, Nat.reduceLeDiff, Nat.reduceLT, ↓reduceIte, Int.reduceToNat, reduceCtorEq, e1]
      refine hK (i + 1) _ _ ⟨hc', ?_⟩ (by omega) (Wk.slots' rfl (by simp [wkS, Ch.get]))
      rw [hx, drop_at hy, idx, if_neg (fun e => hd e.symm)]
      simp
  · simp only [go_sem, Nat.reduceAdd, Nat.reduceSub, Nat.reduceMul, Nat.reduceEqDiff, Nat.reduceLeDiff, Nat.reduceLT, ↓reduceIte, Int.reduceToNat, reduceCtorEq]
    have : l.drop i = [] := by simp; omega
    rw [hx, this, idx]
theorem idx_add (x : Int) : ∀ (l : List Int) (i : Int), idx x l i = if x ∈ l then idx x l 0 + i else -1
  | [], i => by simp [idx]
  | y :: l, i => by
    by_cases h : y = x
    · simp [idx, h]
    · have h' : ¬ x = y := fun e => h e.symm
      simp only [idx, if_neg h, List.mem_cons, h', false_or]
      rw [idx_add x l (i + 1), idx_add x l (0 + 1)]
      split <;> omega
theorem idx_mem {x : Int} {l : List Int} (h : x ∈ l) : ∃ i : Nat, idx x l 0 = i ∧ i < l.length ∧ l.erase x = l.take i ++ l.drop (i + 1) := by
  induction l with
  | nil => cases h
  | cons y l ih =>
    by_cases e : y = x
    · exact ⟨0, by simp [idx, e], by simp, by simp [e]⟩
    · have hm : x ∈ l := by
        rcases List.mem_cons.1 h with h | h
        · exact absurd h.symm e
        · exact h
      obtain ⟨i, h1, h2, h3⟩ := ih hm
      refine ⟨i + 1, ?_, by simpa using h2, ?_⟩
      · simp only [idx, if_neg e]
        rw [idx_add, if_pos hm, h1]; simp
      · rw [List.erase_cons_tail (by simpa using e), h3]; simp
theorem idx_not {x : Int} {l : List Int} (h : x ∉ l) : idx x l 0 = -1 := by rw [idx_add, if_neg h]
theorem without_c (l : List Int) (x : Int) (full : Bool) (hl : l.length ≤ 1000) : ACalls Try.prog 91 [.view full 1 (l.map r1), iv x] [] (fun o H => o = .ret (.view false 1 ((l.erase x).map r1)) ∧ H = []) := by
  refine ACalls.up ?_
  refine ACalls.intro (cs := []) (n := 21) Try.func91 rfl rfl rfl (by kernel_rfl) rfl ?_
  simp only [go_sem, Nat.reduceAdd, Nat.reduceSub, Nat.reduceMul, Nat.reduceEqDiff, Nat.reduceLeDiff, Nat.reduceLT, ↓reduceIte, Int.reduceToNat, reduceCtorEq]
  refine rK_use (enters_of Try.func102 rfl (by decide)) (ACalls.pure_use (qindex_c l x full) rfl rfl) ?_
  simp only [go_sem, Nat.reduceAdd, Nat.reduceSub, Nat.reduceMul, Nat.reduceEqDiff, Nat.reduceLeDiff, Nat.reduceLT, ↓reduceIte, Int.reduceToNat, reduceCtorEq]
  by_cases hm : x ∈ l
  · obtain ⟨i, h1, h2, h3⟩ := idx_mem hm
    rw [h1]
    refine condD_dec (fun hc => by omega) (fun hc => ?_)
    have e0 : iw .i64 ((i : Int) + 1) = ((i + 1 : Nat) : Int) := by rw [iw64] <;> omega
    simp only [go_sem, Nat.reduceAdd, Nat.reduceSub, Nat.reduceMul, Nat.reduceEqDiff, Nat.reduceLeDiff, Nat.reduceLT, ↓reduceIte, Int.reduceToNat, reduceCtorEq, e0]
    refine draw [.qu 0 0, .qu 0 0, .qu 0 0, .qu 0 0, .qu 0 0, .qu 0 0, .qu 0 0, .qu 0 0, .mn 0, .qu 1 1] (by kernel_rfl) (by kernel_rfl) ?_
    have e1 : (0 : Int) ≤ i := by omega
    have e2 : (i : Int) ≤ l.length := by omega
    have e3 : (List.take i (l.map r1)).length = i := by simp; omega
    have e4 : ((i + 1 : Nat) : Int) ≤ l.length := by omega
    have e6 : (0 : Int) ≤ ((i + 1 : Nat) : Int) := by omega
    simp only [go_sem, Nat.reduceAdd, Nat.reduceSub, Nat.reduceMul, Nat.reduceEqDiff, Nat.reduceLeDiff, Nat.reduceLT, ↓reduceIte, Int.reduceToNat, reduceCtorEq, e0, List.length_map, e1, e2, e4, e6, Int.le_refl, e3]
    by_cases hq : (List.drop (i + 1) (l.map r1)).length = 0 ∧ ¬ i = 0
    · rw [if_pos hq]
      simp only [go_sem, Nat.reduceAdd, Nat.reduceSub, Nat.reduceMul, Nat.reduceEqDiff, Nat.reduceLeDiff, Nat.reduceLT, ↓reduceIte, Int.reduceToNat, reduceCtorEq]
      refine ⟨by omega, ?_⟩
      refine .wk (.done ⟨?_, rfl⟩)
      have hd : l.drop (i + 1) = [] := by
        have := hq.1
        simp at this
        simp; omega
      rw [h3, hd, ← List.map_take]
      simp [Out.wk, AV.wk, wkR_map' r1_wk, -List.map_take]
    · rw [if_neg hq]
      simp only [go_sem, Nat.reduceAdd, Nat.reduceSub, Nat.reduceMul, Nat.reduceEqDiff, Nat.reduceLeDiff, Nat.reduceLT, ↓reduceIte, Int.reduceToNat, reduceCtorEq]
      refine ⟨by simp; omega, ?_⟩
      refine up_sl (l := l.erase x) (f := r1) rfl ?_ ?_ (r1_pure _) (by simp [Blk.fzOk]) ⟨rfl, rfl⟩
      · rw [h3]; simp
      · rw [h3]; simp; omega
  · rw [idx_not hm]
    refine condD_dec (fun hc => ?_) (fun hc => by omega)
    simp only [go_sem, Nat.reduceAdd, Nat.reduceSub, Nat.reduceMul, Nat.reduceEqDiff, Nat.reduceLeDiff, Nat.reduceLT, ↓reduceIte, Int.reduceToNat, reduceCtorEq]
    refine .wk (.done ⟨?_, rfl⟩)
    simp [Out.wk, AV.wk, wkR_map' r1_wk, List.erase_of_not_mem hm]
end Go.Proofs.Ytljepmbikbdicaa

set_option maxRecDepth 100000
set_option linter.unusedVariables false
set_option linter.unusedSimpArgs false
namespace Go.Proofs.Ytljepmbikbdicaa
open Go.AM
def idxF (p : Int → Bool) : List Int → Int → Int
  | [], _ => -1
  | y :: l, i => if p y = true then i else idxF p l (i + 1)
theorem indexFunc_c (l : List Int) (p : Int → Bool) (full : Bool) (g : FuncId) (cap : List AV) (H : Heap) (hE : Enters Try.prog g) (hg : ∀ x ∈ l, ACalls Try.prog g (iv x :: cap) H (fun o H2 => o = .ret (.bool (p x)) ∧ H2 = H)) :
    ACalls Try.prog 86 [.view full 1 (l.map r1), .func (.func g) [] cap] H (fun o H2 => o = .ret (iv (idxF p l 0)) ∧ H2 = H) := by
  refine ACalls.small fun hsm => ?_
  simp only [smallL, AV.small, List.length_map, maxLen] at hsm
  refine ACalls.intro (cs := []) (n := 19) Try.func86 rfl rfl rfl (by kernel_rfl) rfl ?_
  simp only [go_sem, Nat.reduceAdd, Nat.reduceSub, Nat.reduceMul, Nat.reduceEqDiff, Nat.reduceLeDiff, Nat.reduceLT, ↓reduceIte, Int.reduceToNat, reduceCtorEq]
  refine loop_fam (fun i : Nat => ((((Ch.nil.put 0 (.view full 1 (l.map r1))).put 1 (.func (.func g) [] cap)).put 7 (iv l.length)).put 8 (iv i))) (fun _ => H) (fun i => l.length - i) (fun i => i ≤ l.length ∧ idxF p l 0 = idxF p (l.drop i) i) 0 (by kernel_rfl) ⟨Nat.zero_le _, by simp⟩ (Wk.slots' rfl (by simp [wkS, Ch.get])) ?_
  rintro i ⟨hi, hx⟩ K hK
  simp only [go_sem, Nat.reduceAdd, Nat.reduceSub, Nat.reduceMul, Nat.reduceEqDiff, Nat.reduceLeDiff, Nat.reduceLT, ↓reduceIte, Int.reduceToNat, reduceCtorEq]
  refine condD_dec (fun hc => ?_) (fun hc => ?_)
  · have hc' : i < l.length := by omega
    obtain ⟨y, hy⟩ := at_lt hc'
    have e1 : iw .i64 ((i : Int) + 1) = ((i + 1 : Nat) : Int) := by rw [iw64] <;> omega
    simp only [go_sem, Nat.reduceAdd, Nat.reduceSub, Nat.reduceMul, Nat.reduceEqDiff, Nat.reduceLeDiff, Nat.reduceLT, ↓reduceIte, Int.reduceToNat, reduceCtorEq, List.length_map, List.getElem?_map, hy, hc, Int.natCast_nonneg]
    refine rK_use hE (hg y (List.mem_of_getElem? hy)) ?_
    simp only [go_sem, Nat.reduceAdd, Nat.reduceSub, Nat.reduceMul, Nat.reduceEqDiff, Nat.reduceLeDiff, Nat.reduceLT, ↓reduceIte, Int.reduceToNat, reduceCtorEq]
    refine condD_split (fun hd => ?_) (fun hd => ?_)
    · simp only [go_sem, Nat.reduceAdd, Nat.reduceSub, Nat.reduceMul, Nat.reduceEqDiff, Nat.reduceLeDiff, Nat.reduceLT, ↓reduceIte, Int.reduceToNat, reduceCtorEq]
      rw [hx, drop_at hy, idxF, if_pos hd]
    · simp only [go_sem, Nat.reduceAdd, Nat.reduceSub, Nat.reduceMul, Nat.reduceEqDiff, Nat.reduceLeDiff, Nat.reduceLT, ↓reduceIte, Int.reduceToNat, reduceCtorEq, e1]
      refine hK (i + 1) _ _ ⟨hc', ?_⟩ (by omega) (Wk.slots' rfl (by simp [wkS, Ch.get]))
      rw [hx, drop_at hy, idxF, if_neg (by simp [hd])]
      simp
  · simp only [go_sem, Nat.reduceAdd, Nat.reduceSub, Nat.reduceMul, Nat.reduceEqDiff, Nat.reduceLeDiff, Nat.reduceLT, ↓reduceIte, Int.reduceToNat, reduceCtorEq]
    have : l.drop i = [] := by simp; omega
    rw [hx, this, idxF]
theorem idx_nonneg (x : Int) (l : List Int) : (0 ≤ idx x l 0) = (x ∈ l) := by
  by_cases h : x ∈ l
  · obtain ⟨i, h1, _⟩ := idx_mem h
    rw [h1]; simp [h]
  · rw [idx_not h]; simp [h]
theorem contains_c (l : List Int) (x : Int) (full : Bool) : ACalls Try.prog 90 [.view full 1 (l.map r1), iv x] [] (fun o H => o = .ret (.bool (decide (x ∈ l))) ∧ H = []) := by
  refine ACalls.intro (cs := []) (n := 9) Try.func90 rfl rfl rfl (by kernel_rfl) rfl ?_
  simp only [go_sem, Nat.reduceAdd, Nat.reduceSub, Nat.reduceMul, Nat.reduceEqDiff, Nat.reduceLeDiff, Nat.reduceLT, ↓reduceIte, Int.reduceToNat, reduceCtorEq]
  refine rK_use (enters_of Try.func101 rfl (by decide)) (ACalls.pure_use (index_c l x full) rfl rfl) ?_
  simp only [go_sem, Nat.reduceAdd, Nat.reduceSub, Nat.reduceMul, Nat.reduceEqDiff, Nat.reduceLeDiff, Nat.reduceLT, ↓reduceIte, Int.reduceToNat, reduceCtorEq, ge_iff_le, idx_nonneg]
def refuse (e : Int) : AV := .iface 92 (.agg [iv e])
theorem must_c (b : Bool) (e : Int) : ACalls Try.prog 54 [.bool b, iv e] [] (fun o H => o = (if b = true then .ret (.tuple []) else .pan (refuse e)) ∧ H = []) := by
  refine ACalls.intro (cs := []) (n := 9) Try.func54 rfl rfl rfl (by kernel_rfl) rfl ?_
  simp only [go_sem, Nat.reduceAdd, Nat.reduceSub, Nat.reduceMul, Nat.reduceEqDiff, Nat.reduceLeDiff, Nat.reduceLT, ↓reduceIte, Int.reduceToNat, reduceCtorEq]
  cases b
  · simp only [go_sem, Nat.reduceAdd, Nat.reduceSub, Nat.reduceMul, Nat.reduceEqDiff, Nat.reduceLeDiff, Nat.reduceLT, ↓reduceIte, Int.reduceToNat, reduceCtorEq]
    rfl
  · simp only [go_sem, Nat.reduceAdd, Nat.reduceSub, Nat.reduceMul, Nat.reduceEqDiff, Nat.reduceLeDiff, Nat.reduceLT, ↓reduceIte, Int.reduceToNat, reduceCtorEq]
theorem must_t (e : Int) : ACalls Try.prog 54 [.bool true, iv e] [] (fun o H => o = .ret (.tuple []) ∧ H = []) := (must_c true e).mono fun _ _ h => by simpa using h
theorem must_f (e : Int) : ACalls Try.prog 54 [.bool false, iv e] [] (fun o H => o = .pan (refuse e) ∧ H = []) := (must_c false e).mono fun _ _ h => by simpa using h
theorem isPri_c (x : Int) : ACalls Try.prog 55 [iv x] [] (fun o H => o = .ret (.bool (decide (0 ≤ x ∧ x ≤ 7))) ∧ H = []) := by
  refine ACalls.intro (cs := []) (n := 9) Try.func55 rfl rfl rfl (by kernel_rfl) rfl ?_
  simp only [go_sem, Nat.reduceAdd, Nat.reduceSub, Nat.reduceMul, Nat.reduceEqDiff, Nat.reduceLeDiff, Nat.reduceLT, ↓reduceIte, Int.reduceToNat, reduceCtorEq]
  refine gD_dec (fun hc => ?_) (fun hc => ?_) <;> simp only [go_sem, Nat.reduceAdd, Nat.reduceSub, Nat.reduceMul, Nat.reduceEqDiff, Nat.reduceLeDiff, Nat.reduceLT, ↓reduceIte, Int.reduceToNat, reduceCtorEq, hc, true_and, false_and]
end Go.Proofs.Ytljepmbikbdicaa

set_option maxRecDepth 100000
set_option linter.unusedVariables false
set_option linter.unusedSimpArgs false
namespace Go.Proofs.Ytljepmbikbdicaa
open Go.AM
structure Q where
  run : Int
  left : Int
  ready : List Int
structure T where
  pri : Int
  cpu : Int
  st : Int
structure S where
  cpus : List Q
  thr : List T
  quantum : Int
def Q.row (q : Q) : List AV := [iv q.run, iv q.left, .view false 1 (q.ready.map r1)]
def T.row (t : T) : List AV := [iv t.pri, iv t.cpu, iv t.st]
def S.av (s : S) : AV := .agg [.view false 3 (s.cpus.map Q.row), .view false 3 (s.thr.map T.row), iv s.quantum]
/-- The state at work: w, its processors, its threads. -/
def S.heap (s : S) (rest : Heap) : Heap := .rows 3 [[.sl 1 0 s.cpus.length none, .sl 2 0 s.thr.length none, iv s.quantum]] :: .rows 3 (s.cpus.map Q.row) :: .rows 3 (s.thr.map T.row) :: rest
theorem S.heap_lt (s : S) : ∀ b ∈ s.heap [], b.lt 3 := by
  intro b hb
  simp only [S.heap, List.mem_cons, List.not_mem_nil, or_false] at hb
  rcases hb with rfl | rfl | rfl
  · simp [Blk.lt, ltL, AV.lt]
  · intro row hr
    obtain ⟨q, _, rfl⟩ := List.mem_map.1 hr
    simp [Q.row, ltL, AV.lt]
  · intro row hr
    obtain ⟨t, _, rfl⟩ := List.mem_map.1 hr
    simp [T.row, ltL, AV.lt]
theorem S.heap_up {s : S} {H : Heap} {v : AV} {Q : CQ} (hv : v.lt 3 = true) (hl : 3 ≤ H.length) (he : H.take 3 = s.heap []) (hq : Q (.ret v) (s.heap [])) : Up 3 Q (.ret v) H :=
  .gc 3 (Nat.le_refl _) hl (by simpa [Out.lt] using hv) (he ▸ s.heap_lt) (.done (by rw [he]; exact hq))
theorem S.heap_upp {s : S} {H : Heap} {v : AV} {Q : CQ} (hv : v.lt 3 = true) (hl : 3 ≤ H.length) (he : H.take 3 = s.heap []) (hq : Q (.pan v) (s.heap [])) : Up 3 Q (.pan v) H :=
  .gc 3 (Nat.le_refl _) hl (by simpa [Out.lt] using hv) (he ▸ s.heap_lt) (.done (by rw [he]; exact hq))
theorem cpu_c (s : S) (n : Int) : ACalls Try.prog 47 [.ptr 0 0 0, iv n] (s.heap []) (fun o H => o = (if 0 ≤ n ∧ n < s.cpus.length then .ret (.ptr 1 n.toNat 0) else .pan (refuse 52)) ∧ H = s.heap []) := by
  refine ACalls.intro (cs := []) (n := 25) Try.func47 rfl rfl rfl (by kernel_rfl) rfl ?_
  simp only [go_sem, Nat.reduceAdd, Nat.reduceSub, Nat.reduceMul, Nat.reduceEqDiff, Nat.reduceLeDiff, Nat.reduceLT, ↓reduceIte, Int.reduceToNat, reduceCtorEq, S.heap]
  refine gD_dec (fun hc => ?_) (fun hc => ?_) <;> simp only [go_sem, Nat.reduceAdd, Nat.reduceSub, Nat.reduceMul, Nat.reduceEqDiff, Nat.reduceLeDiff, Nat.reduceLT, ↓reduceIte, Int.reduceToNat, reduceCtorEq, hc, List.length_map]
  · by_cases h2 : n < s.cpus.length
    · rw [decide_eq_true h2]
      refine rK_use (enters_of Try.func54 rfl (by decide)) (ACalls.pure_use (must_t _) rfl rfl) ?_
      simp only [go_sem, Nat.reduceAdd, Nat.reduceSub, Nat.reduceMul, Nat.reduceEqDiff, Nat.reduceLeDiff, Nat.reduceLT, ↓reduceIte, Int.reduceToNat, reduceCtorEq, List.length_map, hc, h2]
    · rw [decide_eq_false h2]
      refine rK_pans (enters_of Try.func54 rfl (by decide)) (ACalls.pure_pan (must_f _) rfl rfl) ?_
      simp only [go_sem, Nat.reduceAdd, Nat.reduceSub, Nat.reduceMul, Nat.reduceEqDiff, Nat.reduceLeDiff, Nat.reduceLT, ↓reduceIte, Int.reduceToNat, reduceCtorEq, hc, h2, and_false]
  · refine rK_pans (enters_of Try.func54 rfl (by decide)) (ACalls.pure_pan (must_f _) rfl rfl) ?_
    simp only [go_sem, Nat.reduceAdd, Nat.reduceSub, Nat.reduceMul, Nat.reduceEqDiff, Nat.reduceLeDiff, Nat.reduceLT, ↓reduceIte, Int.reduceToNat, reduceCtorEq, hc, false_and]
end Go.Proofs.Ytljepmbikbdicaa

set_option maxRecDepth 100000
set_option linter.unusedVariables false
set_option linter.unusedSimpArgs false
namespace Go.Proofs.Ytljepmbikbdicaa
open Go.AM
theorem thread_ok (s : S) (i : Nat) (t : T) (l : List Int) (full : Bool) (ht : s.thr[i]? = some t) : ACalls Try.prog 57 [.ptr 0 0 0, iv i, .view full 1 (l.map r1)] (s.heap []) (fun o H => o = (if t.st ∈ l then .ret (.ptr 2 i 0) else .pan (refuse 51)) ∧ H = s.heap []) := by
  have hlt : i < s.thr.length := (List.getElem?_eq_some_iff.1 ht).1
  have h1 : (i : Int) < s.thr.length := by omega
  have h0 : (0 : Int) ≤ i := by omega
  refine ACalls.intro (cs := []) (n := 40) Try.func57 rfl rfl rfl (by kernel_rfl) rfl ?_
  simp only [go_sem, Nat.reduceAdd, Nat.reduceSub, Nat.reduceMul, Nat.reduceEqDiff, Nat.reduceLeDiff, Nat.reduceLT, ↓reduceIte, Int.reduceToNat, reduceCtorEq, S.heap, List.length_map, List.getElem?_map, ht, h1, h0, hlt, T.row, Nat.add_eq]
  refine rK_use (enters_of Try.func90 rfl (by decide)) (ACalls.pure_use (contains_c l t.st full) rfl rfl) ?_
  by_cases h2 : t.st ∈ l
  · simp only [go_sem, Nat.reduceAdd, Nat.reduceSub, Nat.reduceMul, Nat.reduceEqDiff, Nat.reduceLeDiff, Nat.reduceLT, ↓reduceIte, Int.reduceToNat, reduceCtorEq, h2]
    refine rK_use (enters_of Try.func54 rfl (by decide)) (ACalls.pure_use (must_t _) rfl rfl) ?_
    simp only [go_sem, Nat.reduceAdd, Nat.reduceSub, Nat.reduceMul, Nat.reduceEqDiff, Nat.reduceLeDiff, Nat.reduceLT, ↓reduceIte, Int.reduceToNat, reduceCtorEq, S.heap, List.length_map, List.getElem?_map, ht, h1, h0, hlt, T.row]
  · simp only [go_sem, Nat.reduceAdd, Nat.reduceSub, Nat.reduceMul, Nat.reduceEqDiff, Nat.reduceLeDiff, Nat.reduceLT, ↓reduceIte, Int.reduceToNat, reduceCtorEq, h2]
    refine rK_pans (enters_of Try.func54 rfl (by decide)) (ACalls.pure_pan (must_f _) rfl rfl) ?_
    simp only [go_sem, Nat.reduceAdd, Nat.reduceSub, Nat.reduceMul, Nat.reduceEqDiff, Nat.reduceLeDiff, Nat.reduceLT, ↓reduceIte, Int.reduceToNat, reduceCtorEq, S.heap]
theorem thread_no (s : S) (n : Int) (l : List Int) (full : Bool) (hn : ¬ (0 ≤ n ∧ n < s.thr.length)) : ACalls Try.prog 57 [.ptr 0 0 0, iv n, .view full 1 (l.map r1)] (s.heap []) (fun o H => o = .pan (refuse 51) ∧ H = s.heap []) := by
  refine ACalls.intro (cs := []) (n := 40) Try.func57 rfl rfl rfl (by kernel_rfl) rfl ?_
  simp only [go_sem, Nat.reduceAdd, Nat.reduceSub, Nat.reduceMul, Nat.reduceEqDiff, Nat.reduceLeDiff, Nat.reduceLT, ↓reduceIte, Int.reduceToNat, reduceCtorEq, S.heap]
  refine gD_dec (fun hc => ?_) (fun hc => ?_)
  · have h2 : ¬ n < s.thr.length := fun h => hn ⟨hc, h⟩
    simp only [go_sem, Nat.reduceAdd, Nat.reduceSub, Nat.reduceMul, Nat.reduceEqDiff, Nat.reduceLeDiff, Nat.reduceLT, ↓reduceIte, Int.reduceToNat, reduceCtorEq, hc, List.length_map, h2]
    refine rK_pans (enters_of Try.func54 rfl (by decide)) (ACalls.pure_pan (must_f _) rfl rfl) ?_
    simp only [go_sem, Nat.reduceAdd, Nat.reduceSub, Nat.reduceMul, Nat.reduceEqDiff, Nat.reduceLeDiff, Nat.reduceLT, ↓reduceIte, Int.reduceToNat, reduceCtorEq]
  · simp only [go_sem, Nat.reduceAdd, Nat.reduceSub, Nat.reduceMul, Nat.reduceEqDiff, Nat.reduceLeDiff, Nat.reduceLT, ↓reduceIte, Int.reduceToNat, reduceCtorEq, hc, List.length_map]
    refine rK_pans (enters_of Try.func54 rfl (by decide)) (ACalls.pure_pan (must_f _) rfl rfl) ?_
    simp only [go_sem, Nat.reduceAdd, Nat.reduceSub, Nat.reduceMul, Nat.reduceEqDiff, Nat.reduceLeDiff, Nat.reduceLT, ↓reduceIte, Int.reduceToNat, reduceCtorEq]
end Go.Proofs.Ytljepmbikbdicaa

set_option maxRecDepth 100000
set_option linter.unusedVariables false
set_option linter.unusedSimpArgs false
namespace Go.Proofs.Ytljepmbikbdicaa
open Go.AM
def S.pri (s : S) (x : Int) : Int := match s.thr[x.toNat]? with
  | some t => t.pri
  | none => 0
def S.below (s : S) (p : Int) (front : Bool) (x : Int) : Bool := decide (s.pri x < p) || (front && decide (s.pri x = p))
def ins (l : List Int) (k x : Int) : List Int := if k < 0 then l ++ [x] else l.take k.toNat ++ x :: l.drop k.toNat
def S.put (s : S) (i : Nat) (front : Bool) : S := match s.thr[i]? with
  | none => s
  | some t => match s.cpus[t.cpu.toNat]? with
    | none => s
    | some q => { s with thr := s.thr.set i { t with st := 1 }, cpus := s.cpus.set t.cpu.toNat { q with ready := ins q.ready (idxF (s.below t.pri front) q.ready 0) i } }
theorem idxF_le (p : Int → Bool) : ∀ (l : List Int) (i : Int), idxF p l i < i + l.length ∨ idxF p l i = -1
  | [], i => by simp [idxF]
  | y :: l, i => by
    have := idxF_le p l (i + 1)
    simp only [idxF, List.length_cons]
    split <;> omega
theorem S.pri_st {s : S} {i : Nat} {t : T} {st : Int} (ht : s.thr[i]? = some t) (x : Int) : S.pri { s with thr := s.thr.set i { t with st := st } } x = s.pri x := by
  simp only [S.pri, List.getElem?_set]
  have hlt : i < s.thr.length := (List.getElem?_eq_some_iff.1 ht).1
  by_cases hx : i = x.toNat
  · rw [if_pos hx, if_pos hlt, ← hx, ht]
  · rw [if_neg hx]
theorem put1_c (s : S) (cs : List (List AV)) (i : Nat) (front : Bool) (t : T) (nc : Nat) (ht : s.thr[i]? = some t) (x : Int) (h0 : 0 ≤ x) (h1 : x < s.thr.length) :
    ACalls Try.prog 87 [iv x, .ptr 3 0 0, .ptr 5 0 0, .ptr 4 0 0] [.rows 3 [[.sl 1 0 nc none, .sl 2 0 s.thr.length none, iv s.quantum]], .rows 3 cs, .rows 3 (s.thr.map T.row), .rows 1 [[.ptr 0 0 0]], .rows 1 [[.bool front]], .rows 1 [[.ptr 2 i 0]]]
      (fun o H => o = .ret (.bool (s.below t.pri front x)) ∧ H = [.rows 3 [[.sl 1 0 nc none, .sl 2 0 s.thr.length none, iv s.quantum]], .rows 3 cs, .rows 3 (s.thr.map T.row), .rows 1 [[.ptr 0 0 0]], .rows 1 [[.bool front]], .rows 1 [[.ptr 2 i 0]]]) := by
  have hlt : i < s.thr.length := (List.getElem?_eq_some_iff.1 ht).1
  obtain ⟨y, hy⟩ : ∃ y, s.thr[x.toNat]? = some y := ⟨_, List.getElem?_eq_getElem (by omega)⟩
  have hxl : x.toNat < s.thr.length := by omega
  have hb : s.below t.pri front x = (decide (y.pri < t.pri) || (front && decide (y.pri = t.pri))) := by simp [S.below, S.pri, hy]
  rw [hb]
  refine ACalls.intro (cs := []) (n := 33) Try.func87 rfl rfl rfl (by kernel_rfl) rfl ?_
  simp only [go_sem, Nat.reduceAdd, Nat.reduceSub, Nat.reduceMul, Nat.reduceEqDiff, Nat.reduceLeDiff, Nat.reduceLT, ↓reduceIte, Int.reduceToNat, reduceCtorEq, List.length_map, List.getElem?_map, ht, hy, h1, h0, hlt, hxl, T.row]
  refine gD_dec (fun hc => ?_) (fun hc => ?_) <;> simp only [go_sem, Nat.reduceAdd, Nat.reduceSub, Nat.reduceMul, Nat.reduceEqDiff, Nat.reduceLeDiff, Nat.reduceLT, ↓reduceIte, Int.reduceToNat, reduceCtorEq, List.length_map, List.getElem?_map, ht, hy, hlt, T.row, hc, Bool.true_or, Bool.false_or]
  cases front <;> simp only [go_sem, Nat.reduceAdd, Nat.reduceSub, Nat.reduceMul, Nat.reduceEqDiff, Nat.reduceLeDiff, Nat.reduceLT, ↓reduceIte, Int.reduceToNat, reduceCtorEq, List.length_map, List.getElem?_map, ht, hy, hlt, T.row, Bool.false_and, Bool.true_and]
theorem put_c (s : S) (i : Nat) (front : Bool) (t : T) (q : Q) (ht : s.thr[i]? = some t) (hc : 0 ≤ t.cpu) (hq : s.cpus[t.cpu.toNat]? = some q) (hr : ∀ x ∈ q.ready, 0 ≤ x ∧ x < s.thr.length) (hl : q.ready.length ≤ 1000) :
    ACalls Try.prog 49 [.ptr 0 0 0, iv i, .bool front] (s.heap []) (fun o H => o = .ret (.tuple []) ∧ H = (s.put i front).heap []) := by
  have hlt : i < s.thr.length := (List.getElem?_eq_some_iff.1 ht).1
  have h1 : (i : Int) < s.thr.length := by omega
  have h0 : (0 : Int) ≤ i := by omega
  have hcl : t.cpu.toNat < s.cpus.length := (List.getElem?_eq_some_iff.1 hq).1
  have h2 : t.cpu < s.cpus.length := by omega
  have hset : (s.thr.map T.row).set i [iv t.pri, iv t.cpu, iv 1] = (s.thr.set i { t with st := 1 }).map T.row := by rw [List.map_set]; rfl
  have ht' : (s.thr.set i { t with st := 1 })[i]? = some { t with st := 1 } := by rw [List.getElem?_set_self hlt]
  refine ACalls.up ?_
  refine ACalls.intro (cs := []) (n := 52) Try.func49 rfl rfl rfl (by kernel_rfl) rfl ?_
  generalize hpost : (fun o H => o = Out.ret (.tuple []) ∧ H = (s.put i front).heap []) = post
  simp only [go_sem, Nat.reduceAdd, Nat.reduceSub, Nat.reduceMul, Nat.reduceEqDiff, Nat.reduceLeDiff, Nat.reduceLT, ↓reduceIte, Int.reduceToNat, reduceCtorEq, S.heap, List.length_map, List.getElem?_map, ht, h1, h0, hlt, T.row]
  refine draw [.qu 0 0, .qu 0 0, .qu 0 0, .qu 0 0, .qu 0 0, .qu 0 0, .qu 0 0, .qu 0 0, .qu 0 0, .qu 0 0, .qu 0 0] (by kernel_rfl) (by kernel_rfl) ?_
  rw [hset]
  simp only [go_sem, Nat.reduceAdd, Nat.reduceSub, Nat.reduceMul, Nat.reduceEqDiff, Nat.reduceLeDiff, Nat.reduceLT, ↓reduceIte, Int.reduceToNat, reduceCtorEq, List.length_map, List.getElem?_map, ht', h2, hc, hlt, hcl, hq, T.row, Q.row, List.length_set]
  have hpri : ∀ x, S.pri { s with thr := s.thr.set i { t with st := 1 } } x = s.pri x := S.pri_st ht
  have hb1 : ∀ x, S.below { s with thr := s.thr.set i { t with st := 1 } } t.pri front x = s.below t.pri front x := fun x => by
    rw [S.below, S.below, hpri]
  refine rK_use (enters_of Try.func86 rfl (by decide)) (indexFunc_c q.ready (s.below t.pri front) false _ _ _ (enters_of Try.func87 rfl (by decide)) ?_) ?_
  · intro x hx
    have := put1_c { s with thr := s.thr.set i { t with st := 1 } } (s.cpus.map Q.row) i front { t with st := 1 } s.cpus.length ht' x (hr x hx).1 (by simpa using (hr x hx).2)
    simp only [hb1, List.length_set] at this
    exact this
  have hput : s.put i front = { s with thr := s.thr.set i { t with st := 1 }, cpus := s.cpus.set t.cpu.toNat { q with ready := ins q.ready (idxF (s.below t.pri front) q.ready 0) i } } := by
    simp only [S.put, ht, hq]
  have hrow : ∀ l : List Int, (s.cpus.map Q.row).set t.cpu.toNat [iv q.run, iv q.left, .view false 1 (l.map r1)] = (s.cpus.set t.cpu.toNat { q with ready := l }).map Q.row := fun l => by rw [List.map_set]; rfl
  simp only [go_sem, Nat.reduceAdd, Nat.reduceSub, Nat.reduceMul, Nat.reduceEqDiff, Nat.reduceLeDiff, Nat.reduceLT, ↓reduceIte, Int.reduceToNat, reduceCtorEq]
  refine condD_dec (fun hd => ?_) (fun hd => ?_)
  · simp only [go_sem, Nat.reduceAdd, Nat.reduceSub, Nat.reduceMul, Nat.reduceEqDiff, Nat.reduceLeDiff, Nat.reduceLT, ↓reduceIte, Int.reduceToNat, reduceCtorEq, List.length_map, List.getElem?_map, ht', h2, hc, hlt, hcl, hq, T.row, Q.row, List.length_set]
    refine rK_use (enters_of Try.func88 rfl (by decide)) (ACalls.pure_use (at_c q.ready q.ready.length i false hl (Nat.le_refl _)) rfl rfl) ?_
    simp only [go_sem, Nat.reduceAdd, Nat.reduceSub, Nat.reduceMul, Nat.reduceEqDiff, Nat.reduceLeDiff, Nat.reduceLT, ↓reduceIte, Int.reduceToNat, reduceCtorEq, List.length_map, List.getElem?_map, ht', h2, hc, hlt, hcl, hq, T.row, Q.row, List.length_set]
    rw [hrow]
    subst hpost
    rw [hput]
    refine S.heap_up rfl (by simp) ?_ ⟨rfl, rfl⟩
    have : ins q.ready (idxF (s.below t.pri front) q.ready 0) i = List.take q.ready.length q.ready ++ (i : Int) :: List.drop q.ready.length q.ready := by
      rw [ins, if_pos hd]; simp
    simp [S.heap, this]
  · obtain ⟨k, hk⟩ : ∃ k : Nat, idxF (s.below t.pri front) q.ready 0 = k := ⟨(idxF (s.below t.pri front) q.ready 0).toNat, by omega⟩
    have hk2 : k ≤ q.ready.length := by
      have := idxF_le (s.below t.pri front) q.ready 0
      omega
    rw [hk]
    simp only [go_sem, Nat.reduceAdd, Nat.reduceSub, Nat.reduceMul, Nat.reduceEqDiff, Nat.reduceLeDiff, Nat.reduceLT, ↓reduceIte, Int.reduceToNat, reduceCtorEq, List.length_map, List.getElem?_map, ht', h2, hc, hlt, hcl, hq, T.row, Q.row, List.length_set]
    refine rK_use (enters_of Try.func88 rfl (by decide)) (ACalls.pure_use (at_c q.ready k i false hl hk2) rfl rfl) ?_
    simp only [go_sem, Nat.reduceAdd, Nat.reduceSub, Nat.reduceMul, Nat.reduceEqDiff, Nat.reduceLeDiff, Nat.reduceLT, ↓reduceIte, Int.reduceToNat, reduceCtorEq, List.length_map, List.getElem?_map, ht', h2, hc, hlt, hcl, hq, T.row, Q.row, List.length_set]
    rw [hrow]
    subst hpost
    rw [hput]
    refine S.heap_up rfl (by simp) ?_ ⟨rfl, rfl⟩
    have : ins q.ready (idxF (s.below t.pri front) q.ready 0) i = List.take k q.ready ++ (i : Int) :: List.drop k q.ready := by
      rw [hk, ins, if_neg (by omega)]; simp
    simp [S.heap, this]
end Go.Proofs.Ytljepmbikbdicaa

set_option maxRecDepth 100000
set_option linter.unusedVariables false
set_option linter.unusedSimpArgs false
namespace Go.Proofs.Ytljepmbikbdicaa
open Go.AM
def Q.out (q : Q) (i : Int) : Q := { run := if q.run = i then -1 else q.run, left := if q.run = i then 0 else q.left, ready := q.ready.erase i }
def S.take (s : S) (i : Nat) : S := match s.thr[i]? with
  | none => s
  | some t => match s.cpus[t.cpu.toNat]? with
    | none => s
    | some q => { s with cpus := s.cpus.set t.cpu.toNat (q.out i) }
theorem take_c (s : S) (i : Nat) (t : T) (q : Q) (ht : s.thr[i]? = some t) (hc : 0 ≤ t.cpu) (hq : s.cpus[t.cpu.toNat]? = some q) (hl : q.ready.length ≤ 1000) :
    ACalls Try.prog 58 [.ptr 0 0 0, iv i] (s.heap []) (fun o H => o = .ret (.tuple []) ∧ H = (s.take i).heap []) := by
  have hlt : i < s.thr.length := (List.getElem?_eq_some_iff.1 ht).1
  have h1 : (i : Int) < s.thr.length := by omega
  have h0 : (0 : Int) ≤ i := by omega
  have hcl : t.cpu.toNat < s.cpus.length := (List.getElem?_eq_some_iff.1 hq).1
  have h2 : t.cpu < s.cpus.length := by omega
  have htake : s.take i = { s with cpus := s.cpus.set t.cpu.toNat (q.out i) } := by simp only [S.take, ht, hq]
  have hrow : ∀ q' : Q, (s.cpus.map Q.row).set t.cpu.toNat [iv q'.run, iv q'.left, .view false 1 (q'.ready.map r1)] = (s.cpus.set t.cpu.toNat q').map Q.row := fun q' => by rw [List.map_set]; rfl
  rw [htake]
  refine ACalls.intro (cs := []) (n := 41) Try.func58 rfl rfl rfl (by kernel_rfl) rfl ?_
  simp only [go_sem, Nat.reduceAdd, Nat.reduceSub, Nat.reduceMul, Nat.reduceEqDiff, Nat.reduceLeDiff, Nat.reduceLT, ↓reduceIte, Int.reduceToNat, reduceCtorEq, S.heap, List.length_set]
  refine draw [.qu 0 0, .qu 0 0, .qu 0 0, .qu 0 0, .qu 0 0, .qu 0 0, .qu 0 0, .qu 0 0, .qu 0 0, .qu 0 0, .qu 0 0, .qu 0 0, .qu 0 0, .qu 0 0, .qu 0 0, .qu 0 0] (by kernel_rfl) (by kernel_rfl) ?_
  simp only [go_sem, Nat.reduceAdd, Nat.reduceSub, Nat.reduceMul, Nat.reduceEqDiff, Nat.reduceLeDiff, Nat.reduceLT, ↓reduceIte, Int.reduceToNat, reduceCtorEq, S.heap, List.length_map, List.getElem?_map, ht, hq, h1, h2, hc, h0, hlt, hcl, T.row, Q.row]
  refine condD_dec (fun hd => ?_) (fun hd => ?_)
  · simp only [go_sem, Nat.reduceAdd, Nat.reduceSub, Nat.reduceMul, Nat.reduceEqDiff, Nat.reduceLeDiff, Nat.reduceLT, ↓reduceIte, Int.reduceToNat, reduceCtorEq, S.heap, List.length_map, List.getElem?_map, List.length_set, List.getElem?_set_self, List.set_set, ht, hq, h1, h2, hc, h0, hlt, hcl, T.row, Q.row]
    refine rK_use (enters_of Try.func91 rfl (by decide)) (ACalls.pure_use (without_c q.ready i false hl) rfl rfl) ?_
    simp only [go_sem, Nat.reduceAdd, Nat.reduceSub, Nat.reduceMul, Nat.reduceEqDiff, Nat.reduceLeDiff, Nat.reduceLT, ↓reduceIte, Int.reduceToNat, reduceCtorEq, S.heap, List.length_map, List.getElem?_map, List.length_set, List.getElem?_set_self, List.set_set, ht, hq, h1, h2, hc, h0, hlt, hcl, T.row, Q.row]
    rw [← hrow]
    simp [Q.out, hd]
  · simp only [go_sem, Nat.reduceAdd, Nat.reduceSub, Nat.reduceMul, Nat.reduceEqDiff, Nat.reduceLeDiff, Nat.reduceLT, ↓reduceIte, Int.reduceToNat, reduceCtorEq, S.heap, List.length_map, List.getElem?_map, ht, hq, h1, h2, hc, h0, hlt, hcl, T.row, Q.row]
    refine rK_use (enters_of Try.func91 rfl (by decide)) (ACalls.pure_use (without_c q.ready i false hl) rfl rfl) ?_
    simp only [go_sem, Nat.reduceAdd, Nat.reduceSub, Nat.reduceMul, Nat.reduceEqDiff, Nat.reduceLeDiff, Nat.reduceLT, ↓reduceIte, Int.reduceToNat, reduceCtorEq, S.heap, List.length_map, List.getElem?_map, List.length_set, List.getElem?_set_self, List.set_set, ht, hq, h1, h2, hc, h0, hlt, hcl, T.row, Q.row]
    rw [← hrow]
    simp [Q.out, hd]
def Q.load (q : Q) : Int := q.ready.length + if 0 ≤ q.run then 1 else 0
theorem load_c (q : Q) (hl : q.ready.length ≤ 1000) : ACalls Try.prog 79 [.agg q.row] [] (fun o H => o = .ret (iv q.load) ∧ H = []) := by
  refine ACalls.up ?_
  refine ACalls.intro (cs := []) (n := 13) Try.func79 rfl rfl rfl (by kernel_rfl) rfl ?_
  simp only [go_sem, Nat.reduceAdd, Nat.reduceSub, Nat.reduceMul, Nat.reduceEqDiff, Nat.reduceLeDiff, Nat.reduceLT, ↓reduceIte, Int.reduceToNat, reduceCtorEq, Q.row]
  have e1 : iw .i64 ((q.ready.length : Int) + 1) = (q.ready.length : Int) + 1 := by rw [iw64] <;> omega
  refine condD_dec (fun hc => ?_) (fun hc => ?_) <;> simp only [go_sem, Nat.reduceAdd, Nat.reduceSub, Nat.reduceMul, Nat.reduceEqDiff, Nat.reduceLeDiff, Nat.reduceLT, ↓reduceIte, Int.reduceToNat, reduceCtorEq, hc, List.length_map, e1]
  · refine .gc 0 (Nat.le_refl _) (Nat.zero_le _) rfl (by simp) (.done ⟨?_, rfl⟩)
    simp [Q.load, hc]
  · refine .gc 0 (Nat.le_refl _) (Nat.zero_le _) rfl (by simp) (.done ⟨?_, rfl⟩)
    simp [Q.load, hc]
def S.due (s : S) (c : Nat) : Bool := match s.cpus[c]? with
  | none => false
  | some q => match q.ready with
    | [] => false
    | x :: _ => if q.run = -1 then true else decide (s.pri x > s.pri q.run) || decide (q.left = 0 ∧ s.pri x ≥ s.pri q.run)
theorem due_c (s : S) (c : Nat) (q : Q) (hq : s.cpus[c]? = some q) (hr : ∀ x ∈ q.ready, 0 ≤ x ∧ x < s.thr.length) (hn : q.run = -1 ∨ 0 ≤ q.run ∧ q.run < s.thr.length) :
    ACalls Try.prog 48 [.ptr 0 0 0, iv c] (s.heap []) (fun o H => o = .ret (.bool (s.due c)) ∧ H = s.heap []) := by
  have hcl : c < s.cpus.length := (List.getElem?_eq_some_iff.1 hq).1
  have h2 : (c : Int) < s.cpus.length := by omega
  have h0 : (0 : Int) ≤ c := by omega
  refine ACalls.up ?_
  refine ACalls.intro (cs := []) (n := 58) Try.func48 rfl rfl rfl (by kernel_rfl) rfl ?_
  generalize hpost : (fun o H => o = Out.ret (AV.bool (s.due c)) ∧ H = s.heap []) = post
  simp only [go_sem, Nat.reduceAdd, Nat.reduceSub, Nat.reduceMul, Nat.reduceEqDiff, Nat.reduceLeDiff, Nat.reduceLT, ↓reduceIte, Int.reduceToNat, reduceCtorEq, S.heap, List.length_map, List.getElem?_map, hq, h2, h0, hcl, Q.row]
  refine condD_dec (fun hc => ?_) (fun hc => ?_)
  · simp only [go_sem, Nat.reduceAdd, Nat.reduceSub, Nat.reduceMul, Nat.reduceEqDiff, Nat.reduceLeDiff, Nat.reduceLT, ↓reduceIte, Int.reduceToNat, reduceCtorEq]
    subst hpost
    refine S.heap_up rfl (by simp) rfl ⟨?_, rfl⟩
    have : q.ready = [] := List.length_eq_zero_iff.1 (by omega)
    simp [S.due, hq, this]
  obtain ⟨x, l, hx⟩ : ∃ x l, q.ready = x :: l := List.exists_cons_of_length_pos (by omega)
  simp only [go_sem, Nat.reduceAdd, Nat.reduceSub, Nat.reduceMul, Nat.reduceEqDiff, Nat.reduceLeDiff, Nat.reduceLT, ↓reduceIte, Int.reduceToNat, reduceCtorEq, S.heap, List.length_map, List.getElem?_map, hq, h2, h0, hcl, Q.row]
  refine condD_dec (fun hd => ?_) (fun hd => ?_)
  · simp only [go_sem, Nat.reduceAdd, Nat.reduceSub, Nat.reduceMul, Nat.reduceEqDiff, Nat.reduceLeDiff, Nat.reduceLT, ↓reduceIte, Int.reduceToNat, reduceCtorEq]
    subst hpost
    refine S.heap_up rfl (by simp) rfl ⟨?_, rfl⟩
    simp [S.due, hq, hx, hd]
  have hx0 : 0 ≤ x ∧ x < s.thr.length := hr x (by simp [hx])
  have hr0 : 0 ≤ q.run ∧ q.run < s.thr.length := hn.resolve_left hd
  obtain ⟨tx, htx⟩ : ∃ y, s.thr[x.toNat]? = some y := ⟨_, List.getElem?_eq_getElem (by omega)⟩
  obtain ⟨tr, htr⟩ : ∃ y, s.thr[q.run.toNat]? = some y := ⟨_, List.getElem?_eq_getElem (by omega)⟩
  have hxl : x.toNat < s.thr.length := by omega
  have hrl : q.run.toNat < s.thr.length := by omega
  have epx : s.pri x = tx.pri := by simp [S.pri, htx]
  have epr : s.pri q.run = tr.pri := by simp [S.pri, htr]
  have hlen : q.ready.length = l.length + 1 := by rw [hx]; rfl
  rw [hx]
  refine draw [.qu 0 0, .qu 0 0, .qu 0 0, .qu 0 0, .qu 0 0, .qu 0 0, .qu 0 0, .qu 0 0, .qu 0 0, .qu 0 0, .qu 0 0, .qu 0 0, .qu 0 0, .qu 0 0, .qu 0 0, .qu 0 0, .qu 0 0, .qu 0 0, .qu 0 0, .qu 0 0, .qu 0 0, .qu 0 0, .qu 0 0, .qu 0 0] (by kernel_rfl) (by kernel_rfl) ?_
  simp only [go_sem, Nat.reduceAdd, Nat.reduceSub, Nat.reduceMul, Nat.reduceEqDiff, Nat.reduceLeDiff, Nat.reduceLT, ↓reduceIte, Int.reduceToNat, reduceCtorEq, S.heap, List.length_map, List.getElem?_map, hq, h2, h0, hcl, Q.row, htx, htr, hx0, hr0, hxl, hrl, T.row]
  refine ⟨⟨Int.le_refl _, by omega⟩, ?_⟩
  have hdue : s.due c = (decide (tr.pri < tx.pri) || (decide (q.left = 0) && decide (tr.pri ≤ tx.pri))) := by
    simp [S.due, hq, hx, hd, epx, epr]
  rw [hdue] at hpost
  refine gD_dec (fun hg => ?_) (fun hg => ?_) <;> simp only [go_sem, Nat.reduceAdd, Nat.reduceSub, Nat.reduceMul, Nat.reduceEqDiff, Nat.reduceLeDiff, Nat.reduceLT, ↓reduceIte, Int.reduceToNat, reduceCtorEq, hg, true_and, false_and, gD_dec]
  · subst hpost
    exact S.heap_up rfl (by simp) rfl ⟨by simp [hg], rfl⟩
  · refine gD_dec (fun hk => ?_) (fun hk => ?_) <;> simp only [go_sem, Nat.reduceAdd, Nat.reduceSub, Nat.reduceMul, Nat.reduceEqDiff, Nat.reduceLeDiff, Nat.reduceLT, ↓reduceIte, Int.reduceToNat, reduceCtorEq, hg, hk, true_and, false_and, gD_dec]
    · subst hpost
      exact S.heap_up rfl (by simp) rfl ⟨by simp [hg, hk], rfl⟩
    · subst hpost
      exact S.heap_up rfl (by simp) rfl ⟨by simp [hg, hk], rfl⟩
end Go.Proofs.Ytljepmbikbdicaa

set_option maxRecDepth 100000
set_option linter.unusedVariables false
set_option linter.unusedSimpArgs false
namespace Go.Proofs.Ytljepmbikbdicaa
open Go.AM
theorem clone_q_c (l : List Q) (full : Bool) (hl : l.length ≤ 1000) : ACalls Try.prog 98 [.view full 3 (l.map Q.row)] [] (fun o H => o = .ret (.sl 1 0 l.length none) ∧ H = [.dead, .rows 3 (l.map Q.row)]) := by
  refine ACalls.up ?_
  refine ACalls.intro (cs := []) (n := 8) Try.func98 rfl rfl rfl (by kernel_rfl) rfl ?_
  simp only [go_sem, Nat.reduceAdd, Nat.reduceSub, Nat.reduceMul, Nat.reduceEqDiff, Nat.reduceLeDiff, Nat.reduceLT, ↓reduceIte, Int.reduceToNat, reduceCtorEq, rK_ndb]
  intro b hb
  refine condD_split (fun e => ?_) (fun e => ?_)
  · have hl0 : l = [] := by
      rw [List.length_map] at hb
      rcases l with _ | ⟨x, l⟩
      · rfl
      · have := hb (by simp); rw [e] at this; cases this
    subst hl0
    simp only [go_sem, Nat.reduceAdd, Nat.reduceSub, Nat.reduceMul, Nat.reduceEqDiff, Nat.reduceLeDiff, Nat.reduceLT, ↓reduceIte, Int.reduceToNat, reduceCtorEq]
    exact .ghost .dead (.nils _ 3 (.done ⟨rfl, rfl⟩))
  · simp only [go_sem, Nat.reduceAdd, Nat.reduceSub, Nat.reduceMul, Nat.reduceEqDiff, Nat.reduceLeDiff, Nat.reduceLT, ↓reduceIte, Int.reduceToNat, reduceCtorEq, List.length_map]
    refine ⟨by omega, ?_⟩
    exact .done ⟨rfl, rfl⟩
theorem clone_t_c (l : List T) (full : Bool) (hl : l.length ≤ 1000) : ACalls Try.prog 99 [.view full 3 (l.map T.row)] [] (fun o H => o = .ret (.sl 1 0 l.length none) ∧ H = [.dead, .rows 3 (l.map T.row)]) := by
  refine ACalls.up ?_
  refine ACalls.intro (cs := []) (n := 8) Try.func99 rfl rfl rfl (by kernel_rfl) rfl ?_
  simp only [go_sem, Nat.reduceAdd, Nat.reduceSub, Nat.reduceMul, Nat.reduceEqDiff, Nat.reduceLeDiff, Nat.reduceLT, ↓reduceIte, Int.reduceToNat, reduceCtorEq, rK_ndb]
  intro b hb
  refine condD_split (fun e => ?_) (fun e => ?_)
  · have hl0 : l = [] := by
      rw [List.length_map] at hb
      rcases l with _ | ⟨x, l⟩
      · rfl
      · have := hb (by simp); rw [e] at this; cases this
    subst hl0
    simp only [go_sem, Nat.reduceAdd, Nat.reduceSub, Nat.reduceMul, Nat.reduceEqDiff, Nat.reduceLeDiff, Nat.reduceLT, ↓reduceIte, Int.reduceToNat, reduceCtorEq]
    exact .ghost .dead (.nils _ 3 (.done ⟨rfl, rfl⟩))
  · simp only [go_sem, Nat.reduceAdd, Nat.reduceSub, Nat.reduceMul, Nat.reduceEqDiff, Nat.reduceLeDiff, Nat.reduceLT, ↓reduceIte, Int.reduceToNat, reduceCtorEq, List.length_map]
    refine ⟨by omega, ?_⟩
    exact .done ⟨rfl, rfl⟩
theorem Q.rows_lt (l : List Q) (m : Nat) : ∀ row ∈ l.map Q.row, ltL m row = true := by
  intro row hr
  obtain ⟨q, _, rfl⟩ := List.mem_map.1 hr
  simp [Q.row, ltL, AV.lt]
theorem T.rows_lt (l : List T) (m : Nat) : ∀ row ∈ l.map T.row, ltL m row = true := by
  intro row hr
  obtain ⟨q, _, rfl⟩ := List.mem_map.1 hr
  simp [T.row, ltL, AV.lt]
/-- A new block behind the others. -/
theorem ACalls.news {P : Program} {f : FuncId} {args : List AV} {sz : Nat} {xs : List (List AV)} {n : Nat} (hc : ACalls P f args [] fun o H => o = .ret (.sl 1 0 n none) ∧ H = [.dead, .rows sz xs]) (ha : ltL 0 args = true) (hx : ∀ row ∈ xs, ltL 0 row = true) {H : Heap} :
    ACalls P f args H fun o H2 => o = .ret (.sl (H.length + 1) 0 n none) ∧ H2 = H ++ [.dead, .rows sz xs] := by
  refine hc.use (H := H) [] List.nodup_nil rfl (by simp) (by simp) (renL_pure' ha).symm ?_
  rintro o H0' ⟨rfl, rfl⟩
  refine ⟨?_, ?_⟩
  · simp [Out.ren, AV.ren, pi]
  · have : xs.map (fun row => row.map (AV.ren (pi [] H.length))) = xs := by
      conv => rhs; rw [← List.map_id' xs]
      exact List.map_congr_left fun row hr => renL_pure' (hx row hr)
    simp [patch, setMany, Blk.ren, this]
theorem clone_c (s : S) (h1 : s.cpus.length ≤ 4) (h2 : s.thr.length ≤ 16) (h3 : ∀ q ∈ s.cpus, q.ready.length ≤ 1000) :
    ACalls Try.prog 85 [s.av] [] (fun o H => o = .ret (.agg [.sl 3 0 s.cpus.length none, .sl 5 0 s.thr.length none, iv s.quantum]) ∧ H = [.rows 3 [[.sl 3 0 s.cpus.length none, .sl 5 0 s.thr.length none, iv s.quantum]], .rows 3 [[.sl 3 0 s.cpus.length none, .sl 5 0 s.thr.length none, iv s.quantum]], .dead, .rows 3 (s.cpus.map Q.row), .dead, .rows 3 (s.thr.map T.row)]) := by
  refine ACalls.up ?_
  refine ACalls.intro (cs := []) (n := 32) Try.func85 rfl rfl rfl (by kernel_rfl) rfl ?_
  simp only [go_sem, Nat.reduceAdd, Nat.reduceSub, Nat.reduceMul, Nat.reduceEqDiff, Nat.reduceLeDiff, Nat.reduceLT, ↓reduceIte, Int.reduceToNat, reduceCtorEq, S.av]
  refine draw [.qu 0 0, .qu 0 0, .mn 0, .qu 0 1, .rd 0 1, .mn 1, .qu 1 2, .mn 2, .qu 3 3, .mn 3] (by kernel_rfl) (by kernel_rfl) ?_
  simp only [go_sem, Nat.reduceAdd, Nat.reduceSub, Nat.reduceMul, Nat.reduceEqDiff, Nat.reduceLeDiff, Nat.reduceLT, ↓reduceIte, Int.reduceToNat, reduceCtorEq]
  refine dM_call (enters_of Try.func98 rfl (by decide)) (ACalls.news (clone_q_c s.cpus false (by omega)) rfl (Q.rows_lt _ _)) ?_
  simp only [go_sem, Nat.reduceAdd, Nat.reduceSub, Nat.reduceMul, Nat.reduceEqDiff, Nat.reduceLeDiff, Nat.reduceLT, ↓reduceIte, Int.reduceToNat, reduceCtorEq]
  refine dM_call (enters_of Try.func99 rfl (by decide)) (ACalls.news (clone_t_c s.thr false (by omega)) rfl (T.rows_lt _ _)) ?_
  simp only [go_sem, Nat.reduceAdd, Nat.reduceSub, Nat.reduceMul, Nat.reduceEqDiff, Nat.reduceLeDiff, Nat.reduceLT, ↓reduceIte, Int.reduceToNat, reduceCtorEq]
  refine loop_fam (fun i : Nat => (((Ch.nil.put 1 (.ptr 0 0 0)).put 2 (.ptr 1 0 0)).put 14 (iv s.cpus.length)).put 15 (iv i))
    (fun _ => [Blk.rows 3 [[.sl 3 0 s.cpus.length none, .sl 5 0 s.thr.length none, iv s.quantum]], .rows 3 [[.view true 0 [], .view true 0 [], iv 0]], .dead, .rows 3 (s.cpus.map Q.row), .dead, .rows 3 (s.thr.map T.row)]) (fun i => s.cpus.length - i) (fun i => i ≤ s.cpus.length) 0 (by kernel_rfl) (Nat.zero_le _) (Wk.slots' rfl (by simp [wkS, Ch.get])) ?_
  rintro i hi K hK
  simp only [go_sem, Nat.reduceAdd, Nat.reduceSub, Nat.reduceMul, Nat.reduceEqDiff, Nat.reduceLeDiff, Nat.reduceLT, ↓reduceIte, Int.reduceToNat, reduceCtorEq]
  refine condD_dec (fun hc => ?_) (fun hc => ?_)
  · have hc' : i < s.cpus.length := by omega
    obtain ⟨q, hq⟩ := at_lt hc'
    have hql := h3 q (List.mem_of_getElem? hq)
    have e1 : iw .i64 ((i : Int) + 1) = ((i + 1 : Nat) : Int) := by rw [iw64] <;> omega
    simp only [go_sem, Nat.reduceAdd, Nat.reduceSub, Nat.reduceMul, Nat.reduceEqDiff, Nat.reduceLeDiff, Nat.reduceLT, ↓reduceIte, Int.reduceToNat, reduceCtorEq]
    refine draw [.qu 0 1, .rd 0 1, .qu 0 1, .qu 0 0, .qu 0 0, .qu 0 0, .qu 0 0, .qu 0 0, .qu 0 0, .mn 0, .qu 1 1, .qu 1 1, .mn 1] (by kernel_rfl) (by kernel_rfl) ?_
    simp only [go_sem, Nat.reduceAdd, Nat.reduceSub, Nat.reduceMul, Nat.reduceEqDiff, Nat.reduceLeDiff, Nat.reduceLT, ↓reduceIte, Int.reduceToNat, reduceCtorEq, List.length_map, List.getElem?_map, hq, hc, hc', Int.natCast_nonneg, Q.row]
    refine dM_call (enters_of Try.func100 rfl (by decide)) (ACalls.pure_use (clone_int_c q.ready false hql) rfl rfl) ?_
    simp only [go_sem, Nat.reduceAdd, Nat.reduceSub, Nat.reduceMul, Nat.reduceEqDiff, Nat.reduceLeDiff, Nat.reduceLT, ↓reduceIte, Int.reduceToNat, reduceCtorEq, List.length_map, List.getElem?_map, hq, hc, hc', Int.natCast_nonneg, Q.row, e1]
    refine hK (i + 1) _ _ hc' (by omega) (Wk.slots' ?_ (by simp [wkS, Ch.get]))
    have : (s.cpus.map Q.row).set i [iv q.run, iv q.left, .view false 1 (q.ready.map r1)] = s.cpus.map Q.row := List.set_getElem?_self' (by rw [List.getElem?_map, hq]; rfl)
    rw [this]
  · simp only [go_sem, Nat.reduceAdd, Nat.reduceSub, Nat.reduceMul, Nat.reduceEqDiff, Nat.reduceLeDiff, Nat.reduceLT, ↓reduceIte, Int.reduceToNat, reduceCtorEq]
    exact .done ⟨rfl, rfl⟩
theorem Q.rows_ren (l : List Q) (π : Nat → Nat) : (l.map Q.row).map (fun row => row.map (AV.ren π)) = l.map Q.row := by
  conv => rhs; rw [← List.map_id' (l.map Q.row)]
  exact List.map_congr_left fun row hr => renL_pure' (Q.rows_lt l 0 row hr)
theorem T.rows_ren (l : List T) (π : Nat → Nat) : (l.map T.row).map (fun row => row.map (AV.ren π)) = l.map T.row := by
  conv => rhs; rw [← List.map_id' (l.map T.row)]
  exact List.map_congr_left fun row hr => renL_pure' (T.rows_lt l 0 row hr)
theorem bren_Q (l : List Q) (π : Nat → Nat) : Blk.ren π (.rows 3 (l.map Q.row)) = .rows 3 (l.map Q.row) := by rw [Blk.ren, Q.rows_ren]
theorem bren_T (l : List T) (π : Nat → Nat) : Blk.ren π (.rows 3 (l.map T.row)) = .rows 3 (l.map T.row) := by rw [Blk.ren, T.rows_ren]
theorem clone_u (s : S) (h1 : s.cpus.length ≤ 4) (h2 : s.thr.length ≤ 16) (h3 : ∀ q ∈ s.cpus, q.ready.length ≤ 1000) (H : Heap) (n : Nat) (hn : H.length = n) :
    ACalls Try.prog 85 [s.av] H (fun o H2 => o = .ret (.agg [.sl (n + 3) 0 s.cpus.length none, .sl (n + 5) 0 s.thr.length none, iv s.quantum]) ∧
      H2 = H ++ [.rows 3 [[.sl (n + 3) 0 s.cpus.length none, .sl (n + 5) 0 s.thr.length none, iv s.quantum]], .rows 3 [[.sl (n + 3) 0 s.cpus.length none, .sl (n + 5) 0 s.thr.length none, iv s.quantum]], .dead, .rows 3 (s.cpus.map Q.row), .dead, .rows 3 (s.thr.map T.row)]) := by
  subst hn
  refine (clone_c s h1 h2 h3).use (H := H) [] List.nodup_nil rfl (by simp) (by simp) (renL_pure' (by simp [ltL, S.av, AV.lt])).symm ?_
  rintro o H0' ⟨rfl, rfl⟩
  refine ⟨?_, ?_⟩
  · simp [Out.ren, AV.ren, pi, renL]
  · simp only [patch, setMany, List.length_nil, List.drop_zero, List.map_cons, List.map_nil, bren_Q, bren_T]
    simp [Blk.ren, AV.ren, pi]
end Go.Proofs.Ytljepmbikbdicaa

set_option maxRecDepth 100000
set_option linter.unusedVariables false
set_option linter.unusedSimpArgs false
namespace Go.Proofs.Ytljepmbikbdicaa
open Go.AM
def S.row (s : S) : List AV := [.view false 3 (s.cpus.map Q.row), .view false 3 (s.thr.map T.row), iv s.quantum]
def S.is (s : S) (x c st : Int) : Bool := match s.thr[x.toNat]? with
  | some t => decide (0 ≤ x) && decide (t.cpu = c) && decide (t.st = st)
  | none => false
theorem S.is_lt {s : S} {x c st : Int} (h : s.is x c st = true) : 0 ≤ x ∧ x < s.thr.length := by
  unfold S.is at h
  split at h
  · rename_i t ht
    have := (List.getElem?_eq_some_iff.1 ht).1
    simp at h
    omega
  · cases h
theorem is0_c (s : S) (x c st : Int) : ACalls Try.prog 89 [iv x, iv c, iv st, .ptr 0 0 0] [.rows 3 [s.row]] (fun o H => o = .ret (.bool (s.is x c st)) ∧ H = [.rows 3 [s.row]]) := by
  refine ACalls.intro (cs := []) (n := 37) Try.func89 rfl rfl rfl (by kernel_rfl) rfl ?_
  simp only [go_sem, Nat.reduceAdd, Nat.reduceSub, Nat.reduceMul, Nat.reduceEqDiff, Nat.reduceLeDiff, Nat.reduceLT, ↓reduceIte, Int.reduceToNat, reduceCtorEq, S.row]
  refine gD_dec (fun hc => ?_) (fun hc => ?_) <;> simp only [go_sem, Nat.reduceAdd, Nat.reduceSub, Nat.reduceMul, Nat.reduceEqDiff, Nat.reduceLeDiff, Nat.reduceLT, ↓reduceIte, Int.reduceToNat, reduceCtorEq, hc, List.length_map]
  · refine gD_dec (fun hd => ?_) (fun hd => ?_) <;> simp only [go_sem, Nat.reduceAdd, Nat.reduceSub, Nat.reduceMul, Nat.reduceEqDiff, Nat.reduceLeDiff, Nat.reduceLT, ↓reduceIte, Int.reduceToNat, reduceCtorEq, hd, List.length_map]
    · have hlt : x.toNat < s.thr.length := by omega
      obtain ⟨t, ht⟩ := at_lt hlt
      have e : s.is x c st = (decide (t.cpu = c) && decide (t.st = st)) := by simp [S.is, ht, hc]
      rw [e]
      simp only [go_sem, Nat.reduceAdd, Nat.reduceSub, Nat.reduceMul, Nat.reduceEqDiff, Nat.reduceLeDiff, Nat.reduceLT, ↓reduceIte, Int.reduceToNat, reduceCtorEq, List.length_map, List.getElem?_map, ht, hlt, hc, hd, T.row]
      refine gD_dec (fun hg => ?_) (fun hg => ?_) <;> simp only [go_sem, Nat.reduceAdd, Nat.reduceSub, Nat.reduceMul, Nat.reduceEqDiff, Nat.reduceLeDiff, Nat.reduceLT, ↓reduceIte, Int.reduceToNat, reduceCtorEq, hg, List.length_map, List.getElem?_map, ht, hlt, hc, hd, T.row, Bool.false_and]
    · have : s.thr[x.toNat]? = none := by rw [List.getElem?_eq_none_iff]; omega
      simp [S.is, this]
  · have : s.is x c st = false := by
      unfold S.is
      split <;> simp; omega
    simp [this]
theorem is_c (s : S) (x c st : Int) (rest : Heap) : ACalls Try.prog 89 [iv x, iv c, iv st, .ptr 0 0 0] (.rows 3 [s.row] :: rest) (fun o H => o = .ret (.bool (s.is x c st)) ∧ H = .rows 3 [s.row] :: rest) := by
  refine (is0_c s x c st).keep [0] (by simp) rfl ?_ (by simp [AV.ren, pi])
  intro k hk
  obtain rfl : k = 0 := by simpa using hk
  have : s.row.map (AV.ren (pi [0] (Blk.rows 3 [s.row] :: rest).length)) = s.row := renL_pure' (by simp [S.row, ltL, AV.lt])
  simp only [List.length_cons] at this
  simp [pi, Blk.ren, this]
/-- Does the priority grow? -/
def S.up (s : S) : Option Int → Int → Bool
  | some y, x => decide (s.pri y < s.pri x)
  | none, _ => false
/-- A queue, from a place on: what has been seen behind it, if nothing is wrong. -/
def S.scanR (s : S) (c : Int) : Option Int → List Int → List Int → Option (List Int)
  | _, [], seen => some seen
  | p, x :: l, seen => if s.is x c 1 = false ∨ x ∈ seen ∨ s.up p x = true then none else s.scanR c (some x) l (seen ++ [x])
def S.badQ (s : S) (c : Int) (q : Q) : Bool := if q.run = -1 then decide (q.left ≠ 0) else !(s.is q.run c 2) || decide (q.left < 0) || decide (s.quantum < q.left)
def S.scanQ (s : S) : Int → List Q → List Int → Int → Int → Bool
  | _, [], _, a, b => decide (a = 0) && decide (b = 0)
  | c, q :: l, seen, a, b => if s.badQ c q = true then false else match s.scanR c none q.ready seen with
    | none => false
    | some seen' => s.scanQ (c + 1) l seen' (a - q.ready.length) (if q.run = -1 then b else b - 1)
def S.badT (s : S) (t : T) : Bool := decide (t.pri < 0) || decide (7 < t.pri) || decide (t.cpu < 0) || decide ((s.cpus.length : Int) ≤ t.cpu) || decide (t.st < 1) || decide (4 < t.st)
def S.scanT (s : S) : List T → Int → Int → Option (Int × Int)
  | [], a, b => some (a, b)
  | t :: l, a, b => if s.badT t = true then none else if t.st = 1 then s.scanT l (a + 1) b else if t.st = 2 then s.scanT l a (b + 1) else s.scanT l a b
def S.valid (s : S) : Bool := if s.cpus.length < 1 ∨ 4 < s.cpus.length ∨ 16 < s.thr.length ∨ s.quantum < 1 ∨ 20 < s.quantum then false else
  match s.scanT s.thr 0 0 with
  | none => false
  | some (a, b) => s.scanQ 0 s.cpus [] a b
def S.mid (s : S) : Option (Int × Int) → Bool
  | none => false
  | some (a, b) => s.scanQ 0 s.cpus [] a b
theorem up_bool {b : Bool} {H : Heap} {Q : CQ} (hq : Q (.ret (.bool b)) []) : Up 0 Q (.ret (.bool b)) H :=
  .gc 0 (Nat.le_refl _) (Nat.zero_le _) rfl (by simp) (.done (by simpa using hq))
def seenE (x : Int) : AV × AV := (iv x, .bool true)
def S.nx (s : S) (c : Int) (l : List Q) (a b : Int) : Option (List Int) → Bool
  | none => false
  | some seen' => s.scanQ (c + 1) l seen' a b
def prevAt (l : List Int) (j : Nat) : Option Int := if j = 0 then none else l[j - 1]?
theorem pigeon : ∀ (n : Nat) (l : List Int), l.Nodup → (∀ y ∈ l, 0 ≤ y ∧ y < n) → l.length ≤ n
  | 0, l, _, h => by
    rcases l with _ | ⟨x, l⟩
    · simp
    · have := h x (by simp); omega
  | n + 1, l, hd, h => by
    have h1 := pigeon n (l.erase n) (hd.erase _) fun y hy => by
      rw [hd.mem_erase_iff] at hy
      have := h y hy.2
      have := hy.1
      omega
    have := List.length_erase (a := (n : Int)) (l := l)
    split at this <;> omega
theorem mfind_seen (x : Int) : ∀ (l : List Int) (i : Nat), ∃ o, mfind (iv x) (l.map seenE) i = some o ∧ (x ∈ l → ∃ k, o = some (k, .bool true)) ∧ (x ∉ l → o = none)
  | [], i => ⟨none, rfl, by simp, by simp⟩
  | y :: l, i => by
    obtain ⟨o, h1, h2, h3⟩ := mfind_seen x l (i + 1)
    by_cases h : x = y
    · subst h
      exact ⟨some (i, .bool true), by simp [mfind, seenE, keyEq], fun _ => ⟨_, rfl⟩, fun h => absurd (by simp) h⟩
    · refine ⟨o, by simp [mfind, seenE, keyEq, h]; exact h1, fun hm => h2 ?_, fun hm => h3 fun h' => hm (by simp [h'])⟩
      rcases List.mem_cons.1 hm with e | e
      · exact absurd e h
      · exact e
theorem valid_c (s : S) : ACalls Try.prog 51 [s.av] [] (fun o H => o = .ret (.bool s.valid) ∧ H = []) := by
  refine ACalls.small fun hsm => ?_
  simp only [S.av, smallL, AV.small, List.length_map, maxLen] at hsm
  refine ACalls.up ?_
  refine ACalls.intro (cs := [22, 24, 29]) (n := 190) Try.func51 rfl rfl rfl (by kernel_rfl) rfl ?_
  generalize hpost : (fun o H => o = Out.ret (AV.bool s.valid) ∧ H = []) = post
  have fin : ∀ (b : Bool) (H : Heap), b = s.valid → Up 0 post (.ret (.bool b)) H := fun b H e => by
    subst hpost
    exact up_bool ⟨by rw [e], rfl⟩
  simp only [go_sem, Nat.reduceAdd, Nat.reduceSub, Nat.reduceMul, Nat.reduceEqDiff, Nat.reduceLeDiff, Nat.reduceLT, ↓reduceIte, Int.reduceToNat, reduceCtorEq, S.av, List.length_map]
  refine gD_dec (fun hg => ?_) (fun hg => ?_) <;> simp only [go_sem, Nat.reduceAdd, Nat.reduceSub, Nat.reduceMul, Nat.reduceEqDiff, Nat.reduceLeDiff, Nat.reduceLT, ↓reduceIte, Int.reduceToNat, reduceCtorEq, hg, List.length_map]
  · exact fin _ _ (by rw [S.valid, if_pos (by omega)])
  refine gD_dec (fun hg => ?_) (fun hg => ?_) <;> simp only [go_sem, Nat.reduceAdd, Nat.reduceSub, Nat.reduceMul, Nat.reduceEqDiff, Nat.reduceLeDiff, Nat.reduceLT, ↓reduceIte, Int.reduceToNat, reduceCtorEq, hg, List.length_map]
  · exact fin _ _ (by rw [S.valid, if_pos (by omega)])
  refine gD_dec (fun hg => ?_) (fun hg => ?_) <;> simp only [go_sem, Nat.reduceAdd, Nat.reduceSub, Nat.reduceMul, Nat.reduceEqDiff, Nat.reduceLeDiff, Nat.reduceLT, ↓reduceIte, Int.reduceToNat, reduceCtorEq, hg, List.length_map]
  · exact fin _ _ (by rw [S.valid, if_pos (by omega)])
  refine gD_dec (fun hg => ?_) (fun hg => ?_) <;> simp only [go_sem, Nat.reduceAdd, Nat.reduceSub, Nat.reduceMul, Nat.reduceEqDiff, Nat.reduceLeDiff, Nat.reduceLT, ↓reduceIte, Int.reduceToNat, reduceCtorEq, hg, List.length_map]
  · exact fin _ _ (by rw [S.valid, if_pos (by omega)])
  refine condD_dec (fun hg => ?_) (fun hg => ?_) <;> simp only [go_sem, Nat.reduceAdd, Nat.reduceSub, Nat.reduceMul, Nat.reduceEqDiff, Nat.reduceLeDiff, Nat.reduceLT, ↓reduceIte, Int.reduceToNat, reduceCtorEq, hg, List.length_map]
  · exact fin _ _ (by rw [S.valid, if_pos (by omega)])
  have hv : s.valid = s.mid (s.scanT s.thr 0 0) := by
    rw [S.valid, if_neg (by omega)]
    rfl
  have hb0 : ∀ b ∈ [Blk.rows 3 [[.view false 3 (s.cpus.map Q.row), .view false 3 (s.thr.map T.row), iv s.quantum]]], b.lt 1 := by
    simp [Blk.lt, ltL, AV.lt]
  refine loop_fam (fun x : Nat × Int × Int => (((((Ch.nil.put 1 (.ptr 0 0 0)).put 3 (iv x.2.1)).put 4 (iv x.2.2)).put 40 (.view false 3 (s.thr.map T.row))).put 41 (iv s.thr.length)).put 42 (iv x.1))
    (fun _ => [.rows 3 [[.view false 3 (s.cpus.map Q.row), .view false 3 (s.thr.map T.row), iv s.quantum]]]) (fun x => s.thr.length - x.1) (fun x => x.1 ≤ s.thr.length ∧ (0 ≤ x.2.1 ∧ x.2.1 ≤ x.1) ∧ (0 ≤ x.2.2 ∧ x.2.2 ≤ x.1) ∧ s.valid = s.mid (s.scanT (s.thr.drop x.1) x.2.1 x.2.2)) (0, 0, 0) (by kernel_rfl)
    ⟨Nat.zero_le _, by simp, by simp, by simpa using hv⟩ (Wk.slots' rfl (by simp [wkS, Ch.get])) ?_
  rintro ⟨i, a, b⟩ ⟨hi, ha, hb, hx⟩ K hK
  simp only at hi ha hb hx
  simp only [go_sem, Nat.reduceAdd, Nat.reduceSub, Nat.reduceMul, Nat.reduceEqDiff, Nat.reduceLeDiff, Nat.reduceLT, ↓reduceIte, Int.reduceToNat, reduceCtorEq]
  refine condD_dec (fun hc => ?_) (fun hc => ?_)
  · have hc' : i < s.thr.length := by omega
    obtain ⟨t, ht⟩ := at_lt hc'
    have e1 : iw .i64 ((i : Int) + 1) = ((i + 1 : Nat) : Int) := by rw [iw64] <;> omega
    have e2 : iw .i64 (a + 1) = a + 1 := by rw [iw64] <;> omega
    have e3 : iw .i64 (b + 1) = b + 1 := by rw [iw64] <;> omega
    rw [drop_at ht, S.scanT] at hx
    have bad : s.badT t = true → false = s.valid := fun h => by rw [hx, if_pos h]; rfl
    simp only [go_sem, Nat.reduceAdd, Nat.reduceSub, Nat.reduceMul, Nat.reduceEqDiff, Nat.reduceLeDiff, Nat.reduceLT, ↓reduceIte, Int.reduceToNat, reduceCtorEq, List.length_map, List.getElem?_map, ht, hc, hc', Int.natCast_nonneg, T.row]
    refine gD_dec (fun hg => ?_) (fun hg => ?_) <;> simp only [go_sem, Nat.reduceAdd, Nat.reduceSub, Nat.reduceMul, Nat.reduceEqDiff, Nat.reduceLeDiff, Nat.reduceLT, ↓reduceIte, Int.reduceToNat, reduceCtorEq, hg, List.length_map, List.getElem?_map, ht, hc, hc', Int.natCast_nonneg, T.row]
    · exact fin _ _ (bad (by simp [S.badT, hg]))
    refine gD_dec (fun hg => ?_) (fun hg => ?_) <;> simp only [go_sem, Nat.reduceAdd, Nat.reduceSub, Nat.reduceMul, Nat.reduceEqDiff, Nat.reduceLeDiff, Nat.reduceLT, ↓reduceIte, Int.reduceToNat, reduceCtorEq, hg, List.length_map, List.getElem?_map, ht, hc, hc', Int.natCast_nonneg, T.row]
    · exact fin _ _ (bad (by simp [S.badT, hg]))
    refine gD_dec (fun hg => ?_) (fun hg => ?_) <;> simp only [go_sem, Nat.reduceAdd, Nat.reduceSub, Nat.reduceMul, Nat.reduceEqDiff, Nat.reduceLeDiff, Nat.reduceLT, ↓reduceIte, Int.reduceToNat, reduceCtorEq, hg, List.length_map, List.getElem?_map, ht, hc, hc', Int.natCast_nonneg, T.row]
    · exact fin _ _ (bad (by simp [S.badT, hg]))
    refine gD_dec (fun hg => ?_) (fun hg => ?_) <;> simp only [go_sem, Nat.reduceAdd, Nat.reduceSub, Nat.reduceMul, Nat.reduceEqDiff, Nat.reduceLeDiff, Nat.reduceLT, ↓reduceIte, Int.reduceToNat, reduceCtorEq, hg, List.length_map, List.getElem?_map, ht, hc, hc', Int.natCast_nonneg, T.row]
    · exact fin _ _ (bad (by simp [S.badT]; omega))
    refine gD_dec (fun hg => ?_) (fun hg => ?_) <;> simp only [go_sem, Nat.reduceAdd, Nat.reduceSub, Nat.reduceMul, Nat.reduceEqDiff, Nat.reduceLeDiff, Nat.reduceLT, ↓reduceIte, Int.reduceToNat, reduceCtorEq, hg, List.length_map, List.getElem?_map, ht, hc, hc', Int.natCast_nonneg, T.row]
    · exact fin _ _ (bad (by simp [S.badT, hg]))
    refine condD_dec (fun hg => ?_) (fun hg => ?_) <;> simp only [go_sem, Nat.reduceAdd, Nat.reduceSub, Nat.reduceMul, Nat.reduceEqDiff, Nat.reduceLeDiff, Nat.reduceLT, ↓reduceIte, Int.reduceToNat, reduceCtorEq, hg, List.length_map, List.getElem?_map, ht, hc, hc', Int.natCast_nonneg, T.row]
    · exact fin _ _ (bad (by simp [S.badT, hg]))
    rw [if_neg (by simp [S.badT]; omega)] at hx
    refine condD_dec (fun hg => ?_) (fun hg => ?_) <;> simp only [go_sem, Nat.reduceAdd, Nat.reduceSub, Nat.reduceMul, Nat.reduceEqDiff, Nat.reduceLeDiff, Nat.reduceLT, ↓reduceIte, Int.reduceToNat, reduceCtorEq, hg, e1, e2, e3]
    · rw [if_pos hg] at hx
      refine hK (i + 1, a + 1, b) _ _ ⟨hc', ⟨by dsimp only; omega, by dsimp only; omega⟩, ⟨by dsimp only; omega, by dsimp only; omega⟩, hx⟩ (by simp; omega) (Wk.drop (m := 1) (by simp [wkS, Ch.get]) (by decide) (by simp) (by simp [chLt, AV.lt]) rfl hb0)
    · rw [if_neg hg] at hx
      refine condD_dec (fun hg => ?_) (fun hg => ?_) <;> simp only [go_sem, Nat.reduceAdd, Nat.reduceSub, Nat.reduceMul, Nat.reduceEqDiff, Nat.reduceLeDiff, Nat.reduceLT, ↓reduceIte, Int.reduceToNat, reduceCtorEq, hg, e1, e2, e3]
      · rw [if_pos hg] at hx
        refine hK (i + 1, a, b + 1) _ _ ⟨hc', ⟨by dsimp only; omega, by dsimp only; omega⟩, ⟨by dsimp only; omega, by dsimp only; omega⟩, hx⟩ (by simp; omega) (Wk.drop (m := 1) (by simp [wkS, Ch.get]) (by decide) (by simp) (by simp [chLt, AV.lt]) rfl hb0)
      · rw [if_neg hg] at hx
        refine hK (i + 1, a, b) _ _ ⟨hc', ⟨by dsimp only; omega, by dsimp only; omega⟩, ⟨by dsimp only; omega, by dsimp only; omega⟩, hx⟩ (by simp; omega) (Wk.drop (m := 1) (by simp [wkS, Ch.get]) (by decide) (by simp) (by simp [chLt, AV.lt]) rfl hb0)
  · simp only [go_sem, Nat.reduceAdd, Nat.reduceSub, Nat.reduceMul, Nat.reduceEqDiff, Nat.reduceLeDiff, Nat.reduceLT, ↓reduceIte, Int.reduceToNat, reduceCtorEq]
    have : s.thr.drop i = [] := by simp; omega
    rw [this, S.scanT, S.mid] at hx
    clear hK
    refine loop_fam (fun x : Nat × List Int × Int × Int => (((((((Ch.nil.put 1 (.ptr 0 0 0)).put 3 (iv x.2.2.1)).put 4 (iv x.2.2.2)).put 7 (.func (.func 89) [] [.ptr 0 0 0])).put 8 (.map 1)).put 91 (.view false 3 (s.cpus.map Q.row))).put 92 (iv s.cpus.length)).put 93 (iv x.1))
      (fun x => [.rows 3 [[.view false 3 (s.cpus.map Q.row), .view false 3 (s.thr.map T.row), iv s.quantum]], .amap (x.2.1.map seenE)]) (fun x => s.cpus.length - x.1)
      (fun x => x.1 ≤ s.cpus.length ∧ x.2.1.Nodup ∧ (∀ y ∈ x.2.1, 0 ≤ y ∧ y < s.thr.length) ∧ (x.2.2.1 + x.2.1.length = a) ∧ (b - x.1 ≤ x.2.2.2 ∧ x.2.2.2 ≤ b) ∧ s.valid = s.scanQ x.1 (s.cpus.drop x.1) x.2.1 x.2.2.1 x.2.2.2) (0, [], a, b) (by kernel_rfl)
      ⟨Nat.zero_le _, by simp, by simp, by simp, by simp, by simpa using hx⟩ (Wk.slots' (by simp) (by simp [wkS, Ch.get, List.length_map])) ?_
    rintro ⟨c, seen, a', b'⟩ ⟨hci, hnd, hse, ha', hb', hy⟩ K hK
    simp only at hci hnd hse ha' hb' hy
    simp only [go_sem, Nat.reduceAdd, Nat.reduceSub, Nat.reduceMul, Nat.reduceEqDiff, Nat.reduceLeDiff, Nat.reduceLT, ↓reduceIte, Int.reduceToNat, reduceCtorEq]
    refine condD_dec (fun hc => ?_) (fun hc => ?_)
    · have hc' : c < s.cpus.length := by omega
      obtain ⟨q, hq⟩ := at_lt hc'
      have e1 : iw .i64 ((c : Int) + 1) = ((c + 1 : Nat) : Int) := by rw [iw64] <;> omega
      have e2 : iw .i64 (b' - 1) = b' - 1 := by rw [iw64] <;> omega
      rw [drop_at hq, S.scanQ] at hy
      have bad : s.badQ c q = true → false = s.valid := fun h => by rw [hy, if_pos h]
      simp only [go_sem, Nat.reduceAdd, Nat.reduceSub, Nat.reduceMul, Nat.reduceEqDiff, Nat.reduceLeDiff, Nat.reduceLT, ↓reduceIte, Int.reduceToNat, reduceCtorEq, List.length_map, List.getElem?_map, hq, hc, hc', Int.natCast_nonneg, Q.row]
      generalize hb2 : (if q.run = -1 then b' else b' - 1) = b2 at hy
      have hb2b : b - (c + 1 : Nat) ≤ b2 ∧ b2 ≤ b := by split at hb2 <;> omega
      have base1 : ∃ st : Ch, st = ((((((((((Ch.nil.put 1 (.ptr 0 0 0)).put 3 (iv a')).put 4 (iv b')).put 7 (.func (.func 89) [] [.ptr 0 0 0])).put 8 (.map 1)).put 91 (.view false 3 (s.cpus.map Q.row))).put 92 (iv s.cpus.length)).put 93 (iv c)).put 9 (iv c)).put 10 (.ptr 2 0 0)) := ⟨_, rfl⟩
      obtain ⟨st1, hst1⟩ := base1
      obtain ⟨hp1, hhp1⟩ : ∃ hp : Heap, hp = [.rows 3 [[.view false 3 (s.cpus.map Q.row), .view false 3 (s.thr.map T.row), iv s.quantum]], .amap (seen.map seenE), .rows 3 [[iv q.run, iv q.left, .view false 1 (q.ready.map r1)]]] := ⟨_, rfl⟩
      refine seq_cut (fun _ : Unit => st1) (fun _ => hp1) (fun _ => s.badQ c q = false) (by kernel_rfl) (fun K1 hK1 => ?_) (fun _ hnb => ?_)
      · have leaf : ∀ st', s.badQ c q = false → wkS st1 st' → K1 st' hp1 := fun st' h1 h2 => hK1 () _ _ h1 (Wk.slots h2)
        rw [hhp1, hst1] at leaf
        simp only [go_sem, Nat.reduceAdd, Nat.reduceSub, Nat.reduceMul, Nat.reduceEqDiff, Nat.reduceLeDiff, Nat.reduceLT, ↓reduceIte, Int.reduceToNat, reduceCtorEq]
        refine gD_dec (fun hr => ?_) (fun hr => ?_)
        · simp only [go_sem, Nat.reduceAdd, Nat.reduceSub, Nat.reduceMul, Nat.reduceEqDiff, Nat.reduceLeDiff, Nat.reduceLT, ↓reduceIte, Int.reduceToNat, reduceCtorEq, hr]
          refine gD_dec (fun hg => ?_) (fun hg => ?_) <;> simp only [go_sem, Nat.reduceAdd, Nat.reduceSub, Nat.reduceMul, Nat.reduceEqDiff, Nat.reduceLeDiff, Nat.reduceLT, ↓reduceIte, Int.reduceToNat, reduceCtorEq, hg]
          · exact fin _ _ (bad (by simp [S.badQ, hr, hg]))
          · rw [hr] at leaf
            refine leaf _ (by simp [S.badQ, hr]; omega) (by simp [wkS, Ch.get])
        · simp only [go_sem, Nat.reduceAdd, Nat.reduceSub, Nat.reduceMul, Nat.reduceEqDiff, Nat.reduceLeDiff, Nat.reduceLT, ↓reduceIte, Int.reduceToNat, reduceCtorEq, hr]
          refine rK_use (enters_of Try.func89 rfl (by decide)) (is_c s q.run c 2 _) ?_
          simp only [go_sem, Nat.reduceAdd, Nat.reduceSub, Nat.reduceMul, Nat.reduceEqDiff, Nat.reduceLeDiff, Nat.reduceLT, ↓reduceIte, Int.reduceToNat, reduceCtorEq]
          cases his : s.is q.run c 2
          · simp only [go_sem, Nat.reduceAdd, Nat.reduceSub, Nat.reduceMul, Nat.reduceEqDiff, Nat.reduceLeDiff, Nat.reduceLT, ↓reduceIte, Int.reduceToNat, reduceCtorEq]
            exact fin _ _ (bad (by simp [S.badQ, hr, his]))
          · simp only [go_sem, Nat.reduceAdd, Nat.reduceSub, Nat.reduceMul, Nat.reduceEqDiff, Nat.reduceLeDiff, Nat.reduceLT, ↓reduceIte, Int.reduceToNat, reduceCtorEq]
            refine gD_dec (fun hg => ?_) (fun hg => ?_) <;> simp only [go_sem, Nat.reduceAdd, Nat.reduceSub, Nat.reduceMul, Nat.reduceEqDiff, Nat.reduceLeDiff, Nat.reduceLT, ↓reduceIte, Int.reduceToNat, reduceCtorEq, hg]
            · exact fin _ _ (bad (by simp [S.badQ, hr, hg]))
            · refine condD_dec (fun hg => ?_) (fun hg => ?_) <;> simp only [go_sem, Nat.reduceAdd, Nat.reduceSub, Nat.reduceMul, Nat.reduceEqDiff, Nat.reduceLeDiff, Nat.reduceLT, ↓reduceIte, Int.reduceToNat, reduceCtorEq, hg]
              · exact fin _ _ (bad (by simp [S.badQ, hr, hg]))
              · exact leaf _ (by simp [S.badQ, hr, his]; omega) (by simp [wkS, Ch.get])
      · rw [hnb] at hy
        simp only [Bool.false_eq_true, if_false] at hy
        subst hst1 hhp1
        simp only [go_sem, Nat.reduceAdd, Nat.reduceSub, Nat.reduceMul, Nat.reduceEqDiff, Nat.reduceLeDiff, Nat.reduceLT, ↓reduceIte, Int.reduceToNat, reduceCtorEq]
        refine seq_cut (fun _ : Unit => ((((((((((Ch.nil.put 1 (.ptr 0 0 0)).put 3 (iv a')).put 4 (iv b2)).put 7 (.func (.func 89) [] [.ptr 0 0 0])).put 8 (.map 1)).put 91 (.view false 3 (s.cpus.map Q.row))).put 92 (iv s.cpus.length)).put 93 (iv c)).put 9 (iv c)).put 10 (.ptr 2 0 0)))
          (fun _ => [.rows 3 [[.view false 3 (s.cpus.map Q.row), .view false 3 (s.thr.map T.row), iv s.quantum]], .amap (seen.map seenE), .rows 3 [[iv q.run, iv q.left, .view false 1 (q.ready.map r1)]]]) (fun _ => True) (by kernel_rfl) (fun K1 hK1 => ?_) (fun _ _ => ?_)
        · simp only [go_sem, Nat.reduceAdd, Nat.reduceSub, Nat.reduceMul, Nat.reduceEqDiff, Nat.reduceLeDiff, Nat.reduceLT, ↓reduceIte, Int.reduceToNat, reduceCtorEq]
          refine condD_dec (fun hg => ?_) (fun hg => ?_) <;> simp only [go_sem, Nat.reduceAdd, Nat.reduceSub, Nat.reduceMul, Nat.reduceEqDiff, Nat.reduceLeDiff, Nat.reduceLT, ↓reduceIte, Int.reduceToNat, reduceCtorEq, hg, e2]
          · rw [if_neg (by simpa using hg)] at hb2
            subst hb2
            exact hK1 () _ _ trivial (Wk.slots (by simp [wkS, Ch.get]))
          · rw [if_pos (by omega)] at hb2
            subst hb2
            exact hK1 () _ _ trivial (Wk.slots (by simp [wkS, Ch.get]))
        · simp only [go_sem, Nat.reduceAdd, Nat.reduceSub, Nat.reduceMul, Nat.reduceEqDiff, Nat.reduceLeDiff, Nat.reduceLT, ↓reduceIte, Int.reduceToNat, reduceCtorEq]
          have hy' : s.valid = s.nx c (s.cpus.drop (c + 1)) (a' - q.ready.length) b2 (s.scanR c none q.ready seen) := by
            rw [hy]; cases s.scanR c none q.ready seen <;> rfl
          refine loop_fam (fun x : Nat × List Int => (((((((((((((Ch.nil.put 1 (.ptr 0 0 0)).put 3 (iv (a' - x.1))).put 4 (iv b2)).put 7 (.func (.func 89) [] [.ptr 0 0 0])).put 8 (.map 1)).put 91 (.view false 3 (s.cpus.map Q.row))).put 92 (iv s.cpus.length)).put 93 (iv c)).put 9 (iv c)).put 10 (.ptr 2 0 0)).put 137 (.view false 1 (q.ready.map r1))).put 138 (iv q.ready.length)).put 139 (iv x.1)))
            (fun x => [.rows 3 [[.view false 3 (s.cpus.map Q.row), .view false 3 (s.thr.map T.row), iv s.quantum]], .amap (x.2.map seenE), .rows 3 [[iv q.run, iv q.left, .view false 1 (q.ready.map r1)]]]) (fun x => q.ready.length - x.1)
            (fun x => x.1 ≤ q.ready.length ∧ x.2.Nodup ∧ (∀ y ∈ x.2, 0 ≤ y ∧ y < s.thr.length) ∧ x.2.length = seen.length + x.1 ∧ (∀ y, prevAt q.ready x.1 = some y → 0 ≤ y ∧ y < s.thr.length) ∧ s.valid = s.nx c (s.cpus.drop (c + 1)) (a' - q.ready.length) b2 (s.scanR c (prevAt q.ready x.1) (q.ready.drop x.1) x.2)) (0, seen) (by kernel_rfl)
            ⟨Nat.zero_le _, hnd, hse, rfl, by simp [prevAt], by simpa [prevAt] using hy'⟩ (Wk.slots' (by simp) (by simp [wkS, Ch.get, List.length_map])) ?_
          rintro ⟨j, sn2⟩ ⟨hj, hnd2, hse2, hln2, hpv, hz⟩ K2 hK2
          simp only at hj hnd2 hse2 hln2 hpv hz
          have hpg := pigeon _ sn2 hnd2 hse2
          simp only [go_sem, Nat.reduceAdd, Nat.reduceSub, Nat.reduceMul, Nat.reduceEqDiff, Nat.reduceLeDiff, Nat.reduceLT, ↓reduceIte, Int.reduceToNat, reduceCtorEq]
          refine condD_dec (fun hd => ?_) (fun hd => ?_)
          · have hd' : j < q.ready.length := by omega
            obtain ⟨x, hx1⟩ := at_lt hd'
            simp only [go_sem, Nat.reduceAdd, Nat.reduceSub, Nat.reduceMul, Nat.reduceEqDiff, Nat.reduceLeDiff, Nat.reduceLT, ↓reduceIte, Int.reduceToNat, reduceCtorEq, List.length_map, List.getElem?_map, hx1, hd, hd', Int.natCast_nonneg]
            rw [drop_at hx1, S.scanR] at hz
            refine seq_cut (fun _ : Unit => (((((((((((((((Ch.nil.put 1 (.ptr 0 0 0)).put 3 (iv (a' - j))).put 4 (iv b2)).put 7 (.func (.func 89) [] [.ptr 0 0 0])).put 8 (.map 1)).put 91 (.view false 3 (s.cpus.map Q.row))).put 92 (iv s.cpus.length)).put 93 (iv c)).put 9 (iv c)).put 10 (.ptr 2 0 0)).put 137 (.view false 1 (q.ready.map r1))).put 138 (iv q.ready.length)).put 139 (iv j))).put 11 (iv j)).put 12 (iv x))
              (fun _ => [.rows 3 [[.view false 3 (s.cpus.map Q.row), .view false 3 (s.thr.map T.row), iv s.quantum]], .amap (sn2.map seenE), .rows 3 [[iv q.run, iv q.left, .view false 1 (q.ready.map r1)]]]) (fun _ => s.is x c 1 = true ∧ x ∉ sn2 ∧ s.up (prevAt q.ready j) x = false) (by kernel_rfl) (fun K3 hK3 => ?_) (fun _ hok => ?_)
            · have bad3 : s.is x c 1 = false ∨ x ∈ sn2 ∨ s.up (prevAt q.ready j) x = true → false = s.valid := fun h => by rw [hz, if_pos h]; rfl
              obtain ⟨o, ho1, ho2, ho3⟩ := mfind_seen x sn2 0
              simp only [go_sem, Nat.reduceAdd, Nat.reduceSub, Nat.reduceMul, Nat.reduceEqDiff, Nat.reduceLeDiff, Nat.reduceLT, ↓reduceIte, Int.reduceToNat, reduceCtorEq]
              refine draw [.qu 0 0, .qu 0 0, .qu 0 0, .mn 0, .qu 1 1, .qu 1 1, .qu 1 1, .qu 1 1, .qu 1 1, .qu 1 1, .qu 1 1, .qu 1 1, .qu 1 1, .qu 1 1, .qu 1 1, .qu 1 1, .qu 1 1, .qu 1 1, .qu 1 1, .qu 1 1, .qu 1 1, .qu 1 1, .qu 1 1, .qu 1 1, .qu 1 1, .qu 1 1, .qu 1 1, .qu 1 1, .qu 1 1, .qu 1 1, .qu 1 1, .qu 1 1, .qu 1 1, .qu 1 1] (by kernel_rfl) (by kernel_rfl) ?_
              simp only [go_sem, Nat.reduceAdd, Nat.reduceSub, Nat.reduceMul, Nat.reduceEqDiff, Nat.reduceLeDiff, Nat.reduceLT, ↓reduceIte, Int.reduceToNat, reduceCtorEq]
              refine dM_call (enters_of Try.func89 rfl (by decide)) (is_c s x c 1 _) ?_
              simp only [go_sem, Nat.reduceAdd, Nat.reduceSub, Nat.reduceMul, Nat.reduceEqDiff, Nat.reduceLeDiff, Nat.reduceLT, ↓reduceIte, Int.reduceToNat, reduceCtorEq]
              cases his : s.is x c 1
              · simp only [go_sem, Nat.reduceAdd, Nat.reduceSub, Nat.reduceMul, Nat.reduceEqDiff, Nat.reduceLeDiff, Nat.reduceLT, ↓reduceIte, Int.reduceToNat, reduceCtorEq]
                exact fin _ _ (bad3 (.inl his))
              · by_cases hsn : x ∈ sn2
                · obtain ⟨k, hk⟩ := ho2 hsn
                  rw [hk] at ho1
                  simp only [go_sem, Nat.reduceAdd, Nat.reduceSub, Nat.reduceMul, Nat.reduceEqDiff, Nat.reduceLeDiff, Nat.reduceLT, ↓reduceIte, Int.reduceToNat, reduceCtorEq, ho1, mEnts, aLookupE, keyAV, lookRes, S.row]
                  exact fin _ _ (bad3 (.inr (.inl hsn)))
                · rw [ho3 hsn] at ho1
                  simp only [go_sem, Nat.reduceAdd, Nat.reduceSub, Nat.reduceMul, Nat.reduceEqDiff, Nat.reduceLeDiff, Nat.reduceLT, ↓reduceIte, Int.reduceToNat, reduceCtorEq, ho1, mEnts, aLookupE, keyAV, lookRes, S.row]
                  refine dG_dec (fun hj0 => ?_) (fun hj0 => ?_)
                  · obtain ⟨y, hy2⟩ : ∃ y, q.ready[j - 1]? = some y := at_lt (by omega)
                    have hpj : prevAt q.ready j = some y := by rw [prevAt, if_neg (by omega), hy2]
                    have hy3 := hpv y hpj
                    have hx0 : 0 ≤ x ∧ x < s.thr.length := S.is_lt his
                    obtain ⟨tx, htx⟩ : ∃ y, s.thr[x.toNat]? = some y := at_lt (by omega)
                    obtain ⟨ty, hty⟩ : ∃ z, s.thr[y.toNat]? = some z := at_lt (by omega)
                    have hxl : x.toNat < s.thr.length := by omega
                    have hyl : y.toNat < s.thr.length := by omega
                    have e3 : iw .i64 ((j : Int) - 1) = ((j - 1 : Nat) : Int) := by rw [iw64] <;> omega
                    have hj1 : ((j - 1 : Nat) : Int) < q.ready.length := by omega
                    have hj2 : j - 1 < q.ready.length := by omega
                    simp only [go_sem, Nat.reduceAdd, Nat.reduceSub, Nat.reduceMul, Nat.reduceEqDiff, Nat.reduceLeDiff, Nat.reduceLT, ↓reduceIte, Int.reduceToNat, reduceCtorEq, hj0, e3, hj1, hj2, List.length_map, List.getElem?_map, hy2, hy3, hx0, htx, hty, hxl, hyl, T.row, Int.natCast_nonneg]
                    have hup : s.up (prevAt q.ready j) x = decide (ty.pri < tx.pri) := by simp [hpj, S.up, S.pri, htx, hty]
                    refine condD_dec (fun hg => ?_) (fun hg => ?_) <;> simp only [go_sem, Nat.reduceAdd, Nat.reduceSub, Nat.reduceMul, Nat.reduceEqDiff, Nat.reduceLeDiff, Nat.reduceLT, ↓reduceIte, Int.reduceToNat, reduceCtorEq, hg]
                    · exact fin _ _ (bad3 (.inr (.inr (by simp [hup, hg]))))
                    · exact hK3 () _ _ ⟨his, hsn, by simp [hup, hg]⟩ (Wk.slots (by simp [wkS, Ch.get]))
                  · simp only [go_sem, Nat.reduceAdd, Nat.reduceSub, Nat.reduceMul, Nat.reduceEqDiff, Nat.reduceLeDiff, Nat.reduceLT, ↓reduceIte, Int.reduceToNat, reduceCtorEq, hj0]
                    have hj00 : j = 0 := by omega
                    exact hK3 () _ _ ⟨his, hsn, by simp [prevAt, hj00, S.up]⟩ (Wk.slots (by simp [wkS, Ch.get]))
            · obtain ⟨o, ho1, ho2, ho3⟩ := mfind_seen x sn2 0
              rw [ho3 hok.2.1] at ho1
              have hx0 : 0 ≤ x ∧ x < s.thr.length := S.is_lt hok.1
              have hnd3 : (sn2 ++ [x]).Nodup := by
                rw [List.nodup_append]
                exact ⟨hnd2, by simp, fun a ha b hb e => hok.2.1 (by simp at hb; subst hb; exact e ▸ ha)⟩
              have hse3 : ∀ y ∈ sn2 ++ [x], 0 ≤ y ∧ y < s.thr.length := fun y hy => by
                rcases List.mem_append.1 hy with h | h
                · exact hse2 y h
                · simp at h; subst h; exact hx0
              have hpg3 := pigeon _ _ hnd3 hse3
              rw [List.length_append, List.length_singleton] at hpg3
              have e3 : iw .i64 (a' - j - 1) = a' - ((j + 1 : Nat) : Int) := by rw [iw64] <;> omega
              have e4 : iw .i64 ((j : Int) + 1) = ((j + 1 : Nat) : Int) := by rw [iw64] <;> omega
              simp only [go_sem, Nat.reduceAdd, Nat.reduceSub, Nat.reduceMul, Nat.reduceEqDiff, Nat.reduceLeDiff, Nat.reduceLT, ↓reduceIte, Int.reduceToNat, reduceCtorEq, ho1, aMapUpdE, aMapUpdB, keyAV, e3, e4]
              rw [if_neg (by simp [hok])] at hz
              have hp1 : prevAt q.ready (j + 1) = some x := by simp [prevAt, hx1]
              refine hK2 (j + 1, sn2 ++ [x]) _ _ ⟨hd', hnd3, hse3, by simp; omega, fun y hy => ?_, by rw [hp1]; exact hz⟩ (by simp; omega) (Wk.slots' (by simp [seenE]) (by simp [wkS, Ch.get]))
              rw [hp1] at hy
              cases hy
              exact hx0
          · have e3 : q.ready.drop j = [] := by simp; omega
            have e4 : j = q.ready.length := by omega
            rw [e3, S.scanR, S.nx] at hz
            simp only [go_sem, Nat.reduceAdd, Nat.reduceSub, Nat.reduceMul, Nat.reduceEqDiff, Nat.reduceLeDiff, Nat.reduceLT, ↓reduceIte, Int.reduceToNat, reduceCtorEq, e1]
            refine hK (c + 1, sn2, a' - j, b2) _ _ ⟨hc', hnd2, hse2, by dsimp only; omega, hb2b, by rw [e4]; exact hz⟩ (by simp; omega) (Wk.drop (m := 2) (by simp [wkS, Ch.get]) (by decide) (by simp) (by simp [chLt, AV.lt, ltL]) rfl ?_)
            simp only [List.forall_mem_cons]
            refine ⟨?_, ?_, by simp⟩
            · simp [Blk.lt, ltL, AV.lt]
            · intro e he
              obtain ⟨x, _, rfl⟩ := List.mem_map.1 he
              rfl
    · simp only [go_sem, Nat.reduceAdd, Nat.reduceSub, Nat.reduceMul, Nat.reduceEqDiff, Nat.reduceLeDiff, Nat.reduceLT, ↓reduceIte, Int.reduceToNat, reduceCtorEq]
      have : s.cpus.drop c = [] := by simp; omega
      rw [this, S.scanQ] at hy
      refine gD_dec (fun hg => ?_) (fun hg => ?_) <;> simp only [go_sem, Nat.reduceAdd, Nat.reduceSub, Nat.reduceMul, Nat.reduceEqDiff, Nat.reduceLeDiff, Nat.reduceLT, ↓reduceIte, Int.reduceToNat, reduceCtorEq, hg]
      · exact fin _ _ (by rw [hy]; simp [hg])
      · exact fin _ _ (by rw [hy]; simp [hg])
end Go.Proofs.Ytljepmbikbdicaa
