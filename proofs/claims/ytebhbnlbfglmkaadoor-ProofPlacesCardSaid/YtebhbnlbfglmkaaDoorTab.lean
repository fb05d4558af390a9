/- The table of the types, read off the program. No condition. -/
import Derived.Test.YtebhbnlbfglmkaaDoorProg
import Derived.Test.YtebhbnlbfglmkaaDoorSw
import Derived.KernelRfl
namespace Go.Proofs.YtebhbnlbfglmkaaDoor
open Go Go.Sv
theorem ty1 : tyS Tryd.prog 1 = some ⟨1, 8, [.nilFunc], false, .other⟩ := by kernel_rfl
theorem ty2 : tyS Tryd.prog 2 = some ⟨1, 8, [.int .i64 0], false, .int .i64⟩ := by kernel_rfl
theorem ty3 : tyS Tryd.prog 3 = some ⟨1, 8, [.int .i64 0], false, .int .i64⟩ := by kernel_rfl
theorem ty4 : tyS Tryd.prog 4 = some ⟨1, 1, [.bool false], false, .bool⟩ := by kernel_rfl
theorem ty5 : tyS Tryd.prog 5 = some ⟨1, 1, [.int .u8 0], false, .int .u8⟩ := by kernel_rfl
theorem ty6 : tyS Tryd.prog 6 = some ⟨1, 1, [.int .u8 0], false, .int .u8⟩ := by kernel_rfl
theorem ty7 : tyS Tryd.prog 7 = some ⟨4, 24, [.int .i64 0, .int .i64 0, .bool false, .int .u8 0], true, .struct [(0, 1, 2), (1, 1, 3), (2, 1, 4), (3, 1, 6)]⟩ := by kernel_rfl
theorem ty8 : tyS Tryd.prog 8 = some ⟨4, 24, [.int .i64 0, .int .i64 0, .bool false, .int .u8 0], true, .struct [(0, 1, 2), (1, 1, 3), (2, 1, 4), (3, 1, 6)]⟩ := by kernel_rfl
theorem ty9 : tyS Tryd.prog 9 = some ⟨1, 16, [.string ⟨#[]⟩], false, .str⟩ := by kernel_rfl
theorem ty10 : tyS Tryd.prog 10 = some ⟨1, 16, [.string ⟨#[]⟩], false, .str⟩ := by kernel_rfl
theorem ty11 : tyS Tryd.prog 11 = some ⟨1, 16, [.string ⟨#[]⟩], false, .str⟩ := by kernel_rfl
theorem ty12 : tyS Tryd.prog 12 = some ⟨1, 8, [.int .u64 0], false, .int .u64⟩ := by kernel_rfl
theorem ty13 : tyS Tryd.prog 13 = some ⟨2, 24, [.string ⟨#[]⟩, .int .u64 0], true, .struct [(0, 1, 9), (1, 1, 12)]⟩ := by kernel_rfl
theorem ty14 : tyS Tryd.prog 14 = some ⟨2, 24, [.string ⟨#[]⟩, .int .u64 0], true, .struct [(0, 1, 9), (1, 1, 12)]⟩ := by kernel_rfl
theorem ty15 : tyS Tryd.prog 15 = some ⟨1, 8, [.pointer none], false, .other⟩ := by kernel_rfl
theorem ty16 : tyS Tryd.prog 16 = some ⟨1, 8, [.pointer none], false, .other⟩ := by kernel_rfl
theorem ty17 : tyS Tryd.prog 17 = some ⟨1, 8, [.pointer none], false, .other⟩ := by kernel_rfl
theorem ty18 : tyS Tryd.prog 18 = some ⟨1, 8, [.pointer none], true, .struct [(0, 1, 17)]⟩ := by kernel_rfl
theorem ty19 : tyS Tryd.prog 19 = some ⟨1, 8, [.pointer none], true, .struct [(0, 1, 17)]⟩ := by kernel_rfl
theorem ty21 : tyS Tryd.prog 21 = some ⟨1, 4, [.int .i32 0], false, .int .i32⟩ := by kernel_rfl
theorem ty22 : tyS Tryd.prog 22 = some ⟨1, 8, [.nilFunc], false, .other⟩ := by kernel_rfl
theorem ty23 : tyS Tryd.prog 23 = some ⟨1, 24, [.slice none 0 0], false, .slice 52⟩ := by kernel_rfl
theorem ty24 : tyS Tryd.prog 24 = some ⟨1, 8, [.int .i64 0], false, .int .i64⟩ := by kernel_rfl
theorem ty26 : tyS Tryd.prog 26 = some ⟨1, 8, [.nilFunc], false, .other⟩ := by kernel_rfl
theorem ty28 : tyS Tryd.prog 28 = some ⟨1, 8, [.nilFunc], false, .other⟩ := by kernel_rfl
theorem ty29 : tyS Tryd.prog 29 = some ⟨1, 8, [.nilFunc], false, .other⟩ := by kernel_rfl
theorem ty30 : tyS Tryd.prog 30 = some ⟨1, 8, [.nilFunc], false, .other⟩ := by kernel_rfl
theorem ty31 : tyS Tryd.prog 31 = some ⟨1, 24, [.slice none 0 0], false, .slice 3⟩ := by kernel_rfl
theorem ty32 : tyS Tryd.prog 32 = some ⟨1, 8, [.nilFunc], false, .other⟩ := by kernel_rfl
theorem ty34 : tyS Tryd.prog 34 = some ⟨1, 8, [.nilFunc], false, .other⟩ := by kernel_rfl
theorem ty36 : tyS Tryd.prog 36 = some ⟨1, 8, [.nilFunc], false, .other⟩ := by kernel_rfl
theorem ty38 : tyS Tryd.prog 38 = some ⟨1, 8, [.nilFunc], false, .other⟩ := by kernel_rfl
theorem ty40 : tyS Tryd.prog 40 = some ⟨1, 8, [.nilFunc], false, .other⟩ := by kernel_rfl
theorem ty41 : tyS Tryd.prog 41 = some ⟨1, 24, [.slice none 0 0], false, .slice 31⟩ := by kernel_rfl
theorem ty43 : tyS Tryd.prog 43 = some ⟨1, 8, [.nilFunc], false, .other⟩ := by kernel_rfl
theorem ty44 : tyS Tryd.prog 44 = some ⟨1, 8, [.nilFunc], false, .other⟩ := by kernel_rfl
theorem ty45 : tyS Tryd.prog 45 = some ⟨1, 8, [.nilFunc], false, .other⟩ := by kernel_rfl
theorem ty46 : tyS Tryd.prog 46 = some ⟨1, 8, [.nilFunc], false, .other⟩ := by kernel_rfl
theorem ty47 : tyS Tryd.prog 47 = some ⟨1, 8, [.nilFunc], false, .other⟩ := by kernel_rfl
theorem ty48 : tyS Tryd.prog 48 = some ⟨1, 24, [.slice none 0 0], false, .slice 53⟩ := by kernel_rfl
theorem ty49 : tyS Tryd.prog 49 = some ⟨1, 8, [.nilFunc], false, .other⟩ := by kernel_rfl
theorem ty50 : tyS Tryd.prog 50 = some ⟨1, 8, [.nilFunc], false, .other⟩ := by kernel_rfl
theorem ty51 : tyS Tryd.prog 51 = some ⟨4, 64, [.int .i64 0, .int .i64 0, .slice none 0 0, .slice none 0 0], true, .struct [(0, 1, 3), (1, 1, 3), (2, 1, 31), (3, 1, 31)]⟩ := by kernel_rfl
theorem ty52 : tyS Tryd.prog 52 = some ⟨4, 64, [.int .i64 0, .int .i64 0, .slice none 0 0, .slice none 0 0], true, .struct [(0, 1, 3), (1, 1, 3), (2, 1, 31), (3, 1, 31)]⟩ := by kernel_rfl
theorem ty53 : tyS Tryd.prog 53 = some ⟨1, 24, [.slice none 0 0], false, .slice 55⟩ := by kernel_rfl
theorem ty54 : tyS Tryd.prog 54 = some ⟨3, 32, [.int .i64 0, .int .i64 0, .string ⟨#[]⟩], true, .struct [(0, 1, 3), (1, 1, 3), (2, 1, 9)]⟩ := by kernel_rfl
theorem ty55 : tyS Tryd.prog 55 = some ⟨3, 32, [.int .i64 0, .int .i64 0, .string ⟨#[]⟩], true, .struct [(0, 1, 3), (1, 1, 3), (2, 1, 9)]⟩ := by kernel_rfl
theorem ty56 : tyS Tryd.prog 56 = some ⟨1, 8, [.pointer none], false, .other⟩ := by kernel_rfl
theorem ty57 : tyS Tryd.prog 57 = some ⟨3, 40, [.slice none 0 0, .int .i64 0, .int .i64 0], true, .struct [(0, 1, 53), (1, 1, 3), (2, 1, 24)]⟩ := by kernel_rfl
theorem ty58 : tyS Tryd.prog 58 = some ⟨3, 40, [.slice none 0 0, .int .i64 0, .int .i64 0], true, .struct [(0, 1, 53), (1, 1, 3), (2, 1, 24)]⟩ := by kernel_rfl
theorem ty59 : tyS Tryd.prog 59 = some ⟨1, 8, [.nilFunc], false, .other⟩ := by kernel_rfl
theorem ty60 : tyS Tryd.prog 60 = some ⟨1, 24, [.slice none 0 0], false, .slice 62⟩ := by kernel_rfl
theorem ty61 : tyS Tryd.prog 61 = some ⟨1, 8, [.nilFunc], false, .other⟩ := by kernel_rfl
theorem ty62 : tyS Tryd.prog 62 = some ⟨1, 24, [.slice none 0 0], false, .slice 63⟩ := by kernel_rfl
theorem ty63 : tyS Tryd.prog 63 = some ⟨3, 32, [.int .i64 0, .int .i64 0, .string ⟨#[]⟩], true, .struct [(0, 1, 3), (1, 1, 3), (2, 1, 9)]⟩ := by kernel_rfl
theorem ty65 : tyS Tryd.prog 65 = some ⟨1, 8, [.nilFunc], false, .other⟩ := by kernel_rfl
theorem ty66 : tyS Tryd.prog 66 = some ⟨1, 8, [.nilFunc], false, .other⟩ := by kernel_rfl
theorem ty67 : tyS Tryd.prog 67 = some ⟨1, 8, [.nilFunc], false, .other⟩ := by kernel_rfl
theorem ty68 : tyS Tryd.prog 68 = some ⟨1, 8, [.nilFunc], false, .other⟩ := by kernel_rfl
theorem ty69 : tyS Tryd.prog 69 = some ⟨1, 8, [.nilFunc], false, .other⟩ := by kernel_rfl
theorem ty70 : tyS Tryd.prog 70 = some ⟨1, 24, [.slice none 0 0], false, .slice 5⟩ := by kernel_rfl
theorem ty71 : tyS Tryd.prog 71 = some ⟨4, 64, [.int .i64 0, .int .i64 0, .slice none 0 0, .slice none 0 0], true, .struct [(0, 1, 3), (1, 1, 3), (2, 1, 31), (3, 1, 31)]⟩ := by kernel_rfl
theorem ty72 : tyS Tryd.prog 72 = some ⟨1, 8, [.nilFunc], false, .other⟩ := by kernel_rfl
theorem ty73 : tyS Tryd.prog 73 = some ⟨1, 8, [.nilFunc], false, .other⟩ := by kernel_rfl
theorem ty74 : tyS Tryd.prog 74 = some ⟨1, 8, [.nilFunc], false, .other⟩ := by kernel_rfl
theorem ty75 : tyS Tryd.prog 75 = some ⟨1, 8, [.nilFunc], false, .other⟩ := by kernel_rfl
theorem ty76 : tyS Tryd.prog 76 = some ⟨1, 8, [.nilFunc], false, .other⟩ := by kernel_rfl
theorem ty78 : tyS Tryd.prog 78 = some ⟨1, 8, [.nilFunc], false, .other⟩ := by kernel_rfl
theorem ty79 : tyS Tryd.prog 79 = some ⟨1, 8, [.nilFunc], false, .other⟩ := by kernel_rfl
theorem ty81 : tyS Tryd.prog 81 = some ⟨1, 8, [.nilFunc], false, .other⟩ := by kernel_rfl
theorem ty82 : tyS Tryd.prog 82 = some ⟨1, 8, [.nilFunc], false, .other⟩ := by kernel_rfl
theorem ty83 : tyS Tryd.prog 83 = some ⟨1, 8, [.nilFunc], false, .other⟩ := by kernel_rfl
theorem ty84 : tyS Tryd.prog 84 = some ⟨1, 8, [.nilFunc], false, .other⟩ := by kernel_rfl
theorem ty85 : tyS Tryd.prog 85 = some ⟨1, 8, [.nilFunc], false, .other⟩ := by kernel_rfl
theorem ty86 : tyS Tryd.prog 86 = some ⟨4, 48, [.slice none 0 0, .int .i64 0, .int .i64 0, .int .i64 0], true, .struct [(0, 1, 31), (1, 1, 3), (2, 1, 3), (3, 1, 3)]⟩ := by kernel_rfl
theorem ty87 : tyS Tryd.prog 87 = some ⟨4, 48, [.slice none 0 0, .int .i64 0, .int .i64 0, .int .i64 0], true, .struct [(0, 1, 31), (1, 1, 3), (2, 1, 3), (3, 1, 3)]⟩ := by kernel_rfl
theorem ty88 : tyS Tryd.prog 88 = some ⟨1, 8, [.nilFunc], false, .other⟩ := by kernel_rfl
theorem ty89 : tyS Tryd.prog 89 = some ⟨1, 8, [.nilFunc], false, .other⟩ := by kernel_rfl
theorem ty90 : tyS Tryd.prog 90 = some ⟨1, 8, [.nilFunc], false, .other⟩ := by kernel_rfl
theorem ty91 : tyS Tryd.prog 91 = some ⟨1, 8, [.nilFunc], false, .other⟩ := by kernel_rfl
theorem ty92 : tyS Tryd.prog 92 = some ⟨1, 8, [.nilFunc], false, .other⟩ := by kernel_rfl
theorem ty93 : tyS Tryd.prog 93 = some ⟨1, 8, [.nilFunc], false, .other⟩ := by kernel_rfl
theorem ty94 : tyS Tryd.prog 94 = some ⟨1, 8, [.nilFunc], false, .other⟩ := by kernel_rfl
theorem ty95 : tyS Tryd.prog 95 = some ⟨1, 8, [.nilFunc], false, .other⟩ := by kernel_rfl
theorem ty96 : tyS Tryd.prog 96 = some ⟨1, 8, [.nilFunc], false, .other⟩ := by kernel_rfl
theorem ty97 : tyS Tryd.prog 97 = some ⟨1, 8, [.nilFunc], false, .other⟩ := by kernel_rfl
theorem ty98 : tyS Tryd.prog 98 = some ⟨1, 8, [.map none], false, .other⟩ := by kernel_rfl
theorem ty99 : tyS Tryd.prog 99 = some ⟨1, 8, [.nilFunc], false, .other⟩ := by kernel_rfl
theorem ty100 : tyS Tryd.prog 100 = some ⟨1, 8, [.nilFunc], false, .other⟩ := by kernel_rfl
theorem ty101 : tyS Tryd.prog 101 = some ⟨1, 8, [.nilFunc], false, .other⟩ := by kernel_rfl
theorem ty103 : tyS Tryd.prog 103 = some ⟨1, 8, [.nilFunc], false, .other⟩ := by kernel_rfl
theorem ty104 : tyS Tryd.prog 104 = some ⟨1, 8, [.nilFunc], false, .other⟩ := by kernel_rfl
theorem ty106 : tyS Tryd.prog 106 = some ⟨1, 8, [.nilFunc], false, .other⟩ := by kernel_rfl
theorem ty107 : tyS Tryd.prog 107 = some ⟨1, 8, [.int .u64 0], false, .int .u64⟩ := by kernel_rfl
theorem ty108 : tyS Tryd.prog 108 = some ⟨1, 8, [.int .i64 0], false, .int .i64⟩ := by kernel_rfl
theorem ty109 : tyS Tryd.prog 109 = some ⟨1, 8, [.nilFunc], false, .other⟩ := by kernel_rfl
theorem ty110 : tyS Tryd.prog 110 = some ⟨1, 8, [.nilFunc], false, .other⟩ := by kernel_rfl
theorem ty111 : tyS Tryd.prog 111 = some ⟨1, 8, [.int .u64 0], false, .int .u64⟩ := by kernel_rfl
theorem ty113 : tyS Tryd.prog 113 = some ⟨1, 8, [.nilFunc], false, .other⟩ := by kernel_rfl
theorem ty114 : tyS Tryd.prog 114 = some ⟨1, 8, [.nilFunc], false, .other⟩ := by kernel_rfl
theorem ty115 : tyS Tryd.prog 115 = some ⟨1, 4, [.int .u32 0], false, .int .u32⟩ := by kernel_rfl
theorem ty117 : tyS Tryd.prog 117 = some ⟨1, 8, [.nilFunc], false, .other⟩ := by kernel_rfl
theorem ty118 : tyS Tryd.prog 118 = some ⟨24, 24, [.int .u8 0, .int .u8 0, .int .u8 0, .int .u8 0, .int .u8 0, .int .u8 0, .int .u8 0, .int .u8 0, .int .u8 0, .int .u8 0, .int .u8 0, .int .u8 0, .int .u8 0, .int .u8 0, .int .u8 0, .int .u8 0, .int .u8 0, .int .u8 0, .int .u8 0, .int .u8 0, .int .u8 0, .int .u8 0, .int .u8 0, .int .u8 0], true, .array 24 5 1⟩ := by kernel_rfl
theorem ty119 : tyS Tryd.prog 119 = some ⟨1, 8, [.nilFunc], false, .other⟩ := by kernel_rfl
theorem ty120 : tyS Tryd.prog 120 = some ⟨1, 8, [.nilFunc], false, .other⟩ := by kernel_rfl
theorem ty122 : tyS Tryd.prog 122 = some ⟨1, 8, [.nilFunc], false, .other⟩ := by kernel_rfl
theorem ty123 : tyS Tryd.prog 123 = some ⟨1, 8, [.nilFunc], false, .other⟩ := by kernel_rfl
theorem ty124 : tyS Tryd.prog 124 = some ⟨20, 160, [.int .u64 0, .int .u64 0, .int .u64 0, .int .u64 0, .int .u64 0, .int .u64 0, .int .u64 0, .int .u64 0, .int .u64 0, .int .u64 0, .int .u64 0, .int .u64 0, .int .u64 0, .int .u64 0, .int .u64 0, .int .u64 0, .int .u64 0, .int .u64 0, .int .u64 0, .int .u64 0], true, .array 20 107 1⟩ := by kernel_rfl
theorem ty125 : tyS Tryd.prog 125 = some ⟨65, 65, [.int .u8 0, .int .u8 0, .int .u8 0, .int .u8 0, .int .u8 0, .int .u8 0, .int .u8 0, .int .u8 0, .int .u8 0, .int .u8 0, .int .u8 0, .int .u8 0, .int .u8 0, .int .u8 0, .int .u8 0, .int .u8 0, .int .u8 0, .int .u8 0, .int .u8 0, .int .u8 0, .int .u8 0, .int .u8 0, .int .u8 0, .int .u8 0, .int .u8 0, .int .u8 0, .int .u8 0, .int .u8 0, .int .u8 0, .int .u8 0, .int .u8 0, .int .u8 0, .int .u8 0, .int .u8 0, .int .u8 0, .int .u8 0, .int .u8 0, .int .u8 0, .int .u8 0, .int .u8 0, .int .u8 0, .int .u8 0, .int .u8 0, .int .u8 0, .int .u8 0, .int .u8 0, .int .u8 0, .int .u8 0, .int .u8 0, .int .u8 0, .int .u8 0, .int .u8 0, .int .u8 0, .int .u8 0, .int .u8 0, .int .u8 0, .int .u8 0, .int .u8 0, .int .u8 0, .int .u8 0, .int .u8 0, .int .u8 0, .int .u8 0, .int .u8 0, .int .u8 0], true, .array 65 5 1⟩ := by kernel_rfl
theorem ty126 : tyS Tryd.prog 126 = some ⟨1, 8, [.nilFunc], false, .other⟩ := by kernel_rfl
theorem ty127 : tyS Tryd.prog 127 = some ⟨1, 8, [.nilFunc], false, .other⟩ := by kernel_rfl
theorem ty128 : tyS Tryd.prog 128 = some ⟨32, 32, [.int .u8 0, .int .u8 0, .int .u8 0, .int .u8 0, .int .u8 0, .int .u8 0, .int .u8 0, .int .u8 0, .int .u8 0, .int .u8 0, .int .u8 0, .int .u8 0, .int .u8 0, .int .u8 0, .int .u8 0, .int .u8 0, .int .u8 0, .int .u8 0, .int .u8 0, .int .u8 0, .int .u8 0, .int .u8 0, .int .u8 0, .int .u8 0, .int .u8 0, .int .u8 0, .int .u8 0, .int .u8 0, .int .u8 0, .int .u8 0, .int .u8 0, .int .u8 0], true, .array 32 5 1⟩ := by kernel_rfl
theorem ty129 : tyS Tryd.prog 129 = some ⟨64, 64, [.int .u8 0, .int .u8 0, .int .u8 0, .int .u8 0, .int .u8 0, .int .u8 0, .int .u8 0, .int .u8 0, .int .u8 0, .int .u8 0, .int .u8 0, .int .u8 0, .int .u8 0, .int .u8 0, .int .u8 0, .int .u8 0, .int .u8 0, .int .u8 0, .int .u8 0, .int .u8 0, .int .u8 0, .int .u8 0, .int .u8 0, .int .u8 0, .int .u8 0, .int .u8 0, .int .u8 0, .int .u8 0, .int .u8 0, .int .u8 0, .int .u8 0, .int .u8 0, .int .u8 0, .int .u8 0, .int .u8 0, .int .u8 0, .int .u8 0, .int .u8 0, .int .u8 0, .int .u8 0, .int .u8 0, .int .u8 0, .int .u8 0, .int .u8 0, .int .u8 0, .int .u8 0, .int .u8 0, .int .u8 0, .int .u8 0, .int .u8 0, .int .u8 0, .int .u8 0, .int .u8 0, .int .u8 0, .int .u8 0, .int .u8 0, .int .u8 0, .int .u8 0, .int .u8 0, .int .u8 0, .int .u8 0, .int .u8 0, .int .u8 0, .int .u8 0], true, .array 64 5 1⟩ := by kernel_rfl
theorem ty130 : tyS Tryd.prog 130 = some ⟨1, 8, [.nilFunc], false, .other⟩ := by kernel_rfl
theorem ty131 : tyS Tryd.prog 131 = some ⟨4, 40, [.pointer none, .pointer none, .pointer none, .string ⟨#[]⟩], true, .struct [(0, 1, 17), (1, 1, 17), (2, 1, 17), (3, 1, 9)]⟩ := by kernel_rfl
theorem ty132 : tyS Tryd.prog 132 = some ⟨4, 40, [.pointer none, .pointer none, .pointer none, .string ⟨#[]⟩], true, .struct [(0, 1, 17), (1, 1, 17), (2, 1, 17), (3, 1, 9)]⟩ := by kernel_rfl
theorem ty133 : tyS Tryd.prog 133 = some ⟨0, 0, [], true, .array 0 16 1⟩ := by kernel_rfl
theorem ty134 : tyS Tryd.prog 134 = some ⟨0, 0, [], true, .struct [(0, 0, 133)]⟩ := by kernel_rfl
theorem ty135 : tyS Tryd.prog 135 = some ⟨0, 0, [], true, .struct [(0, 0, 133)]⟩ := by kernel_rfl
theorem ty136 : tyS Tryd.prog 136 = some ⟨1, 8, [.nilFunc], false, .other⟩ := by kernel_rfl
theorem ty137 : tyS Tryd.prog 137 = some ⟨1, 1, [.int .u8 0], false, .int .u8⟩ := by kernel_rfl
theorem ty138 : tyS Tryd.prog 138 = some ⟨1, 1, [.int .u8 0], false, .int .u8⟩ := by kernel_rfl
theorem ty139 : tyS Tryd.prog 139 = some ⟨1, 8, [.nilFunc], false, .other⟩ := by kernel_rfl
theorem ty140 : tyS Tryd.prog 140 = some ⟨1, 8, [.pointer none], false, .other⟩ := by kernel_rfl
theorem ty141 : tyS Tryd.prog 141 = some ⟨1, 4, [.int .i32 0], false, .int .i32⟩ := by kernel_rfl
theorem ty142 : tyS Tryd.prog 142 = some ⟨1, 4, [.int .i32 0], false, .int .i32⟩ := by kernel_rfl
theorem ty143 : tyS Tryd.prog 143 = some ⟨11, 48, [.int .u64 0, .int .u64 0, .int .u32 0, .int .u8 0, .int .u8 0, .int .u8 0, .int .u8 0, .nilFunc, .pointer none, .int .i32 0, .int .i32 0], true, .struct [(0, 1, 12), (1, 1, 12), (2, 1, 115), (3, 1, 137), (4, 1, 5), (5, 1, 5), (6, 1, 138), (7, 1, 139), (8, 1, 140), (9, 1, 141), (10, 1, 142)]⟩ := by kernel_rfl
theorem ty144 : tyS Tryd.prog 144 = some ⟨11, 48, [.int .u64 0, .int .u64 0, .int .u32 0, .int .u8 0, .int .u8 0, .int .u8 0, .int .u8 0, .nilFunc, .pointer none, .int .i32 0, .int .i32 0], true, .struct [(0, 1, 12), (1, 1, 12), (2, 1, 115), (3, 1, 137), (4, 1, 5), (5, 1, 5), (6, 1, 138), (7, 1, 139), (8, 1, 140), (9, 1, 141), (10, 1, 142)]⟩ := by kernel_rfl
def tab : Tab := [(1, ⟨1, 8, [.nilFunc], false, .other⟩),
  (2, ⟨1, 8, [.int .i64 0], false, .int .i64⟩),
  (3, ⟨1, 8, [.int .i64 0], false, .int .i64⟩),
  (4, ⟨1, 1, [.bool false], false, .bool⟩),
  (5, ⟨1, 1, [.int .u8 0], false, .int .u8⟩),
  (6, ⟨1, 1, [.int .u8 0], false, .int .u8⟩),
  (7, ⟨4, 24, [.int .i64 0, .int .i64 0, .bool false, .int .u8 0], true, .struct [(0, 1, 2), (1, 1, 3), (2, 1, 4), (3, 1, 6)]⟩),
  (8, ⟨4, 24, [.int .i64 0, .int .i64 0, .bool false, .int .u8 0], true, .struct [(0, 1, 2), (1, 1, 3), (2, 1, 4), (3, 1, 6)]⟩),
  (9, ⟨1, 16, [.string ⟨#[]⟩], false, .str⟩),
  (10, ⟨1, 16, [.string ⟨#[]⟩], false, .str⟩),
  (11, ⟨1, 16, [.string ⟨#[]⟩], false, .str⟩),
  (12, ⟨1, 8, [.int .u64 0], false, .int .u64⟩),
  (13, ⟨2, 24, [.string ⟨#[]⟩, .int .u64 0], true, .struct [(0, 1, 9), (1, 1, 12)]⟩),
  (14, ⟨2, 24, [.string ⟨#[]⟩, .int .u64 0], true, .struct [(0, 1, 9), (1, 1, 12)]⟩),
  (15, ⟨1, 8, [.pointer none], false, .other⟩),
  (16, ⟨1, 8, [.pointer none], false, .other⟩),
  (17, ⟨1, 8, [.pointer none], false, .other⟩),
  (18, ⟨1, 8, [.pointer none], true, .struct [(0, 1, 17)]⟩),
  (19, ⟨1, 8, [.pointer none], true, .struct [(0, 1, 17)]⟩),
  (21, ⟨1, 4, [.int .i32 0], false, .int .i32⟩),
  (22, ⟨1, 8, [.nilFunc], false, .other⟩),
  (23, ⟨1, 24, [.slice none 0 0], false, .slice 52⟩),
  (24, ⟨1, 8, [.int .i64 0], false, .int .i64⟩),
  (26, ⟨1, 8, [.nilFunc], false, .other⟩),
  (28, ⟨1, 8, [.nilFunc], false, .other⟩),
  (29, ⟨1, 8, [.nilFunc], false, .other⟩),
  (30, ⟨1, 8, [.nilFunc], false, .other⟩),
  (31, ⟨1, 24, [.slice none 0 0], false, .slice 3⟩),
  (32, ⟨1, 8, [.nilFunc], false, .other⟩),
  (34, ⟨1, 8, [.nilFunc], false, .other⟩),
  (36, ⟨1, 8, [.nilFunc], false, .other⟩),
  (38, ⟨1, 8, [.nilFunc], false, .other⟩),
  (40, ⟨1, 8, [.nilFunc], false, .other⟩),
  (41, ⟨1, 24, [.slice none 0 0], false, .slice 31⟩),
  (43, ⟨1, 8, [.nilFunc], false, .other⟩),
  (44, ⟨1, 8, [.nilFunc], false, .other⟩),
  (45, ⟨1, 8, [.nilFunc], false, .other⟩),
  (46, ⟨1, 8, [.nilFunc], false, .other⟩),
  (47, ⟨1, 8, [.nilFunc], false, .other⟩),
  (48, ⟨1, 24, [.slice none 0 0], false, .slice 53⟩),
  (49, ⟨1, 8, [.nilFunc], false, .other⟩),
  (50, ⟨1, 8, [.nilFunc], false, .other⟩),
  (51, ⟨4, 64, [.int .i64 0, .int .i64 0, .slice none 0 0, .slice none 0 0], true, .struct [(0, 1, 3), (1, 1, 3), (2, 1, 31), (3, 1, 31)]⟩),
  (52, ⟨4, 64, [.int .i64 0, .int .i64 0, .slice none 0 0, .slice none 0 0], true, .struct [(0, 1, 3), (1, 1, 3), (2, 1, 31), (3, 1, 31)]⟩),
  (53, ⟨1, 24, [.slice none 0 0], false, .slice 55⟩),
  (54, ⟨3, 32, [.int .i64 0, .int .i64 0, .string ⟨#[]⟩], true, .struct [(0, 1, 3), (1, 1, 3), (2, 1, 9)]⟩),
  (55, ⟨3, 32, [.int .i64 0, .int .i64 0, .string ⟨#[]⟩], true, .struct [(0, 1, 3), (1, 1, 3), (2, 1, 9)]⟩),
  (56, ⟨1, 8, [.pointer none], false, .other⟩),
  (57, ⟨3, 40, [.slice none 0 0, .int .i64 0, .int .i64 0], true, .struct [(0, 1, 53), (1, 1, 3), (2, 1, 24)]⟩),
  (58, ⟨3, 40, [.slice none 0 0, .int .i64 0, .int .i64 0], true, .struct [(0, 1, 53), (1, 1, 3), (2, 1, 24)]⟩),
  (59, ⟨1, 8, [.nilFunc], false, .other⟩),
  (60, ⟨1, 24, [.slice none 0 0], false, .slice 62⟩),
  (61, ⟨1, 8, [.nilFunc], false, .other⟩),
  (62, ⟨1, 24, [.slice none 0 0], false, .slice 63⟩),
  (63, ⟨3, 32, [.int .i64 0, .int .i64 0, .string ⟨#[]⟩], true, .struct [(0, 1, 3), (1, 1, 3), (2, 1, 9)]⟩),
  (65, ⟨1, 8, [.nilFunc], false, .other⟩),
  (66, ⟨1, 8, [.nilFunc], false, .other⟩),
  (67, ⟨1, 8, [.nilFunc], false, .other⟩),
  (68, ⟨1, 8, [.nilFunc], false, .other⟩),
  (69, ⟨1, 8, [.nilFunc], false, .other⟩),
  (70, ⟨1, 24, [.slice none 0 0], false, .slice 5⟩),
  (71, ⟨4, 64, [.int .i64 0, .int .i64 0, .slice none 0 0, .slice none 0 0], true, .struct [(0, 1, 3), (1, 1, 3), (2, 1, 31), (3, 1, 31)]⟩),
  (72, ⟨1, 8, [.nilFunc], false, .other⟩),
  (73, ⟨1, 8, [.nilFunc], false, .other⟩),
  (74, ⟨1, 8, [.nilFunc], false, .other⟩),
  (75, ⟨1, 8, [.nilFunc], false, .other⟩),
  (76, ⟨1, 8, [.nilFunc], false, .other⟩),
  (78, ⟨1, 8, [.nilFunc], false, .other⟩),
  (79, ⟨1, 8, [.nilFunc], false, .other⟩),
  (81, ⟨1, 8, [.nilFunc], false, .other⟩),
  (82, ⟨1, 8, [.nilFunc], false, .other⟩),
  (83, ⟨1, 8, [.nilFunc], false, .other⟩),
  (84, ⟨1, 8, [.nilFunc], false, .other⟩),
  (85, ⟨1, 8, [.nilFunc], false, .other⟩),
  (86, ⟨4, 48, [.slice none 0 0, .int .i64 0, .int .i64 0, .int .i64 0], true, .struct [(0, 1, 31), (1, 1, 3), (2, 1, 3), (3, 1, 3)]⟩),
  (87, ⟨4, 48, [.slice none 0 0, .int .i64 0, .int .i64 0, .int .i64 0], true, .struct [(0, 1, 31), (1, 1, 3), (2, 1, 3), (3, 1, 3)]⟩),
  (88, ⟨1, 8, [.nilFunc], false, .other⟩),
  (89, ⟨1, 8, [.nilFunc], false, .other⟩),
  (90, ⟨1, 8, [.nilFunc], false, .other⟩),
  (91, ⟨1, 8, [.nilFunc], false, .other⟩),
  (92, ⟨1, 8, [.nilFunc], false, .other⟩),
  (93, ⟨1, 8, [.nilFunc], false, .other⟩),
  (94, ⟨1, 8, [.nilFunc], false, .other⟩),
  (95, ⟨1, 8, [.nilFunc], false, .other⟩),
  (96, ⟨1, 8, [.nilFunc], false, .other⟩),
  (97, ⟨1, 8, [.nilFunc], false, .other⟩),
  (98, ⟨1, 8, [.map none], false, .other⟩),
  (99, ⟨1, 8, [.nilFunc], false, .other⟩),
  (100, ⟨1, 8, [.nilFunc], false, .other⟩),
  (101, ⟨1, 8, [.nilFunc], false, .other⟩),
  (103, ⟨1, 8, [.nilFunc], false, .other⟩),
  (104, ⟨1, 8, [.nilFunc], false, .other⟩),
  (106, ⟨1, 8, [.nilFunc], false, .other⟩),
  (107, ⟨1, 8, [.int .u64 0], false, .int .u64⟩),
  (108, ⟨1, 8, [.int .i64 0], false, .int .i64⟩),
  (109, ⟨1, 8, [.nilFunc], false, .other⟩),
  (110, ⟨1, 8, [.nilFunc], false, .other⟩),
  (111, ⟨1, 8, [.int .u64 0], false, .int .u64⟩),
  (113, ⟨1, 8, [.nilFunc], false, .other⟩),
  (114, ⟨1, 8, [.nilFunc], false, .other⟩),
  (115, ⟨1, 4, [.int .u32 0], false, .int .u32⟩),
  (117, ⟨1, 8, [.nilFunc], false, .other⟩),
  (118, ⟨24, 24, [.int .u8 0, .int .u8 0, .int .u8 0, .int .u8 0, .int .u8 0, .int .u8 0, .int .u8 0, .int .u8 0, .int .u8 0, .int .u8 0, .int .u8 0, .int .u8 0, .int .u8 0, .int .u8 0, .int .u8 0, .int .u8 0, .int .u8 0, .int .u8 0, .int .u8 0, .int .u8 0, .int .u8 0, .int .u8 0, .int .u8 0, .int .u8 0], true, .array 24 5 1⟩),
  (119, ⟨1, 8, [.nilFunc], false, .other⟩),
  (120, ⟨1, 8, [.nilFunc], false, .other⟩),
  (122, ⟨1, 8, [.nilFunc], false, .other⟩),
  (123, ⟨1, 8, [.nilFunc], false, .other⟩),
  (124, ⟨20, 160, [.int .u64 0, .int .u64 0, .int .u64 0, .int .u64 0, .int .u64 0, .int .u64 0, .int .u64 0, .int .u64 0, .int .u64 0, .int .u64 0, .int .u64 0, .int .u64 0, .int .u64 0, .int .u64 0, .int .u64 0, .int .u64 0, .int .u64 0, .int .u64 0, .int .u64 0, .int .u64 0], true, .array 20 107 1⟩),
  (125, ⟨65, 65, [.int .u8 0, .int .u8 0, .int .u8 0, .int .u8 0, .int .u8 0, .int .u8 0, .int .u8 0, .int .u8 0, .int .u8 0, .int .u8 0, .int .u8 0, .int .u8 0, .int .u8 0, .int .u8 0, .int .u8 0, .int .u8 0, .int .u8 0, .int .u8 0, .int .u8 0, .int .u8 0, .int .u8 0, .int .u8 0, .int .u8 0, .int .u8 0, .int .u8 0, .int .u8 0, .int .u8 0, .int .u8 0, .int .u8 0, .int .u8 0, .int .u8 0, .int .u8 0, .int .u8 0, .int .u8 0, .int .u8 0, .int .u8 0, .int .u8 0, .int .u8 0, .int .u8 0, .int .u8 0, .int .u8 0, .int .u8 0, .int .u8 0, .int .u8 0, .int .u8 0, .int .u8 0, .int .u8 0, .int .u8 0, .int .u8 0, .int .u8 0, .int .u8 0, .int .u8 0, .int .u8 0, .int .u8 0, .int .u8 0, .int .u8 0, .int .u8 0, .int .u8 0, .int .u8 0, .int .u8 0, .int .u8 0, .int .u8 0, .int .u8 0, .int .u8 0, .int .u8 0], true, .array 65 5 1⟩),
  (126, ⟨1, 8, [.nilFunc], false, .other⟩),
  (127, ⟨1, 8, [.nilFunc], false, .other⟩),
  (128, ⟨32, 32, [.int .u8 0, .int .u8 0, .int .u8 0, .int .u8 0, .int .u8 0, .int .u8 0, .int .u8 0, .int .u8 0, .int .u8 0, .int .u8 0, .int .u8 0, .int .u8 0, .int .u8 0, .int .u8 0, .int .u8 0, .int .u8 0, .int .u8 0, .int .u8 0, .int .u8 0, .int .u8 0, .int .u8 0, .int .u8 0, .int .u8 0, .int .u8 0, .int .u8 0, .int .u8 0, .int .u8 0, .int .u8 0, .int .u8 0, .int .u8 0, .int .u8 0, .int .u8 0], true, .array 32 5 1⟩),
  (129, ⟨64, 64, [.int .u8 0, .int .u8 0, .int .u8 0, .int .u8 0, .int .u8 0, .int .u8 0, .int .u8 0, .int .u8 0, .int .u8 0, .int .u8 0, .int .u8 0, .int .u8 0, .int .u8 0, .int .u8 0, .int .u8 0, .int .u8 0, .int .u8 0, .int .u8 0, .int .u8 0, .int .u8 0, .int .u8 0, .int .u8 0, .int .u8 0, .int .u8 0, .int .u8 0, .int .u8 0, .int .u8 0, .int .u8 0, .int .u8 0, .int .u8 0, .int .u8 0, .int .u8 0, .int .u8 0, .int .u8 0, .int .u8 0, .int .u8 0, .int .u8 0, .int .u8 0, .int .u8 0, .int .u8 0, .int .u8 0, .int .u8 0, .int .u8 0, .int .u8 0, .int .u8 0, .int .u8 0, .int .u8 0, .int .u8 0, .int .u8 0, .int .u8 0, .int .u8 0, .int .u8 0, .int .u8 0, .int .u8 0, .int .u8 0, .int .u8 0, .int .u8 0, .int .u8 0, .int .u8 0, .int .u8 0, .int .u8 0, .int .u8 0, .int .u8 0, .int .u8 0], true, .array 64 5 1⟩),
  (130, ⟨1, 8, [.nilFunc], false, .other⟩),
  (131, ⟨4, 40, [.pointer none, .pointer none, .pointer none, .string ⟨#[]⟩], true, .struct [(0, 1, 17), (1, 1, 17), (2, 1, 17), (3, 1, 9)]⟩),
  (132, ⟨4, 40, [.pointer none, .pointer none, .pointer none, .string ⟨#[]⟩], true, .struct [(0, 1, 17), (1, 1, 17), (2, 1, 17), (3, 1, 9)]⟩),
  (133, ⟨0, 0, [], true, .array 0 16 1⟩),
  (134, ⟨0, 0, [], true, .struct [(0, 0, 133)]⟩),
  (135, ⟨0, 0, [], true, .struct [(0, 0, 133)]⟩),
  (136, ⟨1, 8, [.nilFunc], false, .other⟩),
  (137, ⟨1, 1, [.int .u8 0], false, .int .u8⟩),
  (138, ⟨1, 1, [.int .u8 0], false, .int .u8⟩),
  (139, ⟨1, 8, [.nilFunc], false, .other⟩),
  (140, ⟨1, 8, [.pointer none], false, .other⟩),
  (141, ⟨1, 4, [.int .i32 0], false, .int .i32⟩),
  (142, ⟨1, 4, [.int .i32 0], false, .int .i32⟩),
  (143, ⟨11, 48, [.int .u64 0, .int .u64 0, .int .u32 0, .int .u8 0, .int .u8 0, .int .u8 0, .int .u8 0, .nilFunc, .pointer none, .int .i32 0, .int .i32 0], true, .struct [(0, 1, 12), (1, 1, 12), (2, 1, 115), (3, 1, 137), (4, 1, 5), (5, 1, 5), (6, 1, 138), (7, 1, 139), (8, 1, 140), (9, 1, 141), (10, 1, 142)]⟩),
  (144, ⟨11, 48, [.int .u64 0, .int .u64 0, .int .u32 0, .int .u8 0, .int .u8 0, .int .u8 0, .int .u8 0, .nilFunc, .pointer none, .int .i32 0, .int .i32 0], true, .struct [(0, 1, 12), (1, 1, 12), (2, 1, 115), (3, 1, 137), (4, 1, 5), (5, 1, 5), (6, 1, 138), (7, 1, 139), (8, 1, 140), (9, 1, 141), (10, 1, 142)]⟩)]
theorem T : TabOK Tryd.prog tab := TabOK.cons ty1 <| TabOK.cons ty2 <| TabOK.cons ty3 <| TabOK.cons ty4 <| TabOK.cons ty5 <| TabOK.cons ty6 <| TabOK.cons ty7 <| TabOK.cons ty8 <| TabOK.cons ty9 <| TabOK.cons ty10 <| TabOK.cons ty11 <| TabOK.cons ty12 <| TabOK.cons ty13 <| TabOK.cons ty14 <| TabOK.cons ty15 <| TabOK.cons ty16 <| TabOK.cons ty17 <| TabOK.cons ty18 <| TabOK.cons ty19 <| TabOK.cons ty21 <| TabOK.cons ty22 <| TabOK.cons ty23 <| TabOK.cons ty24 <| TabOK.cons ty26 <| TabOK.cons ty28 <| TabOK.cons ty29 <| TabOK.cons ty30 <| TabOK.cons ty31 <| TabOK.cons ty32 <| TabOK.cons ty34 <| TabOK.cons ty36 <| TabOK.cons ty38 <| TabOK.cons ty40 <| TabOK.cons ty41 <| TabOK.cons ty43 <| TabOK.cons ty44 <| TabOK.cons ty45 <| TabOK.cons ty46 <| TabOK.cons ty47 <| TabOK.cons ty48 <| TabOK.cons ty49 <| TabOK.cons ty50 <| TabOK.cons ty51 <| TabOK.cons ty52 <| TabOK.cons ty53 <| TabOK.cons ty54 <| TabOK.cons ty55 <| TabOK.cons ty56 <| TabOK.cons ty57 <| TabOK.cons ty58 <| TabOK.cons ty59 <| TabOK.cons ty60 <| TabOK.cons ty61 <| TabOK.cons ty62 <| TabOK.cons ty63 <| TabOK.cons ty65 <| TabOK.cons ty66 <| TabOK.cons ty67 <| TabOK.cons ty68 <| TabOK.cons ty69 <| TabOK.cons ty70 <| TabOK.cons ty71 <| TabOK.cons ty72 <| TabOK.cons ty73 <| TabOK.cons ty74 <| TabOK.cons ty75 <| TabOK.cons ty76 <| TabOK.cons ty78 <| TabOK.cons ty79 <| TabOK.cons ty81 <| TabOK.cons ty82 <| TabOK.cons ty83 <| TabOK.cons ty84 <| TabOK.cons ty85 <| TabOK.cons ty86 <| TabOK.cons ty87 <| TabOK.cons ty88 <| TabOK.cons ty89 <| TabOK.cons ty90 <| TabOK.cons ty91 <| TabOK.cons ty92 <| TabOK.cons ty93 <| TabOK.cons ty94 <| TabOK.cons ty95 <| TabOK.cons ty96 <| TabOK.cons ty97 <| TabOK.cons ty98 <| TabOK.cons ty99 <| TabOK.cons ty100 <| TabOK.cons ty101 <| TabOK.cons ty103 <| TabOK.cons ty104 <| TabOK.cons ty106 <| TabOK.cons ty107 <| TabOK.cons ty108 <| TabOK.cons ty109 <| TabOK.cons ty110 <| TabOK.cons ty111 <| TabOK.cons ty113 <| TabOK.cons ty114 <| TabOK.cons ty115 <| TabOK.cons ty117 <| TabOK.cons ty118 <| TabOK.cons ty119 <| TabOK.cons ty120 <| TabOK.cons ty122 <| TabOK.cons ty123 <| TabOK.cons ty124 <| TabOK.cons ty125 <| TabOK.cons ty126 <| TabOK.cons ty127 <| TabOK.cons ty128 <| TabOK.cons ty129 <| TabOK.cons ty130 <| TabOK.cons ty131 <| TabOK.cons ty132 <| TabOK.cons ty133 <| TabOK.cons ty134 <| TabOK.cons ty135 <| TabOK.cons ty136 <| TabOK.cons ty137 <| TabOK.cons ty138 <| TabOK.cons ty139 <| TabOK.cons ty140 <| TabOK.cons ty141 <| TabOK.cons ty142 <| TabOK.cons ty143 <| TabOK.cons ty144 <| TabOK.nil _
theorem mixed : Tryd.prog.follows .mixedOrders = true := by kernel_rfl
end Go.Proofs.YtebhbnlbfglmkaaDoor
