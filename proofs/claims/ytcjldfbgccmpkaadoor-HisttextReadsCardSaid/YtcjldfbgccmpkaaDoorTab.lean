/- The table of the types, read off the program. No condition. -/
import Derived.Test.YtcjldfbgccmpkaaDoorProg
import Derived.Test.YtcjldfbgccmpkaaDoorSw
import Derived.KernelRfl
namespace Go.Proofs.YtcjldfbgccmpkaaDoor
open Go Go.Sv
theorem ty1 : tyS Tryd.prog 1 = some ⟨1, 8, [.nilFunc], false, .other⟩ := by kernel_rfl
theorem ty2 : tyS Tryd.prog 2 = some ⟨1, 8, [.int .i64 0], false, .int .i64⟩ := by kernel_rfl
theorem ty3 : tyS Tryd.prog 3 = some ⟨1, 8, [.int .i64 0], false, .int .i64⟩ := by kernel_rfl
theorem ty4 : tyS Tryd.prog 4 = some ⟨1, 1, [.bool false], false, .bool⟩ := by kernel_rfl
theorem ty5 : tyS Tryd.prog 5 = some ⟨1, 1, [.int .u8 0], false, .int .u8⟩ := by kernel_rfl
theorem ty6 : tyS Tryd.prog 6 = some ⟨1, 1, [.int .u8 0], false, .int .u8⟩ := by kernel_rfl
theorem ty7 : tyS Tryd.prog 7 = some ⟨4, 24, [.int .i64 0, .int .i64 0, .bool false, .int .u8 0], true, .struct [(0, 1, 2), (1, 1, 3), (2, 1, 4), (3, 1, 6)]⟩ := by kernel_rfl
theorem ty8 : tyS Tryd.prog 8 = some ⟨4, 24, [.int .i64 0, .int .i64 0, .bool false, .int .u8 0], true, .struct [(0, 1, 2), (1, 1, 3), (2, 1, 4), (3, 1, 6)]⟩ := by kernel_rfl
theorem ty9 : tyS Tryd.prog 9 = some ⟨1, 16, [.string ⟨#[]⟩], false, .str⟩ := by kernel_rfl
theorem ty10 : tyS Tryd.prog 10 = some ⟨1, 16, [.string ⟨#[]⟩], false, .str⟩ := by kernel_rfl
theorem ty11 : tyS Tryd.prog 11 = some ⟨1, 16, [.string ⟨#[]⟩], false, .str⟩ := by kernel_rfl
theorem ty12 : tyS Tryd.prog 12 = some ⟨1, 8, [.int .u64 0], false, .int .u64⟩ := by kernel_rfl
theorem ty13 : tyS Tryd.prog 13 = some ⟨2, 24, [.string ⟨#[]⟩, .int .u64 0], true, .struct [(0, 1, 9), (1, 1, 12)]⟩ := by kernel_rfl
theorem ty14 : tyS Tryd.prog 14 = some ⟨2, 24, [.string ⟨#[]⟩, .int .u64 0], true, .struct [(0, 1, 9), (1, 1, 12)]⟩ := by kernel_rfl
theorem ty15 : tyS Tryd.prog 15 = some ⟨1, 8, [.pointer none], false, .other⟩ := by kernel_rfl
theorem ty16 : tyS Tryd.prog 16 = some ⟨1, 8, [.pointer none], false, .other⟩ := by kernel_rfl
theorem ty17 : tyS Tryd.prog 17 = some ⟨1, 8, [.pointer none], false, .other⟩ := by kernel_rfl
theorem ty18 : tyS Tryd.prog 18 = some ⟨1, 8, [.pointer none], true, .struct [(0, 1, 17)]⟩ := by kernel_rfl
theorem ty19 : tyS Tryd.prog 19 = some ⟨1, 8, [.pointer none], true, .struct [(0, 1, 17)]⟩ := by kernel_rfl
theorem ty21 : tyS Tryd.prog 21 = some ⟨1, 4, [.int .i32 0], false, .int .i32⟩ := by kernel_rfl
theorem ty22 : tyS Tryd.prog 22 = some ⟨1, 8, [.nilFunc], false, .other⟩ := by kernel_rfl
theorem ty23 : tyS Tryd.prog 23 = some ⟨1, 24, [.slice none 0 0], false, .slice 99⟩ := by kernel_rfl
theorem ty24 : tyS Tryd.prog 24 = some ⟨4, 48, [.int .i64 0, .int .i64 0, .int .i64 0, .slice none 0 0], true, .struct [(0, 1, 3), (1, 1, 3), (2, 1, 3), (3, 1, 23)]⟩ := by kernel_rfl
theorem ty25 : tyS Tryd.prog 25 = some ⟨4, 48, [.int .i64 0, .int .i64 0, .int .i64 0, .slice none 0 0], true, .struct [(0, 1, 3), (1, 1, 3), (2, 1, 3), (3, 1, 23)]⟩ := by kernel_rfl
theorem ty26 : tyS Tryd.prog 26 = some ⟨1, 24, [.slice none 0 0], false, .slice 51⟩ := by kernel_rfl
theorem ty27 : tyS Tryd.prog 27 = some ⟨5, 72, [.int .i64 0, .int .i64 0, .int .i64 0, .slice none 0 0, .slice none 0 0], true, .struct [(0, 4, 25), (4, 1, 26)]⟩ := by kernel_rfl
theorem ty28 : tyS Tryd.prog 28 = some ⟨5, 72, [.int .i64 0, .int .i64 0, .int .i64 0, .slice none 0 0, .slice none 0 0], true, .struct [(0, 4, 25), (4, 1, 26)]⟩ := by kernel_rfl
theorem ty29 : tyS Tryd.prog 29 = some ⟨1, 8, [.int .i64 0], false, .int .i64⟩ := by kernel_rfl
theorem ty31 : tyS Tryd.prog 31 = some ⟨1, 8, [.nilFunc], false, .other⟩ := by kernel_rfl
theorem ty33 : tyS Tryd.prog 33 = some ⟨1, 8, [.nilFunc], false, .other⟩ := by kernel_rfl
theorem ty34 : tyS Tryd.prog 34 = some ⟨1, 8, [.nilFunc], false, .other⟩ := by kernel_rfl
theorem ty35 : tyS Tryd.prog 35 = some ⟨1, 8, [.nilFunc], false, .other⟩ := by kernel_rfl
theorem ty36 : tyS Tryd.prog 36 = some ⟨1, 8, [.nilFunc], false, .other⟩ := by kernel_rfl
theorem ty38 : tyS Tryd.prog 38 = some ⟨1, 8, [.nilFunc], false, .other⟩ := by kernel_rfl
theorem ty40 : tyS Tryd.prog 40 = some ⟨1, 8, [.nilFunc], false, .other⟩ := by kernel_rfl
theorem ty41 : tyS Tryd.prog 41 = some ⟨1, 8, [.nilFunc], false, .other⟩ := by kernel_rfl
theorem ty42 : tyS Tryd.prog 42 = some ⟨1, 8, [.nilFunc], false, .other⟩ := by kernel_rfl
theorem ty43 : tyS Tryd.prog 43 = some ⟨1, 8, [.nilFunc], false, .other⟩ := by kernel_rfl
theorem ty44 : tyS Tryd.prog 44 = some ⟨1, 8, [.nilFunc], false, .other⟩ := by kernel_rfl
theorem ty45 : tyS Tryd.prog 45 = some ⟨1, 24, [.slice none 0 0], false, .slice 47⟩ := by kernel_rfl
theorem ty46 : tyS Tryd.prog 46 = some ⟨1, 8, [.nilFunc], false, .other⟩ := by kernel_rfl
theorem ty47 : tyS Tryd.prog 47 = some ⟨1, 24, [.slice none 0 0], false, .slice 49⟩ := by kernel_rfl
theorem ty48 : tyS Tryd.prog 48 = some ⟨3, 32, [.int .i64 0, .int .i64 0, .string ⟨#[]⟩], true, .struct [(0, 1, 3), (1, 1, 3), (2, 1, 9)]⟩ := by kernel_rfl
theorem ty49 : tyS Tryd.prog 49 = some ⟨3, 32, [.int .i64 0, .int .i64 0, .string ⟨#[]⟩], true, .struct [(0, 1, 3), (1, 1, 3), (2, 1, 9)]⟩ := by kernel_rfl
theorem ty50 : tyS Tryd.prog 50 = some ⟨3, 24, [.int .i64 0, .int .i64 0, .int .i64 0], true, .struct [(0, 1, 3), (1, 1, 3), (2, 1, 3)]⟩ := by kernel_rfl
theorem ty51 : tyS Tryd.prog 51 = some ⟨3, 24, [.int .i64 0, .int .i64 0, .int .i64 0], true, .struct [(0, 1, 3), (1, 1, 3), (2, 1, 3)]⟩ := by kernel_rfl
theorem ty53 : tyS Tryd.prog 53 = some ⟨1, 8, [.nilFunc], false, .other⟩ := by kernel_rfl
theorem ty54 : tyS Tryd.prog 54 = some ⟨1, 8, [.nilFunc], false, .other⟩ := by kernel_rfl
theorem ty55 : tyS Tryd.prog 55 = some ⟨1, 8, [.nilFunc], false, .other⟩ := by kernel_rfl
theorem ty57 : tyS Tryd.prog 57 = some ⟨1, 24, [.slice none 0 0], false, .slice 64⟩ := by kernel_rfl
theorem ty58 : tyS Tryd.prog 58 = some ⟨1, 8, [.nilFunc], false, .other⟩ := by kernel_rfl
theorem ty59 : tyS Tryd.prog 59 = some ⟨1, 8, [.nilFunc], false, .other⟩ := by kernel_rfl
theorem ty61 : tyS Tryd.prog 61 = some ⟨1, 8, [.nilFunc], false, .other⟩ := by kernel_rfl
theorem ty63 : tyS Tryd.prog 63 = some ⟨1, 8, [.nilFunc], false, .other⟩ := by kernel_rfl
theorem ty64 : tyS Tryd.prog 64 = some ⟨1, 24, [.slice none 0 0], false, .slice 102⟩ := by kernel_rfl
theorem ty65 : tyS Tryd.prog 65 = some ⟨1, 8, [.nilFunc], false, .other⟩ := by kernel_rfl
theorem ty66 : tyS Tryd.prog 66 = some ⟨1, 8, [.nilFunc], false, .other⟩ := by kernel_rfl
theorem ty67 : tyS Tryd.prog 67 = some ⟨1, 8, [.nilFunc], false, .other⟩ := by kernel_rfl
theorem ty68 : tyS Tryd.prog 68 = some ⟨1, 8, [.pointer none], false, .other⟩ := by kernel_rfl
theorem ty69 : tyS Tryd.prog 69 = some ⟨1, 24, [.slice none 0 0], false, .slice 5⟩ := by kernel_rfl
theorem ty70 : tyS Tryd.prog 70 = some ⟨2, 32, [.pointer none, .slice none 0 0], true, .struct [(0, 1, 68), (1, 1, 69)]⟩ := by kernel_rfl
theorem ty71 : tyS Tryd.prog 71 = some ⟨2, 32, [.pointer none, .slice none 0 0], true, .struct [(0, 1, 68), (1, 1, 69)]⟩ := by kernel_rfl
theorem ty75 : tyS Tryd.prog 75 = some ⟨1, 8, [.nilFunc], false, .other⟩ := by kernel_rfl
theorem ty76 : tyS Tryd.prog 76 = some ⟨1, 8, [.nilFunc], false, .other⟩ := by kernel_rfl
theorem ty77 : tyS Tryd.prog 77 = some ⟨1, 8, [.nilFunc], false, .other⟩ := by kernel_rfl
theorem ty78 : tyS Tryd.prog 78 = some ⟨1, 8, [.nilFunc], false, .other⟩ := by kernel_rfl
theorem ty79 : tyS Tryd.prog 79 = some ⟨1, 8, [.nilFunc], false, .other⟩ := by kernel_rfl
theorem ty80 : tyS Tryd.prog 80 = some ⟨1, 8, [.nilFunc], false, .other⟩ := by kernel_rfl
theorem ty81 : tyS Tryd.prog 81 = some ⟨1, 24, [.slice none 0 0], false, .slice 3⟩ := by kernel_rfl
theorem ty83 : tyS Tryd.prog 83 = some ⟨1, 8, [.nilFunc], false, .other⟩ := by kernel_rfl
theorem ty84 : tyS Tryd.prog 84 = some ⟨1, 8, [.nilFunc], false, .other⟩ := by kernel_rfl
theorem ty85 : tyS Tryd.prog 85 = some ⟨1, 8, [.nilFunc], false, .other⟩ := by kernel_rfl
theorem ty87 : tyS Tryd.prog 87 = some ⟨1, 8, [.nilFunc], false, .other⟩ := by kernel_rfl
theorem ty88 : tyS Tryd.prog 88 = some ⟨1, 8, [.nilFunc], false, .other⟩ := by kernel_rfl
theorem ty90 : tyS Tryd.prog 90 = some ⟨1, 8, [.nilFunc], false, .other⟩ := by kernel_rfl
theorem ty91 : tyS Tryd.prog 91 = some ⟨1, 8, [.nilFunc], false, .other⟩ := by kernel_rfl
theorem ty93 : tyS Tryd.prog 93 = some ⟨1, 8, [.nilFunc], false, .other⟩ := by kernel_rfl
theorem ty95 : tyS Tryd.prog 95 = some ⟨1, 8, [.nilFunc], false, .other⟩ := by kernel_rfl
theorem ty97 : tyS Tryd.prog 97 = some ⟨1, 8, [.nilFunc], false, .other⟩ := by kernel_rfl
theorem ty98 : tyS Tryd.prog 98 = some ⟨4, 32, [.int .i64 0, .int .i64 0, .int .i64 0, .int .i64 0], true, .struct [(0, 1, 3), (1, 1, 3), (2, 1, 3), (3, 1, 3)]⟩ := by kernel_rfl
theorem ty99 : tyS Tryd.prog 99 = some ⟨4, 32, [.int .i64 0, .int .i64 0, .int .i64 0, .int .i64 0], true, .struct [(0, 1, 3), (1, 1, 3), (2, 1, 3), (3, 1, 3)]⟩ := by kernel_rfl
theorem ty100 : tyS Tryd.prog 100 = some ⟨1, 8, [.map none], false, .other⟩ := by kernel_rfl
theorem ty101 : tyS Tryd.prog 101 = some ⟨1, 8, [.nilFunc], false, .other⟩ := by kernel_rfl
theorem ty102 : tyS Tryd.prog 102 = some ⟨3, 32, [.int .i64 0, .int .i64 0, .string ⟨#[]⟩], true, .struct [(0, 1, 3), (1, 1, 3), (2, 1, 9)]⟩ := by kernel_rfl
theorem ty104 : tyS Tryd.prog 104 = some ⟨1, 8, [.nilFunc], false, .other⟩ := by kernel_rfl
theorem ty105 : tyS Tryd.prog 105 = some ⟨1, 8, [.nilFunc], false, .other⟩ := by kernel_rfl
theorem ty106 : tyS Tryd.prog 106 = some ⟨1, 8, [.nilFunc], false, .other⟩ := by kernel_rfl
theorem ty107 : tyS Tryd.prog 107 = some ⟨1, 8, [.nilFunc], false, .other⟩ := by kernel_rfl
theorem ty108 : tyS Tryd.prog 108 = some ⟨1, 8, [.nilFunc], false, .other⟩ := by kernel_rfl
theorem ty109 : tyS Tryd.prog 109 = some ⟨1, 8, [.nilFunc], false, .other⟩ := by kernel_rfl
theorem ty110 : tyS Tryd.prog 110 = some ⟨1, 8, [.nilFunc], false, .other⟩ := by kernel_rfl
theorem ty111 : tyS Tryd.prog 111 = some ⟨4, 32, [.int .i64 0, .int .i64 0, .int .i64 0, .int .i64 0], true, .struct [(0, 1, 3), (1, 1, 3), (2, 1, 3), (3, 1, 3)]⟩ := by kernel_rfl
theorem ty112 : tyS Tryd.prog 112 = some ⟨1, 8, [.nilFunc], false, .other⟩ := by kernel_rfl
theorem ty113 : tyS Tryd.prog 113 = some ⟨1, 8, [.nilFunc], false, .other⟩ := by kernel_rfl
theorem ty114 : tyS Tryd.prog 114 = some ⟨1, 24, [.slice none 0 0], false, .slice 9⟩ := by kernel_rfl
theorem ty115 : tyS Tryd.prog 115 = some ⟨1, 8, [.nilFunc], false, .other⟩ := by kernel_rfl
theorem ty116 : tyS Tryd.prog 116 = some ⟨1, 8, [.pointer none], false, .other⟩ := by kernel_rfl
theorem ty117 : tyS Tryd.prog 117 = some ⟨1, 8, [.nilFunc], false, .other⟩ := by kernel_rfl
theorem ty118 : tyS Tryd.prog 118 = some ⟨1, 8, [.nilFunc], false, .other⟩ := by kernel_rfl
theorem ty119 : tyS Tryd.prog 119 = some ⟨1, 8, [.nilFunc], false, .other⟩ := by kernel_rfl
theorem ty120 : tyS Tryd.prog 120 = some ⟨1, 8, [.nilFunc], false, .other⟩ := by kernel_rfl
theorem ty121 : tyS Tryd.prog 121 = some ⟨1, 8, [.nilFunc], false, .other⟩ := by kernel_rfl
theorem ty122 : tyS Tryd.prog 122 = some ⟨1, 8, [.nilFunc], false, .other⟩ := by kernel_rfl
theorem ty123 : tyS Tryd.prog 123 = some ⟨1, 8, [.nilFunc], false, .other⟩ := by kernel_rfl
theorem ty124 : tyS Tryd.prog 124 = some ⟨1, 8, [.nilFunc], false, .other⟩ := by kernel_rfl
theorem ty125 : tyS Tryd.prog 125 = some ⟨1, 8, [.nilFunc], false, .other⟩ := by kernel_rfl
theorem ty126 : tyS Tryd.prog 126 = some ⟨1, 8, [.nilFunc], false, .other⟩ := by kernel_rfl
theorem ty127 : tyS Tryd.prog 127 = some ⟨1, 8, [.nilFunc], false, .other⟩ := by kernel_rfl
theorem ty128 : tyS Tryd.prog 128 = some ⟨1, 8, [.nilFunc], false, .other⟩ := by kernel_rfl
theorem ty130 : tyS Tryd.prog 130 = some ⟨1, 8, [.nilFunc], false, .other⟩ := by kernel_rfl
theorem ty131 : tyS Tryd.prog 131 = some ⟨1, 8, [.nilFunc], false, .other⟩ := by kernel_rfl
theorem ty132 : tyS Tryd.prog 132 = some ⟨1, 8, [.nilFunc], false, .other⟩ := by kernel_rfl
theorem ty133 : tyS Tryd.prog 133 = some ⟨1, 8, [.nilFunc], false, .other⟩ := by kernel_rfl
theorem ty134 : tyS Tryd.prog 134 = some ⟨1, 8, [.int .u64 0], false, .int .u64⟩ := by kernel_rfl
theorem ty136 : tyS Tryd.prog 136 = some ⟨1, 8, [.nilFunc], false, .other⟩ := by kernel_rfl
theorem ty138 : tyS Tryd.prog 138 = some ⟨1, 8, [.nilFunc], false, .other⟩ := by kernel_rfl
theorem ty139 : tyS Tryd.prog 139 = some ⟨1, 8, [.int .u64 0], false, .int .u64⟩ := by kernel_rfl
theorem ty140 : tyS Tryd.prog 140 = some ⟨1, 8, [.nilFunc], false, .other⟩ := by kernel_rfl
theorem ty141 : tyS Tryd.prog 141 = some ⟨1, 8, [.nilFunc], false, .other⟩ := by kernel_rfl
theorem ty142 : tyS Tryd.prog 142 = some ⟨1, 8, [.nilFunc], false, .other⟩ := by kernel_rfl
theorem ty143 : tyS Tryd.prog 143 = some ⟨1, 8, [.nilFunc], false, .other⟩ := by kernel_rfl
theorem ty144 : tyS Tryd.prog 144 = some ⟨1, 4, [.int .u32 0], false, .int .u32⟩ := by kernel_rfl
theorem ty146 : tyS Tryd.prog 146 = some ⟨1, 8, [.nilFunc], false, .other⟩ := by kernel_rfl
theorem ty148 : tyS Tryd.prog 148 = some ⟨1, 8, [.nilFunc], false, .other⟩ := by kernel_rfl
theorem ty150 : tyS Tryd.prog 150 = some ⟨1, 8, [.nilFunc], false, .other⟩ := by kernel_rfl
theorem ty151 : tyS Tryd.prog 151 = some ⟨1, 8, [.nilFunc], false, .other⟩ := by kernel_rfl
theorem ty152 : tyS Tryd.prog 152 = some ⟨24, 24, [.int .u8 0, .int .u8 0, .int .u8 0, .int .u8 0, .int .u8 0, .int .u8 0, .int .u8 0, .int .u8 0, .int .u8 0, .int .u8 0, .int .u8 0, .int .u8 0, .int .u8 0, .int .u8 0, .int .u8 0, .int .u8 0, .int .u8 0, .int .u8 0, .int .u8 0, .int .u8 0, .int .u8 0, .int .u8 0, .int .u8 0, .int .u8 0], true, .array 24 5 1⟩ := by kernel_rfl
theorem ty153 : tyS Tryd.prog 153 = some ⟨1, 8, [.nilFunc], false, .other⟩ := by kernel_rfl
theorem ty154 : tyS Tryd.prog 154 = some ⟨1, 8, [.nilFunc], false, .other⟩ := by kernel_rfl
theorem ty156 : tyS Tryd.prog 156 = some ⟨1, 8, [.nilFunc], false, .other⟩ := by kernel_rfl
theorem ty157 : tyS Tryd.prog 157 = some ⟨1, 8, [.nilFunc], false, .other⟩ := by kernel_rfl
theorem ty158 : tyS Tryd.prog 158 = some ⟨1, 8, [.nilFunc], false, .other⟩ := by kernel_rfl
theorem ty159 : tyS Tryd.prog 159 = some ⟨1, 8, [.nilFunc], false, .other⟩ := by kernel_rfl
theorem ty160 : tyS Tryd.prog 160 = some ⟨20, 160, [.int .u64 0, .int .u64 0, .int .u64 0, .int .u64 0, .int .u64 0, .int .u64 0, .int .u64 0, .int .u64 0, .int .u64 0, .int .u64 0, .int .u64 0, .int .u64 0, .int .u64 0, .int .u64 0, .int .u64 0, .int .u64 0, .int .u64 0, .int .u64 0, .int .u64 0, .int .u64 0], true, .array 20 139 1⟩ := by kernel_rfl
theorem ty161 : tyS Tryd.prog 161 = some ⟨65, 65, [.int .u8 0, .int .u8 0, .int .u8 0, .int .u8 0, .int .u8 0, .int .u8 0, .int .u8 0, .int .u8 0, .int .u8 0, .int .u8 0, .int .u8 0, .int .u8 0, .int .u8 0, .int .u8 0, .int .u8 0, .int .u8 0, .int .u8 0, .int .u8 0, .int .u8 0, .int .u8 0, .int .u8 0, .int .u8 0, .int .u8 0, .int .u8 0, .int .u8 0, .int .u8 0, .int .u8 0, .int .u8 0, .int .u8 0, .int .u8 0, .int .u8 0, .int .u8 0, .int .u8 0, .int .u8 0, .int .u8 0, .int .u8 0, .int .u8 0, .int .u8 0, .int .u8 0, .int .u8 0, .int .u8 0, .int .u8 0, .int .u8 0, .int .u8 0, .int .u8 0, .int .u8 0, .int .u8 0, .int .u8 0, .int .u8 0, .int .u8 0, .int .u8 0, .int .u8 0, .int .u8 0, .int .u8 0, .int .u8 0, .int .u8 0, .int .u8 0, .int .u8 0, .int .u8 0, .int .u8 0, .int .u8 0, .int .u8 0, .int .u8 0, .int .u8 0, .int .u8 0], true, .array 65 5 1⟩ := by kernel_rfl
theorem ty162 : tyS Tryd.prog 162 = some ⟨1, 8, [.nilFunc], false, .other⟩ := by kernel_rfl
theorem ty163 : tyS Tryd.prog 163 = some ⟨1, 8, [.nilFunc], false, .other⟩ := by kernel_rfl
theorem ty164 : tyS Tryd.prog 164 = some ⟨32, 32, [.int .u8 0, .int .u8 0, .int .u8 0, .int .u8 0, .int .u8 0, .int .u8 0, .int .u8 0, .int .u8 0, .int .u8 0, .int .u8 0, .int .u8 0, .int .u8 0, .int .u8 0, .int .u8 0, .int .u8 0, .int .u8 0, .int .u8 0, .int .u8 0, .int .u8 0, .int .u8 0, .int .u8 0, .int .u8 0, .int .u8 0, .int .u8 0, .int .u8 0, .int .u8 0, .int .u8 0, .int .u8 0, .int .u8 0, .int .u8 0, .int .u8 0, .int .u8 0], true, .array 32 5 1⟩ := by kernel_rfl
theorem ty165 : tyS Tryd.prog 165 = some ⟨64, 64, [.int .u8 0, .int .u8 0, .int .u8 0, .int .u8 0, .int .u8 0, .int .u8 0, .int .u8 0, .int .u8 0, .int .u8 0, .int .u8 0, .int .u8 0, .int .u8 0, .int .u8 0, .int .u8 0, .int .u8 0, .int .u8 0, .int .u8 0, .int .u8 0, .int .u8 0, .int .u8 0, .int .u8 0, .int .u8 0, .int .u8 0, .int .u8 0, .int .u8 0, .int .u8 0, .int .u8 0, .int .u8 0, .int .u8 0, .int .u8 0, .int .u8 0, .int .u8 0, .int .u8 0, .int .u8 0, .int .u8 0, .int .u8 0, .int .u8 0, .int .u8 0, .int .u8 0, .int .u8 0, .int .u8 0, .int .u8 0, .int .u8 0, .int .u8 0, .int .u8 0, .int .u8 0, .int .u8 0, .int .u8 0, .int .u8 0, .int .u8 0, .int .u8 0, .int .u8 0, .int .u8 0, .int .u8 0, .int .u8 0, .int .u8 0, .int .u8 0, .int .u8 0, .int .u8 0, .int .u8 0, .int .u8 0, .int .u8 0, .int .u8 0, .int .u8 0], true, .array 64 5 1⟩ := by kernel_rfl
theorem ty166 : tyS Tryd.prog 166 = some ⟨4, 40, [.pointer none, .pointer none, .pointer none, .string ⟨#[]⟩], true, .struct [(0, 1, 17), (1, 1, 17), (2, 1, 17), (3, 1, 9)]⟩ := by kernel_rfl
theorem ty167 : tyS Tryd.prog 167 = some ⟨4, 40, [.pointer none, .pointer none, .pointer none, .string ⟨#[]⟩], true, .struct [(0, 1, 17), (1, 1, 17), (2, 1, 17), (3, 1, 9)]⟩ := by kernel_rfl
theorem ty168 : tyS Tryd.prog 168 = some ⟨0, 0, [], true, .array 0 16 1⟩ := by kernel_rfl
theorem ty169 : tyS Tryd.prog 169 = some ⟨0, 0, [], true, .struct [(0, 0, 168)]⟩ := by kernel_rfl
theorem ty170 : tyS Tryd.prog 170 = some ⟨0, 0, [], true, .struct [(0, 0, 168)]⟩ := by kernel_rfl
theorem ty171 : tyS Tryd.prog 171 = some ⟨1, 8, [.nilFunc], false, .other⟩ := by kernel_rfl
theorem ty172 : tyS Tryd.prog 172 = some ⟨1, 1, [.int .u8 0], false, .int .u8⟩ := by kernel_rfl
theorem ty173 : tyS Tryd.prog 173 = some ⟨1, 1, [.int .u8 0], false, .int .u8⟩ := by kernel_rfl
theorem ty174 : tyS Tryd.prog 174 = some ⟨1, 8, [.nilFunc], false, .other⟩ := by kernel_rfl
theorem ty175 : tyS Tryd.prog 175 = some ⟨1, 4, [.int .i32 0], false, .int .i32⟩ := by kernel_rfl
theorem ty176 : tyS Tryd.prog 176 = some ⟨1, 4, [.int .i32 0], false, .int .i32⟩ := by kernel_rfl
theorem ty177 : tyS Tryd.prog 177 = some ⟨11, 48, [.int .u64 0, .int .u64 0, .int .u32 0, .int .u8 0, .int .u8 0, .int .u8 0, .int .u8 0, .nilFunc, .pointer none, .int .i32 0, .int .i32 0], true, .struct [(0, 1, 12), (1, 1, 12), (2, 1, 144), (3, 1, 172), (4, 1, 5), (5, 1, 5), (6, 1, 173), (7, 1, 174), (8, 1, 116), (9, 1, 175), (10, 1, 176)]⟩ := by kernel_rfl
theorem ty178 : tyS Tryd.prog 178 = some ⟨11, 48, [.int .u64 0, .int .u64 0, .int .u32 0, .int .u8 0, .int .u8 0, .int .u8 0, .int .u8 0, .nilFunc, .pointer none, .int .i32 0, .int .i32 0], true, .struct [(0, 1, 12), (1, 1, 12), (2, 1, 144), (3, 1, 172), (4, 1, 5), (5, 1, 5), (6, 1, 173), (7, 1, 174), (8, 1, 116), (9, 1, 175), (10, 1, 176)]⟩ := by kernel_rfl
def tab : Tab := [(1, ⟨1, 8, [.nilFunc], false, .other⟩),
  (2, ⟨1, 8, [.int .i64 0], false, .int .i64⟩),
  (3, ⟨1, 8, [.int .i64 0], false, .int .i64⟩),
  (4, ⟨1, 1, [.bool false], false, .bool⟩),
  (5, ⟨1, 1, [.int .u8 0], false, .int .u8⟩),
  (6, ⟨1, 1, [.int .u8 0], false, .int .u8⟩),
  (7, ⟨4, 24, [.int .i64 0, .int .i64 0, .bool false, .int .u8 0], true, .struct [(0, 1, 2), (1, 1, 3), (2, 1, 4), (3, 1, 6)]⟩),
  (8, ⟨4, 24, [.int .i64 0, .int .i64 0, .bool false, .int .u8 0], true, .struct [(0, 1, 2), (1, 1, 3), (2, 1, 4), (3, 1, 6)]⟩),
  (9, ⟨1, 16, [.string ⟨#[]⟩], false, .str⟩),
  (10, ⟨1, 16, [.string ⟨#[]⟩], false, .str⟩),
  (11, ⟨1, 16, [.string ⟨#[]⟩], false, .str⟩),
  (12, ⟨1, 8, [.int .u64 0], false, .int .u64⟩),
  (13, ⟨2, 24, [.string ⟨#[]⟩, .int .u64 0], true, .struct [(0, 1, 9), (1, 1, 12)]⟩),
  (14, ⟨2, 24, [.string ⟨#[]⟩, .int .u64 0], true, .struct [(0, 1, 9), (1, 1, 12)]⟩),
  (15, ⟨1, 8, [.pointer none], false, .other⟩),
  (16, ⟨1, 8, [.pointer none], false, .other⟩),
  (17, ⟨1, 8, [.pointer none], false, .other⟩),
  (18, ⟨1, 8, [.pointer none], true, .struct [(0, 1, 17)]⟩),
  (19, ⟨1, 8, [.pointer none], true, .struct [(0, 1, 17)]⟩),
  (21, ⟨1, 4, [.int .i32 0], false, .int .i32⟩),
  (22, ⟨1, 8, [.nilFunc], false, .other⟩),
  (23, ⟨1, 24, [.slice none 0 0], false, .slice 99⟩),
  (24, ⟨4, 48, [.int .i64 0, .int .i64 0, .int .i64 0, .slice none 0 0], true, .struct [(0, 1, 3), (1, 1, 3), (2, 1, 3), (3, 1, 23)]⟩),
  (25, ⟨4, 48, [.int .i64 0, .int .i64 0, .int .i64 0, .slice none 0 0], true, .struct [(0, 1, 3), (1, 1, 3), (2, 1, 3), (3, 1, 23)]⟩),
  (26, ⟨1, 24, [.slice none 0 0], false, .slice 51⟩),
  (27, ⟨5, 72, [.int .i64 0, .int .i64 0, .int .i64 0, .slice none 0 0, .slice none 0 0], true, .struct [(0, 4, 25), (4, 1, 26)]⟩),
  (28, ⟨5, 72, [.int .i64 0, .int .i64 0, .int .i64 0, .slice none 0 0, .slice none 0 0], true, .struct [(0, 4, 25), (4, 1, 26)]⟩),
  (29, ⟨1, 8, [.int .i64 0], false, .int .i64⟩),
  (31, ⟨1, 8, [.nilFunc], false, .other⟩),
  (33, ⟨1, 8, [.nilFunc], false, .other⟩),
  (34, ⟨1, 8, [.nilFunc], false, .other⟩),
  (35, ⟨1, 8, [.nilFunc], false, .other⟩),
  (36, ⟨1, 8, [.nilFunc], false, .other⟩),
  (38, ⟨1, 8, [.nilFunc], false, .other⟩),
  (40, ⟨1, 8, [.nilFunc], false, .other⟩),
  (41, ⟨1, 8, [.nilFunc], false, .other⟩),
  (42, ⟨1, 8, [.nilFunc], false, .other⟩),
  (43, ⟨1, 8, [.nilFunc], false, .other⟩),
  (44, ⟨1, 8, [.nilFunc], false, .other⟩),
  (45, ⟨1, 24, [.slice none 0 0], false, .slice 47⟩),
  (46, ⟨1, 8, [.nilFunc], false, .other⟩),
  (47, ⟨1, 24, [.slice none 0 0], false, .slice 49⟩),
  (48, ⟨3, 32, [.int .i64 0, .int .i64 0, .string ⟨#[]⟩], true, .struct [(0, 1, 3), (1, 1, 3), (2, 1, 9)]⟩),
  (49, ⟨3, 32, [.int .i64 0, .int .i64 0, .string ⟨#[]⟩], true, .struct [(0, 1, 3), (1, 1, 3), (2, 1, 9)]⟩),
  (50, ⟨3, 24, [.int .i64 0, .int .i64 0, .int .i64 0], true, .struct [(0, 1, 3), (1, 1, 3), (2, 1, 3)]⟩),
  (51, ⟨3, 24, [.int .i64 0, .int .i64 0, .int .i64 0], true, .struct [(0, 1, 3), (1, 1, 3), (2, 1, 3)]⟩),
  (53, ⟨1, 8, [.nilFunc], false, .other⟩),
  (54, ⟨1, 8, [.nilFunc], false, .other⟩),
  (55, ⟨1, 8, [.nilFunc], false, .other⟩),
  (57, ⟨1, 24, [.slice none 0 0], false, .slice 64⟩),
  (58, ⟨1, 8, [.nilFunc], false, .other⟩),
  (59, ⟨1, 8, [.nilFunc], false, .other⟩),
  (61, ⟨1, 8, [.nilFunc], false, .other⟩),
  (63, ⟨1, 8, [.nilFunc], false, .other⟩),
  (64, ⟨1, 24, [.slice none 0 0], false, .slice 102⟩),
  (65, ⟨1, 8, [.nilFunc], false, .other⟩),
  (66, ⟨1, 8, [.nilFunc], false, .other⟩),
  (67, ⟨1, 8, [.nilFunc], false, .other⟩),
  (68, ⟨1, 8, [.pointer none], false, .other⟩),
  (69, ⟨1, 24, [.slice none 0 0], false, .slice 5⟩),
  (70, ⟨2, 32, [.pointer none, .slice none 0 0], true, .struct [(0, 1, 68), (1, 1, 69)]⟩),
  (71, ⟨2, 32, [.pointer none, .slice none 0 0], true, .struct [(0, 1, 68), (1, 1, 69)]⟩),
  (75, ⟨1, 8, [.nilFunc], false, .other⟩),
  (76, ⟨1, 8, [.nilFunc], false, .other⟩),
  (77, ⟨1, 8, [.nilFunc], false, .other⟩),
  (78, ⟨1, 8, [.nilFunc], false, .other⟩),
  (79, ⟨1, 8, [.nilFunc], false, .other⟩),
  (80, ⟨1, 8, [.nilFunc], false, .other⟩),
  (81, ⟨1, 24, [.slice none 0 0], false, .slice 3⟩),
  (83, ⟨1, 8, [.nilFunc], false, .other⟩),
  (84, ⟨1, 8, [.nilFunc], false, .other⟩),
  (85, ⟨1, 8, [.nilFunc], false, .other⟩),
  (87, ⟨1, 8, [.nilFunc], false, .other⟩),
  (88, ⟨1, 8, [.nilFunc], false, .other⟩),
  (90, ⟨1, 8, [.nilFunc], false, .other⟩),
  (91, ⟨1, 8, [.nilFunc], false, .other⟩),
  (93, ⟨1, 8, [.nilFunc], false, .other⟩),
  (95, ⟨1, 8, [.nilFunc], false, .other⟩),
  (97, ⟨1, 8, [.nilFunc], false, .other⟩),
  (98, ⟨4, 32, [.int .i64 0, .int .i64 0, .int .i64 0, .int .i64 0], true, .struct [(0, 1, 3), (1, 1, 3), (2, 1, 3), (3, 1, 3)]⟩),
  (99, ⟨4, 32, [.int .i64 0, .int .i64 0, .int .i64 0, .int .i64 0], true, .struct [(0, 1, 3), (1, 1, 3), (2, 1, 3), (3, 1, 3)]⟩),
  (100, ⟨1, 8, [.map none], false, .other⟩),
  (101, ⟨1, 8, [.nilFunc], false, .other⟩),
  (102, ⟨3, 32, [.int .i64 0, .int .i64 0, .string ⟨#[]⟩], true, .struct [(0, 1, 3), (1, 1, 3), (2, 1, 9)]⟩),
  (104, ⟨1, 8, [.nilFunc], false, .other⟩),
  (105, ⟨1, 8, [.nilFunc], false, .other⟩),
  (106, ⟨1, 8, [.nilFunc], false, .other⟩),
  (107, ⟨1, 8, [.nilFunc], false, .other⟩),
  (108, ⟨1, 8, [.nilFunc], false, .other⟩),
  (109, ⟨1, 8, [.nilFunc], false, .other⟩),
  (110, ⟨1, 8, [.nilFunc], false, .other⟩),
  (111, ⟨4, 32, [.int .i64 0, .int .i64 0, .int .i64 0, .int .i64 0], true, .struct [(0, 1, 3), (1, 1, 3), (2, 1, 3), (3, 1, 3)]⟩),
  (112, ⟨1, 8, [.nilFunc], false, .other⟩),
  (113, ⟨1, 8, [.nilFunc], false, .other⟩),
  (114, ⟨1, 24, [.slice none 0 0], false, .slice 9⟩),
  (115, ⟨1, 8, [.nilFunc], false, .other⟩),
  (116, ⟨1, 8, [.pointer none], false, .other⟩),
  (117, ⟨1, 8, [.nilFunc], false, .other⟩),
  (118, ⟨1, 8, [.nilFunc], false, .other⟩),
  (119, ⟨1, 8, [.nilFunc], false, .other⟩),
  (120, ⟨1, 8, [.nilFunc], false, .other⟩),
  (121, ⟨1, 8, [.nilFunc], false, .other⟩),
  (122, ⟨1, 8, [.nilFunc], false, .other⟩),
  (123, ⟨1, 8, [.nilFunc], false, .other⟩),
  (124, ⟨1, 8, [.nilFunc], false, .other⟩),
  (125, ⟨1, 8, [.nilFunc], false, .other⟩),
  (126, ⟨1, 8, [.nilFunc], false, .other⟩),
  (127, ⟨1, 8, [.nilFunc], false, .other⟩),
  (128, ⟨1, 8, [.nilFunc], false, .other⟩),
  (130, ⟨1, 8, [.nilFunc], false, .other⟩),
  (131, ⟨1, 8, [.nilFunc], false, .other⟩),
  (132, ⟨1, 8, [.nilFunc], false, .other⟩),
  (133, ⟨1, 8, [.nilFunc], false, .other⟩),
  (134, ⟨1, 8, [.int .u64 0], false, .int .u64⟩),
  (136, ⟨1, 8, [.nilFunc], false, .other⟩),
  (138, ⟨1, 8, [.nilFunc], false, .other⟩),
  (139, ⟨1, 8, [.int .u64 0], false, .int .u64⟩),
  (140, ⟨1, 8, [.nilFunc], false, .other⟩),
  (141, ⟨1, 8, [.nilFunc], false, .other⟩),
  (142, ⟨1, 8, [.nilFunc], false, .other⟩),
  (143, ⟨1, 8, [.nilFunc], false, .other⟩),
  (144, ⟨1, 4, [.int .u32 0], false, .int .u32⟩),
  (146, ⟨1, 8, [.nilFunc], false, .other⟩),
  (148, ⟨1, 8, [.nilFunc], false, .other⟩),
  (150, ⟨1, 8, [.nilFunc], false, .other⟩),
  (151, ⟨1, 8, [.nilFunc], false, .other⟩),
  (152, ⟨24, 24, [.int .u8 0, .int .u8 0, .int .u8 0, .int .u8 0, .int .u8 0, .int .u8 0, .int .u8 0, .int .u8 0, .int .u8 0, .int .u8 0, .int .u8 0, .int .u8 0, .int .u8 0, .int .u8 0, .int .u8 0, .int .u8 0, .int .u8 0, .int .u8 0, .int .u8 0, .int .u8 0, .int .u8 0, .int .u8 0, .int .u8 0, .int .u8 0], true, .array 24 5 1⟩),
  (153, ⟨1, 8, [.nilFunc], false, .other⟩),
  (154, ⟨1, 8, [.nilFunc], false, .other⟩),
  (156, ⟨1, 8, [.nilFunc], false, .other⟩),
  (157, ⟨1, 8, [.nilFunc], false, .other⟩),
  (158, ⟨1, 8, [.nilFunc], false, .other⟩),
  (159, ⟨1, 8, [.nilFunc], false, .other⟩),
  (160, ⟨20, 160, [.int .u64 0, .int .u64 0, .int .u64 0, .int .u64 0, .int .u64 0, .int .u64 0, .int .u64 0, .int .u64 0, .int .u64 0, .int .u64 0, .int .u64 0, .int .u64 0, .int .u64 0, .int .u64 0, .int .u64 0, .int .u64 0, .int .u64 0, .int .u64 0, .int .u64 0, .int .u64 0], true, .array 20 139 1⟩),
  (161, ⟨65, 65, [.int .u8 0, .int .u8 0, .int .u8 0, .int .u8 0, .int .u8 0, .int .u8 0, .int .u8 0, .int .u8 0, .int .u8 0, .int .u8 0, .int .u8 0, .int .u8 0, .int .u8 0, .int .u8 0, .int .u8 0, .int .u8 0, .int .u8 0, .int .u8 0, .int .u8 0, .int .u8 0, .int .u8 0, .int .u8 0, .int .u8 0, .int .u8 0, .int .u8 0, .int .u8 0, .int .u8 0, .int .u8 0, .int .u8 0, .int .u8 0, .int .u8 0, .int .u8 0, .int .u8 0, .int .u8 0, .int .u8 0, .int .u8 0, .int .u8 0, .int .u8 0, .int .u8 0, .int .u8 0, .int .u8 0, .int .u8 0, .int .u8 0, .int .u8 0, .int .u8 0, .int .u8 0, .int .u8 0, .int .u8 0, .int .u8 0, .int .u8 0, .int .u8 0, .int .u8 0, .int .u8 0, .int .u8 0, .int .u8 0, .int .u8 0, .int .u8 0, .int .u8 0, .int .u8 0, .int .u8 0, .int .u8 0, .int .u8 0, .int .u8 0, .int .u8 0, .int .u8 0], true, .array 65 5 1⟩),
  (162, ⟨1, 8, [.nilFunc], false, .other⟩),
  (163, ⟨1, 8, [.nilFunc], false, .other⟩),
  (164, ⟨32, 32, [.int .u8 0, .int .u8 0, .int .u8 0, .int .u8 0, .int .u8 0, .int .u8 0, .int .u8 0, .int .u8 0, .int .u8 0, .int .u8 0, .int .u8 0, .int .u8 0, .int .u8 0, .int .u8 0, .int .u8 0, .int .u8 0, .int .u8 0, .int .u8 0, .int .u8 0, .int .u8 0, .int .u8 0, .int .u8 0, .int .u8 0, .int .u8 0, .int .u8 0, .int .u8 0, .int .u8 0, .int .u8 0, .int .u8 0, .int .u8 0, .int .u8 0, .int .u8 0], true, .array 32 5 1⟩),
  (165, ⟨64, 64, [.int .u8 0, .int .u8 0, .int .u8 0, .int .u8 0, .int .u8 0, .int .u8 0, .int .u8 0, .int .u8 0, .int .u8 0, .int .u8 0, .int .u8 0, .int .u8 0, .int .u8 0, .int .u8 0, .int .u8 0, .int .u8 0, .int .u8 0, .int .u8 0, .int .u8 0, .int .u8 0, .int .u8 0, .int .u8 0, .int .u8 0, .int .u8 0, .int .u8 0, .int .u8 0, .int .u8 0, .int .u8 0, .int .u8 0, .int .u8 0, .int .u8 0, .int .u8 0, .int .u8 0, .int .u8 0, .int .u8 0, .int .u8 0, .int .u8 0, .int .u8 0, .int .u8 0, .int .u8 0, .int .u8 0, .int .u8 0, .int .u8 0, .int .u8 0, .int .u8 0, .int .u8 0, .int .u8 0, .int .u8 0, .int .u8 0, .int .u8 0, .int .u8 0, .int .u8 0, .int .u8 0, .int .u8 0, .int .u8 0, .int .u8 0, .int .u8 0, .int .u8 0, .int .u8 0, .int .u8 0, .int .u8 0, .int .u8 0, .int .u8 0, .int .u8 0], true, .array 64 5 1⟩),
  (166, ⟨4, 40, [.pointer none, .pointer none, .pointer none, .string ⟨#[]⟩], true, .struct [(0, 1, 17), (1, 1, 17), (2, 1, 17), (3, 1, 9)]⟩),
  (167, ⟨4, 40, [.pointer none, .pointer none, .pointer none, .string ⟨#[]⟩], true, .struct [(0, 1, 17), (1, 1, 17), (2, 1, 17), (3, 1, 9)]⟩),
  (168, ⟨0, 0, [], true, .array 0 16 1⟩),
  (169, ⟨0, 0, [], true, .struct [(0, 0, 168)]⟩),
  (170, ⟨0, 0, [], true, .struct [(0, 0, 168)]⟩),
  (171, ⟨1, 8, [.nilFunc], false, .other⟩),
  (172, ⟨1, 1, [.int .u8 0], false, .int .u8⟩),
  (173, ⟨1, 1, [.int .u8 0], false, .int .u8⟩),
  (174, ⟨1, 8, [.nilFunc], false, .other⟩),
  (175, ⟨1, 4, [.int .i32 0], false, .int .i32⟩),
  (176, ⟨1, 4, [.int .i32 0], false, .int .i32⟩),
  (177, ⟨11, 48, [.int .u64 0, .int .u64 0, .int .u32 0, .int .u8 0, .int .u8 0, .int .u8 0, .int .u8 0, .nilFunc, .pointer none, .int .i32 0, .int .i32 0], true, .struct [(0, 1, 12), (1, 1, 12), (2, 1, 144), (3, 1, 172), (4, 1, 5), (5, 1, 5), (6, 1, 173), (7, 1, 174), (8, 1, 116), (9, 1, 175), (10, 1, 176)]⟩),
  (178, ⟨11, 48, [.int .u64 0, .int .u64 0, .int .u32 0, .int .u8 0, .int .u8 0, .int .u8 0, .int .u8 0, .nilFunc, .pointer none, .int .i32 0, .int .i32 0], true, .struct [(0, 1, 12), (1, 1, 12), (2, 1, 144), (3, 1, 172), (4, 1, 5), (5, 1, 5), (6, 1, 173), (7, 1, 174), (8, 1, 116), (9, 1, 175), (10, 1, 176)]⟩)]
theorem T : TabOK Tryd.prog tab := TabOK.cons ty1 <| TabOK.cons ty2 <| TabOK.cons ty3 <| TabOK.cons ty4 <| TabOK.cons ty5 <| TabOK.cons ty6 <| TabOK.cons ty7 <| TabOK.cons ty8 <| TabOK.cons ty9 <| TabOK.cons ty10 <| TabOK.cons ty11 <| TabOK.cons ty12 <| TabOK.cons ty13 <| TabOK.cons ty14 <| TabOK.cons ty15 <| TabOK.cons ty16 <| TabOK.cons ty17 <| TabOK.cons ty18 <| TabOK.cons ty19 <| TabOK.cons ty21 <| TabOK.cons ty22 <| TabOK.cons ty23 <| TabOK.cons ty24 <| TabOK.cons ty25 <| TabOK.cons ty26 <| TabOK.cons ty27 <| TabOK.cons ty28 <| TabOK.cons ty29 <| TabOK.cons ty31 <| TabOK.cons ty33 <| TabOK.cons ty34 <| TabOK.cons ty35 <| TabOK.cons ty36 <| TabOK.cons ty38 <| TabOK.cons ty40 <| TabOK.cons ty41 <| TabOK.cons ty42 <| TabOK.cons ty43 <| TabOK.cons ty44 <| TabOK.cons ty45 <| TabOK.cons ty46 <| TabOK.cons ty47 <| TabOK.cons ty48 <| TabOK.cons ty49 <| TabOK.cons ty50 <| TabOK.cons ty51 <| TabOK.cons ty53 <| TabOK.cons ty54 <| TabOK.cons ty55 <| TabOK.cons ty57 <| TabOK.cons ty58 <| TabOK.cons ty59 <| TabOK.cons ty61 <| TabOK.cons ty63 <| TabOK.cons ty64 <| TabOK.cons ty65 <| TabOK.cons ty66 <| TabOK.cons ty67 <| TabOK.cons ty68 <| TabOK.cons ty69 <| TabOK.cons ty70 <| TabOK.cons ty71 <| TabOK.cons ty75 <| TabOK.cons ty76 <| TabOK.cons ty77 <| TabOK.cons ty78 <| TabOK.cons ty79 <| TabOK.cons ty80 <| TabOK.cons ty81 <| TabOK.cons ty83 <| TabOK.cons ty84 <| TabOK.cons ty85 <| TabOK.cons ty87 <| TabOK.cons ty88 <| TabOK.cons ty90 <| TabOK.cons ty91 <| TabOK.cons ty93 <| TabOK.cons ty95 <| TabOK.cons ty97 <| TabOK.cons ty98 <| TabOK.cons ty99 <| TabOK.cons ty100 <| TabOK.cons ty101 <| TabOK.cons ty102 <| TabOK.cons ty104 <| TabOK.cons ty105 <| TabOK.cons ty106 <| TabOK.cons ty107 <| TabOK.cons ty108 <| TabOK.cons ty109 <| TabOK.cons ty110 <| TabOK.cons ty111 <| TabOK.cons ty112 <| TabOK.cons ty113 <| TabOK.cons ty114 <| TabOK.cons ty115 <| TabOK.cons ty116 <| TabOK.cons ty117 <| TabOK.cons ty118 <| TabOK.cons ty119 <| TabOK.cons ty120 <| TabOK.cons ty121 <| TabOK.cons ty122 <| TabOK.cons ty123 <| TabOK.cons ty124 <| TabOK.cons ty125 <| TabOK.cons ty126 <| TabOK.cons ty127 <| TabOK.cons ty128 <| TabOK.cons ty130 <| TabOK.cons ty131 <| TabOK.cons ty132 <| TabOK.cons ty133 <| TabOK.cons ty134 <| TabOK.cons ty136 <| TabOK.cons ty138 <| TabOK.cons ty139 <| TabOK.cons ty140 <| TabOK.cons ty141 <| TabOK.cons ty142 <| TabOK.cons ty143 <| TabOK.cons ty144 <| TabOK.cons ty146 <| TabOK.cons ty148 <| TabOK.cons ty150 <| TabOK.cons ty151 <| TabOK.cons ty152 <| TabOK.cons ty153 <| TabOK.cons ty154 <| TabOK.cons ty156 <| TabOK.cons ty157 <| TabOK.cons ty158 <| TabOK.cons ty159 <| TabOK.cons ty160 <| TabOK.cons ty161 <| TabOK.cons ty162 <| TabOK.cons ty163 <| TabOK.cons ty164 <| TabOK.cons ty165 <| TabOK.cons ty166 <| TabOK.cons ty167 <| TabOK.cons ty168 <| TabOK.cons ty169 <| TabOK.cons ty170 <| TabOK.cons ty171 <| TabOK.cons ty172 <| TabOK.cons ty173 <| TabOK.cons ty174 <| TabOK.cons ty175 <| TabOK.cons ty176 <| TabOK.cons ty177 <| TabOK.cons ty178 <| TabOK.nil _
theorem mixed : Tryd.prog.follows .mixedOrders = true := by kernel_rfl
end Go.Proofs.YtcjldfbgccmpkaaDoor
