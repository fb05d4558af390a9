/- The table of the types, read off the program. No condition. -/
import Derived.Test.YtkgcdoeldilhaaaDoorProg
import Derived.Test.YtkgcdoeldilhaaaDoorSw
import Derived.KernelRfl
namespace Go.Proofs.YtkgcdoeldilhaaaDoor
open Go Go.Sv
theorem ty1 : tyS Tryd.prog 1 = some ⟨1, 8, [.nilFunc], false, .other⟩ := by kernel_rfl
theorem ty2 : tyS Tryd.prog 2 = some ⟨1, 8, [.int .i64 0], false, .int .i64⟩ := by kernel_rfl
theorem ty3 : tyS Tryd.prog 3 = some ⟨1, 8, [.int .i64 0], false, .int .i64⟩ := by kernel_rfl
theorem ty4 : tyS Tryd.prog 4 = some ⟨1, 1, [.bool false], false, .bool⟩ := by kernel_rfl
theorem ty5 : tyS Tryd.prog 5 = some ⟨1, 1, [.int .u8 0], false, .int .u8⟩ := by kernel_rfl
theorem ty6 : tyS Tryd.prog 6 = some ⟨1, 1, [.int .u8 0], false, .int .u8⟩ := by kernel_rfl
theorem ty7 : tyS Tryd.prog 7 = some ⟨4, 24, [.int .i64 0, .int .i64 0, .bool false, .int .u8 0], true, .struct [(0, 1, 2), (1, 1, 3), (2, 1, 4), (3, 1, 6)]⟩ := by kernel_rfl
theorem ty8 : tyS Tryd.prog 8 = some ⟨4, 24, [.int .i64 0, .int .i64 0, .bool false, .int .u8 0], true, .struct [(0, 1, 2), (1, 1, 3), (2, 1, 4), (3, 1, 6)]⟩ := by kernel_rfl
theorem ty9 : tyS Tryd.prog 9 = some ⟨1, 16, [.string ⟨#[]⟩], false, .str⟩ := by kernel_rfl
theorem ty10 : tyS Tryd.prog 10 = some ⟨1, 16, [.string ⟨#[]⟩], false, .str⟩ := by kernel_rfl
theorem ty11 : tyS Tryd.prog 11 = some ⟨1, 16, [.string ⟨#[]⟩], false, .str⟩ := by kernel_rfl
theorem ty12 : tyS Tryd.prog 12 = some ⟨1, 8, [.int .u64 0], false, .int .u64⟩ := by kernel_rfl
theorem ty13 : tyS Tryd.prog 13 = some ⟨2, 24, [.string ⟨#[]⟩, .int .u64 0], true, .struct [(0, 1, 9), (1, 1, 12)]⟩ := by kernel_rfl
theorem ty14 : tyS Tryd.prog 14 = some ⟨2, 24, [.string ⟨#[]⟩, .int .u64 0], true, .struct [(0, 1, 9), (1, 1, 12)]⟩ := by kernel_rfl
theorem ty15 : tyS Tryd.prog 15 = some ⟨1, 8, [.pointer none], false, .other⟩ := by kernel_rfl
theorem ty16 : tyS Tryd.prog 16 = some ⟨1, 8, [.pointer none], false, .other⟩ := by kernel_rfl
theorem ty17 : tyS Tryd.prog 17 = some ⟨1, 8, [.pointer none], false, .other⟩ := by kernel_rfl
theorem ty18 : tyS Tryd.prog 18 = some ⟨1, 8, [.pointer none], true, .struct [(0, 1, 17)]⟩ := by kernel_rfl
theorem ty19 : tyS Tryd.prog 19 = some ⟨1, 8, [.pointer none], true, .struct [(0, 1, 17)]⟩ := by kernel_rfl
theorem ty21 : tyS Tryd.prog 21 = some ⟨1, 4, [.int .i32 0], false, .int .i32⟩ := by kernel_rfl
theorem ty22 : tyS Tryd.prog 22 = some ⟨1, 8, [.int .i64 0], false, .int .i64⟩ := by kernel_rfl
theorem ty23 : tyS Tryd.prog 23 = some ⟨1, 24, [.slice none 0 0], false, .slice 39⟩ := by kernel_rfl
theorem ty24 : tyS Tryd.prog 24 = some ⟨1, 24, [.slice none 0 0], false, .slice 65⟩ := by kernel_rfl
theorem ty25 : tyS Tryd.prog 25 = some ⟨5, 72, [.int .i64 0, .int .i64 0, .int .i64 0, .slice none 0 0, .slice none 0 0], true, .struct [(0, 1, 3), (1, 1, 3), (2, 1, 22), (3, 1, 23), (4, 1, 24)]⟩ := by kernel_rfl
theorem ty26 : tyS Tryd.prog 26 = some ⟨5, 72, [.int .i64 0, .int .i64 0, .int .i64 0, .slice none 0 0, .slice none 0 0], true, .struct [(0, 1, 3), (1, 1, 3), (2, 1, 22), (3, 1, 23), (4, 1, 24)]⟩ := by kernel_rfl
theorem ty27 : tyS Tryd.prog 27 = some ⟨1, 8, [.nilFunc], false, .other⟩ := by kernel_rfl
theorem ty28 : tyS Tryd.prog 28 = some ⟨1, 8, [.nilFunc], false, .other⟩ := by kernel_rfl
theorem ty30 : tyS Tryd.prog 30 = some ⟨1, 8, [.nilFunc], false, .other⟩ := by kernel_rfl
theorem ty31 : tyS Tryd.prog 31 = some ⟨1, 8, [.nilFunc], false, .other⟩ := by kernel_rfl
theorem ty33 : tyS Tryd.prog 33 = some ⟨1, 8, [.nilFunc], false, .other⟩ := by kernel_rfl
theorem ty34 : tyS Tryd.prog 34 = some ⟨1, 8, [.nilFunc], false, .other⟩ := by kernel_rfl
theorem ty35 : tyS Tryd.prog 35 = some ⟨1, 8, [.nilFunc], false, .other⟩ := by kernel_rfl
theorem ty36 : tyS Tryd.prog 36 = some ⟨1, 8, [.nilFunc], false, .other⟩ := by kernel_rfl
theorem ty37 : tyS Tryd.prog 37 = some ⟨1, 8, [.nilFunc], false, .other⟩ := by kernel_rfl
theorem ty38 : tyS Tryd.prog 38 = some ⟨2, 16, [.int .i64 0, .int .i64 0], true, .struct [(0, 1, 3), (1, 1, 3)]⟩ := by kernel_rfl
theorem ty39 : tyS Tryd.prog 39 = some ⟨2, 16, [.int .i64 0, .int .i64 0], true, .struct [(0, 1, 3), (1, 1, 3)]⟩ := by kernel_rfl
theorem ty40 : tyS Tryd.prog 40 = some ⟨1, 8, [.nilFunc], false, .other⟩ := by kernel_rfl
theorem ty41 : tyS Tryd.prog 41 = some ⟨1, 8, [.nilFunc], false, .other⟩ := by kernel_rfl
theorem ty42 : tyS Tryd.prog 42 = some ⟨1, 8, [.nilFunc], false, .other⟩ := by kernel_rfl
theorem ty44 : tyS Tryd.prog 44 = some ⟨1, 8, [.nilFunc], false, .other⟩ := by kernel_rfl
theorem ty45 : tyS Tryd.prog 45 = some ⟨1, 8, [.nilFunc], false, .other⟩ := by kernel_rfl
theorem ty46 : tyS Tryd.prog 46 = some ⟨1, 8, [.pointer none], false, .other⟩ := by kernel_rfl
theorem ty47 : tyS Tryd.prog 47 = some ⟨1, 24, [.slice none 0 0], false, .slice 58⟩ := by kernel_rfl
theorem ty48 : tyS Tryd.prog 48 = some ⟨1, 8, [.nilFunc], false, .other⟩ := by kernel_rfl
theorem ty49 : tyS Tryd.prog 49 = some ⟨4, 48, [.slice none 0 0, .int .i64 0, .int .i64 0, .int .i64 0], true, .struct [(0, 1, 47), (1, 1, 3), (2, 1, 3), (3, 1, 22)]⟩ := by kernel_rfl
theorem ty50 : tyS Tryd.prog 50 = some ⟨4, 48, [.slice none 0 0, .int .i64 0, .int .i64 0, .int .i64 0], true, .struct [(0, 1, 47), (1, 1, 3), (2, 1, 3), (3, 1, 22)]⟩ := by kernel_rfl
theorem ty51 : tyS Tryd.prog 51 = some ⟨1, 24, [.slice none 0 0], false, .slice 3⟩ := by kernel_rfl
theorem ty53 : tyS Tryd.prog 53 = some ⟨1, 8, [.nilFunc], false, .other⟩ := by kernel_rfl
theorem ty54 : tyS Tryd.prog 54 = some ⟨1, 8, [.nilFunc], false, .other⟩ := by kernel_rfl
theorem ty55 : tyS Tryd.prog 55 = some ⟨1, 8, [.nilFunc], false, .other⟩ := by kernel_rfl
theorem ty57 : tyS Tryd.prog 57 = some ⟨1, 8, [.nilFunc], false, .other⟩ := by kernel_rfl
theorem ty58 : tyS Tryd.prog 58 = some ⟨1, 24, [.slice none 0 0], false, .slice 61⟩ := by kernel_rfl
theorem ty59 : tyS Tryd.prog 59 = some ⟨1, 8, [.nilFunc], false, .other⟩ := by kernel_rfl
theorem ty60 : tyS Tryd.prog 60 = some ⟨3, 32, [.int .i64 0, .int .i64 0, .string ⟨#[]⟩], true, .struct [(0, 1, 3), (1, 1, 3), (2, 1, 9)]⟩ := by kernel_rfl
theorem ty61 : tyS Tryd.prog 61 = some ⟨3, 32, [.int .i64 0, .int .i64 0, .string ⟨#[]⟩], true, .struct [(0, 1, 3), (1, 1, 3), (2, 1, 9)]⟩ := by kernel_rfl
theorem ty62 : tyS Tryd.prog 62 = some ⟨1, 8, [.nilFunc], false, .other⟩ := by kernel_rfl
theorem ty63 : tyS Tryd.prog 63 = some ⟨1, 8, [.nilFunc], false, .other⟩ := by kernel_rfl
theorem ty64 : tyS Tryd.prog 64 = some ⟨4, 64, [.int .i64 0, .int .i64 0, .slice none 0 0, .slice none 0 0], true, .struct [(0, 1, 3), (1, 1, 3), (2, 1, 51), (3, 1, 51)]⟩ := by kernel_rfl
theorem ty65 : tyS Tryd.prog 65 = some ⟨4, 64, [.int .i64 0, .int .i64 0, .slice none 0 0, .slice none 0 0], true, .struct [(0, 1, 3), (1, 1, 3), (2, 1, 51), (3, 1, 51)]⟩ := by kernel_rfl
theorem ty66 : tyS Tryd.prog 66 = some ⟨1, 24, [.slice none 0 0], false, .slice 9⟩ := by kernel_rfl
theorem ty67 : tyS Tryd.prog 67 = some ⟨1, 8, [.nilFunc], false, .other⟩ := by kernel_rfl
theorem ty68 : tyS Tryd.prog 68 = some ⟨1, 24, [.slice none 0 0], false, .slice 5⟩ := by kernel_rfl
theorem ty69 : tyS Tryd.prog 69 = some ⟨4, 64, [.int .i64 0, .int .i64 0, .slice none 0 0, .slice none 0 0], true, .struct [(0, 1, 3), (1, 1, 3), (2, 1, 51), (3, 1, 51)]⟩ := by kernel_rfl
theorem ty70 : tyS Tryd.prog 70 = some ⟨1, 8, [.nilFunc], false, .other⟩ := by kernel_rfl
theorem ty71 : tyS Tryd.prog 71 = some ⟨1, 8, [.nilFunc], false, .other⟩ := by kernel_rfl
theorem ty72 : tyS Tryd.prog 72 = some ⟨1, 8, [.nilFunc], false, .other⟩ := by kernel_rfl
theorem ty73 : tyS Tryd.prog 73 = some ⟨1, 8, [.map none], false, .other⟩ := by kernel_rfl
theorem ty74 : tyS Tryd.prog 74 = some ⟨1, 8, [.nilFunc], false, .other⟩ := by kernel_rfl
theorem ty75 : tyS Tryd.prog 75 = some ⟨1, 8, [.nilFunc], false, .other⟩ := by kernel_rfl
theorem ty77 : tyS Tryd.prog 77 = some ⟨1, 8, [.nilFunc], false, .other⟩ := by kernel_rfl
theorem ty78 : tyS Tryd.prog 78 = some ⟨1, 8, [.nilFunc], false, .other⟩ := by kernel_rfl
theorem ty79 : tyS Tryd.prog 79 = some ⟨1, 8, [.nilFunc], false, .other⟩ := by kernel_rfl
theorem ty80 : tyS Tryd.prog 80 = some ⟨1, 8, [.nilFunc], false, .other⟩ := by kernel_rfl
theorem ty81 : tyS Tryd.prog 81 = some ⟨1, 8, [.pointer none], false, .other⟩ := by kernel_rfl
theorem ty82 : tyS Tryd.prog 82 = some ⟨3, 40, [.slice none 0 0, .int .i64 0, .int .i64 0], true, .struct [(0, 1, 58), (1, 1, 3), (2, 1, 22)]⟩ := by kernel_rfl
theorem ty83 : tyS Tryd.prog 83 = some ⟨3, 40, [.slice none 0 0, .int .i64 0, .int .i64 0], true, .struct [(0, 1, 58), (1, 1, 3), (2, 1, 22)]⟩ := by kernel_rfl
theorem ty84 : tyS Tryd.prog 84 = some ⟨1, 8, [.nilFunc], false, .other⟩ := by kernel_rfl
theorem ty85 : tyS Tryd.prog 85 = some ⟨1, 8, [.nilFunc], false, .other⟩ := by kernel_rfl
theorem ty86 : tyS Tryd.prog 86 = some ⟨1, 8, [.nilFunc], false, .other⟩ := by kernel_rfl
theorem ty87 : tyS Tryd.prog 87 = some ⟨1, 8, [.nilFunc], false, .other⟩ := by kernel_rfl
theorem ty88 : tyS Tryd.prog 88 = some ⟨1, 8, [.nilFunc], false, .other⟩ := by kernel_rfl
theorem ty89 : tyS Tryd.prog 89 = some ⟨1, 8, [.nilFunc], false, .other⟩ := by kernel_rfl
theorem ty90 : tyS Tryd.prog 90 = some ⟨1, 8, [.nilFunc], false, .other⟩ := by kernel_rfl
theorem ty91 : tyS Tryd.prog 91 = some ⟨1, 8, [.nilFunc], false, .other⟩ := by kernel_rfl
theorem ty92 : tyS Tryd.prog 92 = some ⟨1, 8, [.nilFunc], false, .other⟩ := by kernel_rfl
theorem ty93 : tyS Tryd.prog 93 = some ⟨1, 8, [.nilFunc], false, .other⟩ := by kernel_rfl
theorem ty94 : tyS Tryd.prog 94 = some ⟨1, 8, [.nilFunc], false, .other⟩ := by kernel_rfl
theorem ty96 : tyS Tryd.prog 96 = some ⟨1, 8, [.nilFunc], false, .other⟩ := by kernel_rfl
theorem ty98 : tyS Tryd.prog 98 = some ⟨1, 8, [.nilFunc], false, .other⟩ := by kernel_rfl
theorem ty99 : tyS Tryd.prog 99 = some ⟨1, 8, [.nilFunc], false, .other⟩ := by kernel_rfl
theorem ty100 : tyS Tryd.prog 100 = some ⟨1, 8, [.nilFunc], false, .other⟩ := by kernel_rfl
theorem ty101 : tyS Tryd.prog 101 = some ⟨1, 8, [.nilFunc], false, .other⟩ := by kernel_rfl
theorem ty102 : tyS Tryd.prog 102 = some ⟨1, 8, [.nilFunc], false, .other⟩ := by kernel_rfl
theorem ty103 : tyS Tryd.prog 103 = some ⟨1, 8, [.nilFunc], false, .other⟩ := by kernel_rfl
theorem ty104 : tyS Tryd.prog 104 = some ⟨1, 8, [.nilFunc], false, .other⟩ := by kernel_rfl
theorem ty105 : tyS Tryd.prog 105 = some ⟨1, 8, [.nilFunc], false, .other⟩ := by kernel_rfl
theorem ty106 : tyS Tryd.prog 106 = some ⟨1, 8, [.nilFunc], false, .other⟩ := by kernel_rfl
theorem ty107 : tyS Tryd.prog 107 = some ⟨1, 8, [.nilFunc], false, .other⟩ := by kernel_rfl
theorem ty108 : tyS Tryd.prog 108 = some ⟨1, 8, [.nilFunc], false, .other⟩ := by kernel_rfl
theorem ty109 : tyS Tryd.prog 109 = some ⟨1, 8, [.int .i64 0], false, .int .i64⟩ := by kernel_rfl
theorem ty110 : tyS Tryd.prog 110 = some ⟨1, 8, [.nilFunc], false, .other⟩ := by kernel_rfl
theorem ty111 : tyS Tryd.prog 111 = some ⟨1, 8, [.nilFunc], false, .other⟩ := by kernel_rfl
theorem ty112 : tyS Tryd.prog 112 = some ⟨1, 8, [.int .u64 0], false, .int .u64⟩ := by kernel_rfl
theorem ty114 : tyS Tryd.prog 114 = some ⟨1, 8, [.nilFunc], false, .other⟩ := by kernel_rfl
theorem ty115 : tyS Tryd.prog 115 = some ⟨1, 8, [.int .u64 0], false, .int .u64⟩ := by kernel_rfl
theorem ty116 : tyS Tryd.prog 116 = some ⟨1, 8, [.nilFunc], false, .other⟩ := by kernel_rfl
theorem ty117 : tyS Tryd.prog 117 = some ⟨24, 24, [.int .u8 0, .int .u8 0, .int .u8 0, .int .u8 0, .int .u8 0, .int .u8 0, .int .u8 0, .int .u8 0, .int .u8 0, .int .u8 0, .int .u8 0, .int .u8 0, .int .u8 0, .int .u8 0, .int .u8 0, .int .u8 0, .int .u8 0, .int .u8 0, .int .u8 0, .int .u8 0, .int .u8 0, .int .u8 0, .int .u8 0, .int .u8 0], true, .array 24 5 1⟩ := by kernel_rfl
theorem ty118 : tyS Tryd.prog 118 = some ⟨1, 8, [.nilFunc], false, .other⟩ := by kernel_rfl
theorem ty119 : tyS Tryd.prog 119 = some ⟨1, 8, [.nilFunc], false, .other⟩ := by kernel_rfl
theorem ty121 : tyS Tryd.prog 121 = some ⟨1, 8, [.nilFunc], false, .other⟩ := by kernel_rfl
theorem ty122 : tyS Tryd.prog 122 = some ⟨1, 4, [.int .u32 0], false, .int .u32⟩ := by kernel_rfl
theorem ty124 : tyS Tryd.prog 124 = some ⟨1, 8, [.nilFunc], false, .other⟩ := by kernel_rfl
theorem ty126 : tyS Tryd.prog 126 = some ⟨1, 8, [.nilFunc], false, .other⟩ := by kernel_rfl
theorem ty127 : tyS Tryd.prog 127 = some ⟨1, 8, [.nilFunc], false, .other⟩ := by kernel_rfl
theorem ty128 : tyS Tryd.prog 128 = some ⟨20, 160, [.int .u64 0, .int .u64 0, .int .u64 0, .int .u64 0, .int .u64 0, .int .u64 0, .int .u64 0, .int .u64 0, .int .u64 0, .int .u64 0, .int .u64 0, .int .u64 0, .int .u64 0, .int .u64 0, .int .u64 0, .int .u64 0, .int .u64 0, .int .u64 0, .int .u64 0, .int .u64 0], true, .array 20 115 1⟩ := by kernel_rfl
theorem ty129 : tyS Tryd.prog 129 = some ⟨65, 65, [.int .u8 0, .int .u8 0, .int .u8 0, .int .u8 0, .int .u8 0, .int .u8 0, .int .u8 0, .int .u8 0, .int .u8 0, .int .u8 0, .int .u8 0, .int .u8 0, .int .u8 0, .int .u8 0, .int .u8 0, .int .u8 0, .int .u8 0, .int .u8 0, .int .u8 0, .int .u8 0, .int .u8 0, .int .u8 0, .int .u8 0, .int .u8 0, .int .u8 0, .int .u8 0, .int .u8 0, .int .u8 0, .int .u8 0, .int .u8 0, .int .u8 0, .int .u8 0, .int .u8 0, .int .u8 0, .int .u8 0, .int .u8 0, .int .u8 0, .int .u8 0, .int .u8 0, .int .u8 0, .int .u8 0, .int .u8 0, .int .u8 0, .int .u8 0, .int .u8 0, .int .u8 0, .int .u8 0, .int .u8 0, .int .u8 0, .int .u8 0, .int .u8 0, .int .u8 0, .int .u8 0, .int .u8 0, .int .u8 0, .int .u8 0, .int .u8 0, .int .u8 0, .int .u8 0, .int .u8 0, .int .u8 0, .int .u8 0, .int .u8 0, .int .u8 0, .int .u8 0], true, .array 65 5 1⟩ := by kernel_rfl
theorem ty130 : tyS Tryd.prog 130 = some ⟨1, 8, [.nilFunc], false, .other⟩ := by kernel_rfl
theorem ty131 : tyS Tryd.prog 131 = some ⟨1, 8, [.nilFunc], false, .other⟩ := by kernel_rfl
theorem ty132 : tyS Tryd.prog 132 = some ⟨32, 32, [.int .u8 0, .int .u8 0, .int .u8 0, .int .u8 0, .int .u8 0, .int .u8 0, .int .u8 0, .int .u8 0, .int .u8 0, .int .u8 0, .int .u8 0, .int .u8 0, .int .u8 0, .int .u8 0, .int .u8 0, .int .u8 0, .int .u8 0, .int .u8 0, .int .u8 0, .int .u8 0, .int .u8 0, .int .u8 0, .int .u8 0, .int .u8 0, .int .u8 0, .int .u8 0, .int .u8 0, .int .u8 0, .int .u8 0, .int .u8 0, .int .u8 0, .int .u8 0], true, .array 32 5 1⟩ := by kernel_rfl
theorem ty133 : tyS Tryd.prog 133 = some ⟨64, 64, [.int .u8 0, .int .u8 0, .int .u8 0, .int .u8 0, .int .u8 0, .int .u8 0, .int .u8 0, .int .u8 0, .int .u8 0, .int .u8 0, .int .u8 0, .int .u8 0, .int .u8 0, .int .u8 0, .int .u8 0, .int .u8 0, .int .u8 0, .int .u8 0, .int .u8 0, .int .u8 0, .int .u8 0, .int .u8 0, .int .u8 0, .int .u8 0, .int .u8 0, .int .u8 0, .int .u8 0, .int .u8 0, .int .u8 0, .int .u8 0, .int .u8 0, .int .u8 0, .int .u8 0, .int .u8 0, .int .u8 0, .int .u8 0, .int .u8 0, .int .u8 0, .int .u8 0, .int .u8 0, .int .u8 0, .int .u8 0, .int .u8 0, .int .u8 0, .int .u8 0, .int .u8 0, .int .u8 0, .int .u8 0, .int .u8 0, .int .u8 0, .int .u8 0, .int .u8 0, .int .u8 0, .int .u8 0, .int .u8 0, .int .u8 0, .int .u8 0, .int .u8 0, .int .u8 0, .int .u8 0, .int .u8 0, .int .u8 0, .int .u8 0, .int .u8 0], true, .array 64 5 1⟩ := by kernel_rfl
theorem ty134 : tyS Tryd.prog 134 = some ⟨1, 8, [.nilFunc], false, .other⟩ := by kernel_rfl
theorem ty135 : tyS Tryd.prog 135 = some ⟨4, 40, [.pointer none, .pointer none, .pointer none, .string ⟨#[]⟩], true, .struct [(0, 1, 17), (1, 1, 17), (2, 1, 17), (3, 1, 9)]⟩ := by kernel_rfl
theorem ty136 : tyS Tryd.prog 136 = some ⟨4, 40, [.pointer none, .pointer none, .pointer none, .string ⟨#[]⟩], true, .struct [(0, 1, 17), (1, 1, 17), (2, 1, 17), (3, 1, 9)]⟩ := by kernel_rfl
theorem ty137 : tyS Tryd.prog 137 = some ⟨0, 0, [], true, .array 0 16 1⟩ := by kernel_rfl
theorem ty138 : tyS Tryd.prog 138 = some ⟨0, 0, [], true, .struct [(0, 0, 137)]⟩ := by kernel_rfl
theorem ty139 : tyS Tryd.prog 139 = some ⟨0, 0, [], true, .struct [(0, 0, 137)]⟩ := by kernel_rfl
theorem ty140 : tyS Tryd.prog 140 = some ⟨1, 8, [.nilFunc], false, .other⟩ := by kernel_rfl
theorem ty141 : tyS Tryd.prog 141 = some ⟨1, 1, [.int .u8 0], false, .int .u8⟩ := by kernel_rfl
theorem ty142 : tyS Tryd.prog 142 = some ⟨1, 1, [.int .u8 0], false, .int .u8⟩ := by kernel_rfl
theorem ty143 : tyS Tryd.prog 143 = some ⟨1, 8, [.nilFunc], false, .other⟩ := by kernel_rfl
theorem ty144 : tyS Tryd.prog 144 = some ⟨1, 8, [.pointer none], false, .other⟩ := by kernel_rfl
theorem ty145 : tyS Tryd.prog 145 = some ⟨1, 4, [.int .i32 0], false, .int .i32⟩ := by kernel_rfl
theorem ty146 : tyS Tryd.prog 146 = some ⟨1, 4, [.int .i32 0], false, .int .i32⟩ := by kernel_rfl
theorem ty147 : tyS Tryd.prog 147 = some ⟨11, 48, [.int .u64 0, .int .u64 0, .int .u32 0, .int .u8 0, .int .u8 0, .int .u8 0, .int .u8 0, .nilFunc, .pointer none, .int .i32 0, .int .i32 0], true, .struct [(0, 1, 12), (1, 1, 12), (2, 1, 122), (3, 1, 141), (4, 1, 5), (5, 1, 5), (6, 1, 142), (7, 1, 143), (8, 1, 144), (9, 1, 145), (10, 1, 146)]⟩ := by kernel_rfl
theorem ty148 : tyS Tryd.prog 148 = some ⟨11, 48, [.int .u64 0, .int .u64 0, .int .u32 0, .int .u8 0, .int .u8 0, .int .u8 0, .int .u8 0, .nilFunc, .pointer none, .int .i32 0, .int .i32 0], true, .struct [(0, 1, 12), (1, 1, 12), (2, 1, 122), (3, 1, 141), (4, 1, 5), (5, 1, 5), (6, 1, 142), (7, 1, 143), (8, 1, 144), (9, 1, 145), (10, 1, 146)]⟩ := by kernel_rfl
def tab : Tab := [(1, ⟨1, 8, [.nilFunc], false, .other⟩),
  (2, ⟨1, 8, [.int .i64 0], false, .int .i64⟩),
  (3, ⟨1, 8, [.int .i64 0], false, .int .i64⟩),
  (4, ⟨1, 1, [.bool false], false, .bool⟩),
  (5, ⟨1, 1, [.int .u8 0], false, .int .u8⟩),
  (6, ⟨1, 1, [.int .u8 0], false, .int .u8⟩),
  (7, ⟨4, 24, [.int .i64 0, .int .i64 0, .bool false, .int .u8 0], true, .struct [(0, 1, 2), (1, 1, 3), (2, 1, 4), (3, 1, 6)]⟩),
  (8, ⟨4, 24, [.int .i64 0, .int .i64 0, .bool false, .int .u8 0], true, .struct [(0, 1, 2), (1, 1, 3), (2, 1, 4), (3, 1, 6)]⟩),
  (9, ⟨1, 16, [.string ⟨#[]⟩], false, .str⟩),
  (10, ⟨1, 16, [.string ⟨#[]⟩], false, .str⟩),
  (11, ⟨1, 16, [.string ⟨#[]⟩], false, .str⟩),
  (12, ⟨1, 8, [.int .u64 0], false, .int .u64⟩),
  (13, ⟨2, 24, [.string ⟨#[]⟩, .int .u64 0], true, .struct [(0, 1, 9), (1, 1, 12)]⟩),
  (14, ⟨2, 24, [.string ⟨#[]⟩, .int .u64 0], true, .struct [(0, 1, 9), (1, 1, 12)]⟩),
  (15, ⟨1, 8, [.pointer none], false, .other⟩),
  (16, ⟨1, 8, [.pointer none], false, .other⟩),
  (17, ⟨1, 8, [.pointer none], false, .other⟩),
  (18, ⟨1, 8, [.pointer none], true, .struct [(0, 1, 17)]⟩),
  (19, ⟨1, 8, [.pointer none], true, .struct [(0, 1, 17)]⟩),
  (21, ⟨1, 4, [.int .i32 0], false, .int .i32⟩),
  (22, ⟨1, 8, [.int .i64 0], false, .int .i64⟩),
  (23, ⟨1, 24, [.slice none 0 0], false, .slice 39⟩),
  (24, ⟨1, 24, [.slice none 0 0], false, .slice 65⟩),
  (25, ⟨5, 72, [.int .i64 0, .int .i64 0, .int .i64 0, .slice none 0 0, .slice none 0 0], true, .struct [(0, 1, 3), (1, 1, 3), (2, 1, 22), (3, 1, 23), (4, 1, 24)]⟩),
  (26, ⟨5, 72, [.int .i64 0, .int .i64 0, .int .i64 0, .slice none 0 0, .slice none 0 0], true, .struct [(0, 1, 3), (1, 1, 3), (2, 1, 22), (3, 1, 23), (4, 1, 24)]⟩),
  (27, ⟨1, 8, [.nilFunc], false, .other⟩),
  (28, ⟨1, 8, [.nilFunc], false, .other⟩),
  (30, ⟨1, 8, [.nilFunc], false, .other⟩),
  (31, ⟨1, 8, [.nilFunc], false, .other⟩),
  (33, ⟨1, 8, [.nilFunc], false, .other⟩),
  (34, ⟨1, 8, [.nilFunc], false, .other⟩),
  (35, ⟨1, 8, [.nilFunc], false, .other⟩),
  (36, ⟨1, 8, [.nilFunc], false, .other⟩),
  (37, ⟨1, 8, [.nilFunc], false, .other⟩),
  (38, ⟨2, 16, [.int .i64 0, .int .i64 0], true, .struct [(0, 1, 3), (1, 1, 3)]⟩),
  (39, ⟨2, 16, [.int .i64 0, .int .i64 0], true, .struct [(0, 1, 3), (1, 1, 3)]⟩),
  (40, ⟨1, 8, [.nilFunc], false, .other⟩),
  (41, ⟨1, 8, [.nilFunc], false, .other⟩),
  (42, ⟨1, 8, [.nilFunc], false, .other⟩),
  (44, ⟨1, 8, [.nilFunc], false, .other⟩),
  (45, ⟨1, 8, [.nilFunc], false, .other⟩),
  (46, ⟨1, 8, [.pointer none], false, .other⟩),
  (47, ⟨1, 24, [.slice none 0 0], false, .slice 58⟩),
  (48, ⟨1, 8, [.nilFunc], false, .other⟩),
  (49, ⟨4, 48, [.slice none 0 0, .int .i64 0, .int .i64 0, .int .i64 0], true, .struct [(0, 1, 47), (1, 1, 3), (2, 1, 3), (3, 1, 22)]⟩),
  (50, ⟨4, 48, [.slice none 0 0, .int .i64 0, .int .i64 0, .int .i64 0], true, .struct [(0, 1, 47), (1, 1, 3), (2, 1, 3), (3, 1, 22)]⟩),
  (51, ⟨1, 24, [.slice none 0 0], false, .slice 3⟩),
  (53, ⟨1, 8, [.nilFunc], false, .other⟩),
  (54, ⟨1, 8, [.nilFunc], false, .other⟩),
  (55, ⟨1, 8, [.nilFunc], false, .other⟩),
  (57, ⟨1, 8, [.nilFunc], false, .other⟩),
  (58, ⟨1, 24, [.slice none 0 0], false, .slice 61⟩),
  (59, ⟨1, 8, [.nilFunc], false, .other⟩),
  (60, ⟨3, 32, [.int .i64 0, .int .i64 0, .string ⟨#[]⟩], true, .struct [(0, 1, 3), (1, 1, 3), (2, 1, 9)]⟩),
  (61, ⟨3, 32, [.int .i64 0, .int .i64 0, .string ⟨#[]⟩], true, .struct [(0, 1, 3), (1, 1, 3), (2, 1, 9)]⟩),
  (62, ⟨1, 8, [.nilFunc], false, .other⟩),
  (63, ⟨1, 8, [.nilFunc], false, .other⟩),
  (64, ⟨4, 64, [.int .i64 0, .int .i64 0, .slice none 0 0, .slice none 0 0], true, .struct [(0, 1, 3), (1, 1, 3), (2, 1, 51), (3, 1, 51)]⟩),
  (65, ⟨4, 64, [.int .i64 0, .int .i64 0, .slice none 0 0, .slice none 0 0], true, .struct [(0, 1, 3), (1, 1, 3), (2, 1, 51), (3, 1, 51)]⟩),
  (66, ⟨1, 24, [.slice none 0 0], false, .slice 9⟩),
  (67, ⟨1, 8, [.nilFunc], false, .other⟩),
  (68, ⟨1, 24, [.slice none 0 0], false, .slice 5⟩),
  (69, ⟨4, 64, [.int .i64 0, .int .i64 0, .slice none 0 0, .slice none 0 0], true, .struct [(0, 1, 3), (1, 1, 3), (2, 1, 51), (3, 1, 51)]⟩),
  (70, ⟨1, 8, [.nilFunc], false, .other⟩),
  (71, ⟨1, 8, [.nilFunc], false, .other⟩),
  (72, ⟨1, 8, [.nilFunc], false, .other⟩),
  (73, ⟨1, 8, [.map none], false, .other⟩),
  (74, ⟨1, 8, [.nilFunc], false, .other⟩),
  (75, ⟨1, 8, [.nilFunc], false, .other⟩),
  (77, ⟨1, 8, [.nilFunc], false, .other⟩),
  (78, ⟨1, 8, [.nilFunc], false, .other⟩),
  (79, ⟨1, 8, [.nilFunc], false, .other⟩),
  (80, ⟨1, 8, [.nilFunc], false, .other⟩),
  (81, ⟨1, 8, [.pointer none], false, .other⟩),
  (82, ⟨3, 40, [.slice none 0 0, .int .i64 0, .int .i64 0], true, .struct [(0, 1, 58), (1, 1, 3), (2, 1, 22)]⟩),
  (83, ⟨3, 40, [.slice none 0 0, .int .i64 0, .int .i64 0], true, .struct [(0, 1, 58), (1, 1, 3), (2, 1, 22)]⟩),
  (84, ⟨1, 8, [.nilFunc], false, .other⟩),
  (85, ⟨1, 8, [.nilFunc], false, .other⟩),
  (86, ⟨1, 8, [.nilFunc], false, .other⟩),
  (87, ⟨1, 8, [.nilFunc], false, .other⟩),
  (88, ⟨1, 8, [.nilFunc], false, .other⟩),
  (89, ⟨1, 8, [.nilFunc], false, .other⟩),
  (90, ⟨1, 8, [.nilFunc], false, .other⟩),
  (91, ⟨1, 8, [.nilFunc], false, .other⟩),
  (92, ⟨1, 8, [.nilFunc], false, .other⟩),
  (93, ⟨1, 8, [.nilFunc], false, .other⟩),
  (94, ⟨1, 8, [.nilFunc], false, .other⟩),
  (96, ⟨1, 8, [.nilFunc], false, .other⟩),
  (98, ⟨1, 8, [.nilFunc], false, .other⟩),
  (99, ⟨1, 8, [.nilFunc], false, .other⟩),
  (100, ⟨1, 8, [.nilFunc], false, .other⟩),
  (101, ⟨1, 8, [.nilFunc], false, .other⟩),
  (102, ⟨1, 8, [.nilFunc], false, .other⟩),
  (103, ⟨1, 8, [.nilFunc], false, .other⟩),
  (104, ⟨1, 8, [.nilFunc], false, .other⟩),
  (105, ⟨1, 8, [.nilFunc], false, .other⟩),
  (106, ⟨1, 8, [.nilFunc], false, .other⟩),
  (107, ⟨1, 8, [.nilFunc], false, .other⟩),
  (108, ⟨1, 8, [.nilFunc], false, .other⟩),
  (109, ⟨1, 8, [.int .i64 0], false, .int .i64⟩),
  (110, ⟨1, 8, [.nilFunc], false, .other⟩),
  (111, ⟨1, 8, [.nilFunc], false, .other⟩),
  (112, ⟨1, 8, [.int .u64 0], false, .int .u64⟩),
  (114, ⟨1, 8, [.nilFunc], false, .other⟩),
  (115, ⟨1, 8, [.int .u64 0], false, .int .u64⟩),
  (116, ⟨1, 8, [.nilFunc], false, .other⟩),
  (117, ⟨24, 24, [.int .u8 0, .int .u8 0, .int .u8 0, .int .u8 0, .int .u8 0, .int .u8 0, .int .u8 0, .int .u8 0, .int .u8 0, .int .u8 0, .int .u8 0, .int .u8 0, .int .u8 0, .int .u8 0, .int .u8 0, .int .u8 0, .int .u8 0, .int .u8 0, .int .u8 0, .int .u8 0, .int .u8 0, .int .u8 0, .int .u8 0, .int .u8 0], true, .array 24 5 1⟩),
  (118, ⟨1, 8, [.nilFunc], false, .other⟩),
  (119, ⟨1, 8, [.nilFunc], false, .other⟩),
  (121, ⟨1, 8, [.nilFunc], false, .other⟩),
  (122, ⟨1, 4, [.int .u32 0], false, .int .u32⟩),
  (124, ⟨1, 8, [.nilFunc], false, .other⟩),
  (126, ⟨1, 8, [.nilFunc], false, .other⟩),
  (127, ⟨1, 8, [.nilFunc], false, .other⟩),
  (128, ⟨20, 160, [.int .u64 0, .int .u64 0, .int .u64 0, .int .u64 0, .int .u64 0, .int .u64 0, .int .u64 0, .int .u64 0, .int .u64 0, .int .u64 0, .int .u64 0, .int .u64 0, .int .u64 0, .int .u64 0, .int .u64 0, .int .u64 0, .int .u64 0, .int .u64 0, .int .u64 0, .int .u64 0], true, .array 20 115 1⟩),
  (129, ⟨65, 65, [.int .u8 0, .int .u8 0, .int .u8 0, .int .u8 0, .int .u8 0, .int .u8 0, .int .u8 0, .int .u8 0, .int .u8 0, .int .u8 0, .int .u8 0, .int .u8 0, .int .u8 0, .int .u8 0, .int .u8 0, .int .u8 0, .int .u8 0, .int .u8 0, .int .u8 0, .int .u8 0, .int .u8 0, .int .u8 0, .int .u8 0, .int .u8 0, .int .u8 0, .int .u8 0, .int .u8 0, .int .u8 0, .int .u8 0, .int .u8 0, .int .u8 0, .int .u8 0, .int .u8 0, .int .u8 0, .int .u8 0, .int .u8 0, .int .u8 0, .int .u8 0, .int .u8 0, .int .u8 0, .int .u8 0, .int .u8 0, .int .u8 0, .int .u8 0, .int .u8 0, .int .u8 0, .int .u8 0, .int .u8 0, .int .u8 0, .int .u8 0, .int .u8 0, .int .u8 0, .int .u8 0, .int .u8 0, .int .u8 0, .int .u8 0, .int .u8 0, .int .u8 0, .int .u8 0, .int .u8 0, .int .u8 0, .int .u8 0, .int .u8 0, .int .u8 0, .int .u8 0], true, .array 65 5 1⟩),
  (130, ⟨1, 8, [.nilFunc], false, .other⟩),
  (131, ⟨1, 8, [.nilFunc], false, .other⟩),
  (132, ⟨32, 32, [.int .u8 0, .int .u8 0, .int .u8 0, .int .u8 0, .int .u8 0, .int .u8 0, .int .u8 0, .int .u8 0, .int .u8 0, .int .u8 0, .int .u8 0, .int .u8 0, .int .u8 0, .int .u8 0, .int .u8 0, .int .u8 0, .int .u8 0, .int .u8 0, .int .u8 0, .int .u8 0, .int .u8 0, .int .u8 0, .int .u8 0, .int .u8 0, .int .u8 0, .int .u8 0, .int .u8 0, .int .u8 0, .int .u8 0, .int .u8 0, .int .u8 0, .int .u8 0], true, .array 32 5 1⟩),
  (133, ⟨64, 64, [.int .u8 0, .int .u8 0, .int .u8 0, .int .u8 0, .int .u8 0, .int .u8 0, .int .u8 0, .int .u8 0, .int .u8 0, .int .u8 0, .int .u8 0, .int .u8 0, .int .u8 0, .int .u8 0, .int .u8 0, .int .u8 0, .int .u8 0, .int .u8 0, .int .u8 0, .int .u8 0, .int .u8 0, .int .u8 0, .int .u8 0, .int .u8 0, .int .u8 0, .int .u8 0, .int .u8 0, .int .u8 0, .int .u8 0, .int .u8 0, .int .u8 0, .int .u8 0, .int .u8 0, .int .u8 0, .int .u8 0, .int .u8 0, .int .u8 0, .int .u8 0, .int .u8 0, .int .u8 0, .int .u8 0, .int .u8 0, .int .u8 0, .int .u8 0, .int .u8 0, .int .u8 0, .int .u8 0, .int .u8 0, .int .u8 0, .int .u8 0, .int .u8 0, .int .u8 0, .int .u8 0, .int .u8 0, .int .u8 0, .int .u8 0, .int .u8 0, .int .u8 0, .int .u8 0, .int .u8 0, .int .u8 0, .int .u8 0, .int .u8 0, .int .u8 0], true, .array 64 5 1⟩),
  (134, ⟨1, 8, [.nilFunc], false, .other⟩),
  (135, ⟨4, 40, [.pointer none, .pointer none, .pointer none, .string ⟨#[]⟩], true, .struct [(0, 1, 17), (1, 1, 17), (2, 1, 17), (3, 1, 9)]⟩),
  (136, ⟨4, 40, [.pointer none, .pointer none, .pointer none, .string ⟨#[]⟩], true, .struct [(0, 1, 17), (1, 1, 17), (2, 1, 17), (3, 1, 9)]⟩),
  (137, ⟨0, 0, [], true, .array 0 16 1⟩),
  (138, ⟨0, 0, [], true, .struct [(0, 0, 137)]⟩),
  (139, ⟨0, 0, [], true, .struct [(0, 0, 137)]⟩),
  (140, ⟨1, 8, [.nilFunc], false, .other⟩),
  (141, ⟨1, 1, [.int .u8 0], false, .int .u8⟩),
  (142, ⟨1, 1, [.int .u8 0], false, .int .u8⟩),
  (143, ⟨1, 8, [.nilFunc], false, .other⟩),
  (144, ⟨1, 8, [.pointer none], false, .other⟩),
  (145, ⟨1, 4, [.int .i32 0], false, .int .i32⟩),
  (146, ⟨1, 4, [.int .i32 0], false, .int .i32⟩),
  (147, ⟨11, 48, [.int .u64 0, .int .u64 0, .int .u32 0, .int .u8 0, .int .u8 0, .int .u8 0, .int .u8 0, .nilFunc, .pointer none, .int .i32 0, .int .i32 0], true, .struct [(0, 1, 12), (1, 1, 12), (2, 1, 122), (3, 1, 141), (4, 1, 5), (5, 1, 5), (6, 1, 142), (7, 1, 143), (8, 1, 144), (9, 1, 145), (10, 1, 146)]⟩),
  (148, ⟨11, 48, [.int .u64 0, .int .u64 0, .int .u32 0, .int .u8 0, .int .u8 0, .int .u8 0, .int .u8 0, .nilFunc, .pointer none, .int .i32 0, .int .i32 0], true, .struct [(0, 1, 12), (1, 1, 12), (2, 1, 122), (3, 1, 141), (4, 1, 5), (5, 1, 5), (6, 1, 142), (7, 1, 143), (8, 1, 144), (9, 1, 145), (10, 1, 146)]⟩)]
theorem T : TabOK Tryd.prog tab := TabOK.cons ty1 <| TabOK.cons ty2 <| TabOK.cons ty3 <| TabOK.cons ty4 <| TabOK.cons ty5 <| TabOK.cons ty6 <| TabOK.cons ty7 <| TabOK.cons ty8 <| TabOK.cons ty9 <| TabOK.cons ty10 <| TabOK.cons ty11 <| TabOK.cons ty12 <| TabOK.cons ty13 <| TabOK.cons ty14 <| TabOK.cons ty15 <| TabOK.cons ty16 <| TabOK.cons ty17 <| TabOK.cons ty18 <| TabOK.cons ty19 <| TabOK.cons ty21 <| TabOK.cons ty22 <| TabOK.cons ty23 <| TabOK.cons ty24 <| TabOK.cons ty25 <| TabOK.cons ty26 <| TabOK.cons ty27 <| TabOK.cons ty28 <| TabOK.cons ty30 <| TabOK.cons ty31 <| TabOK.cons ty33 <| TabOK.cons ty34 <| TabOK.cons ty35 <| TabOK.cons ty36 <| TabOK.cons ty37 <| TabOK.cons ty38 <| TabOK.cons ty39 <| TabOK.cons ty40 <| TabOK.cons ty41 <| TabOK.cons ty42 <| TabOK.cons ty44 <| TabOK.cons ty45 <| TabOK.cons ty46 <| TabOK.cons ty47 <| TabOK.cons ty48 <| TabOK.cons ty49 <| TabOK.cons ty50 <| TabOK.cons ty51 <| TabOK.cons ty53 <| TabOK.cons ty54 <| TabOK.cons ty55 <| TabOK.cons ty57 <| TabOK.cons ty58 <| TabOK.cons ty59 <| TabOK.cons ty60 <| TabOK.cons ty61 <| TabOK.cons ty62 <| TabOK.cons ty63 <| TabOK.cons ty64 <| TabOK.cons ty65 <| TabOK.cons ty66 <| TabOK.cons ty67 <| TabOK.cons ty68 <| TabOK.cons ty69 <| TabOK.cons ty70 <| TabOK.cons ty71 <| TabOK.cons ty72 <| TabOK.cons ty73 <| TabOK.cons ty74 <| TabOK.cons ty75 <| TabOK.cons ty77 <| TabOK.cons ty78 <| TabOK.cons ty79 <| TabOK.cons ty80 <| TabOK.cons ty81 <| TabOK.cons ty82 <| TabOK.cons ty83 <| TabOK.cons ty84 <| TabOK.cons ty85 <| TabOK.cons ty86 <| TabOK.cons ty87 <| TabOK.cons ty88 <| TabOK.cons ty89 <| TabOK.cons ty90 <| TabOK.cons ty91 <| TabOK.cons ty92 <| TabOK.cons ty93 <| TabOK.cons ty94 <| TabOK.cons ty96 <| TabOK.cons ty98 <| TabOK.cons ty99 <| TabOK.cons ty100 <| TabOK.cons ty101 <| TabOK.cons ty102 <| TabOK.cons ty103 <| TabOK.cons ty104 <| TabOK.cons ty105 <| TabOK.cons ty106 <| TabOK.cons ty107 <| TabOK.cons ty108 <| TabOK.cons ty109 <| TabOK.cons ty110 <| TabOK.cons ty111 <| TabOK.cons ty112 <| TabOK.cons ty114 <| TabOK.cons ty115 <| TabOK.cons ty116 <| TabOK.cons ty117 <| TabOK.cons ty118 <| TabOK.cons ty119 <| TabOK.cons ty121 <| TabOK.cons ty122 <| TabOK.cons ty124 <| TabOK.cons ty126 <| TabOK.cons ty127 <| TabOK.cons ty128 <| TabOK.cons ty129 <| TabOK.cons ty130 <| TabOK.cons ty131 <| TabOK.cons ty132 <| TabOK.cons ty133 <| TabOK.cons ty134 <| TabOK.cons ty135 <| TabOK.cons ty136 <| TabOK.cons ty137 <| TabOK.cons ty138 <| TabOK.cons ty139 <| TabOK.cons ty140 <| TabOK.cons ty141 <| TabOK.cons ty142 <| TabOK.cons ty143 <| TabOK.cons ty144 <| TabOK.cons ty145 <| TabOK.cons ty146 <| TabOK.cons ty147 <| TabOK.cons ty148 <| TabOK.nil _
theorem mixed : Tryd.prog.follows .mixedOrders = true := by kernel_rfl
end Go.Proofs.YtkgcdoeldilhaaaDoor
