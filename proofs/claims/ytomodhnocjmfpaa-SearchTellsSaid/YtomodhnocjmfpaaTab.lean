/- The table of the types, read off the program. No condition. -/
import Derived.Test.YtomodhnocjmfpaaProg
import Derived.Test.YtomodhnocjmfpaaSw
import Derived.KernelRfl
namespace Go.Proofs.Ytomodhnocjmfpaa
open Go Go.Sv
theorem ty1 : tyS Try.prog 1 = some ⟨1, 8, [.nilFunc], false, .other⟩ := by kernel_rfl
theorem ty2 : tyS Try.prog 2 = some ⟨1, 8, [.int .i64 0], false, .int .i64⟩ := by kernel_rfl
theorem ty3 : tyS Try.prog 3 = some ⟨1, 8, [.int .i64 0], false, .int .i64⟩ := by kernel_rfl
theorem ty4 : tyS Try.prog 4 = some ⟨1, 1, [.bool false], false, .bool⟩ := by kernel_rfl
theorem ty5 : tyS Try.prog 5 = some ⟨1, 1, [.int .u8 0], false, .int .u8⟩ := by kernel_rfl
theorem ty6 : tyS Try.prog 6 = some ⟨1, 1, [.int .u8 0], false, .int .u8⟩ := by kernel_rfl
theorem ty7 : tyS Try.prog 7 = some ⟨4, 24, [.int .i64 0, .int .i64 0, .bool false, .int .u8 0], true, .struct [(0, 1, 2), (1, 1, 3), (2, 1, 4), (3, 1, 6)]⟩ := by kernel_rfl
theorem ty8 : tyS Try.prog 8 = some ⟨4, 24, [.int .i64 0, .int .i64 0, .bool false, .int .u8 0], true, .struct [(0, 1, 2), (1, 1, 3), (2, 1, 4), (3, 1, 6)]⟩ := by kernel_rfl
theorem ty9 : tyS Try.prog 9 = some ⟨1, 16, [.string ⟨#[]⟩], false, .str⟩ := by kernel_rfl
theorem ty10 : tyS Try.prog 10 = some ⟨1, 16, [.string ⟨#[]⟩], false, .str⟩ := by kernel_rfl
theorem ty11 : tyS Try.prog 11 = some ⟨1, 16, [.string ⟨#[]⟩], false, .str⟩ := by kernel_rfl
theorem ty12 : tyS Try.prog 12 = some ⟨1, 8, [.int .u64 0], false, .int .u64⟩ := by kernel_rfl
theorem ty13 : tyS Try.prog 13 = some ⟨2, 24, [.string ⟨#[]⟩, .int .u64 0], true, .struct [(0, 1, 9), (1, 1, 12)]⟩ := by kernel_rfl
theorem ty14 : tyS Try.prog 14 = some ⟨2, 24, [.string ⟨#[]⟩, .int .u64 0], true, .struct [(0, 1, 9), (1, 1, 12)]⟩ := by kernel_rfl
theorem ty15 : tyS Try.prog 15 = some ⟨1, 8, [.pointer none], false, .other⟩ := by kernel_rfl
theorem ty16 : tyS Try.prog 16 = some ⟨1, 8, [.pointer none], false, .other⟩ := by kernel_rfl
theorem ty17 : tyS Try.prog 17 = some ⟨1, 8, [.pointer none], false, .other⟩ := by kernel_rfl
theorem ty18 : tyS Try.prog 18 = some ⟨1, 8, [.pointer none], true, .struct [(0, 1, 17)]⟩ := by kernel_rfl
theorem ty19 : tyS Try.prog 19 = some ⟨1, 8, [.pointer none], true, .struct [(0, 1, 17)]⟩ := by kernel_rfl
theorem ty21 : tyS Try.prog 21 = some ⟨1, 4, [.int .i32 0], false, .int .i32⟩ := by kernel_rfl
theorem ty22 : tyS Try.prog 22 = some ⟨1, 24, [.slice none 0 0], false, .slice 67⟩ := by kernel_rfl
theorem ty23 : tyS Try.prog 23 = some ⟨4, 48, [.int .i64 0, .int .i64 0, .int .i64 0, .slice none 0 0], true, .struct [(0, 1, 3), (1, 1, 3), (2, 1, 3), (3, 1, 22)]⟩ := by kernel_rfl
theorem ty24 : tyS Try.prog 24 = some ⟨4, 48, [.int .i64 0, .int .i64 0, .int .i64 0, .slice none 0 0], true, .struct [(0, 1, 3), (1, 1, 3), (2, 1, 3), (3, 1, 22)]⟩ := by kernel_rfl
theorem ty25 : tyS Try.prog 25 = some ⟨1, 24, [.slice none 0 0], false, .slice 45⟩ := by kernel_rfl
theorem ty26 : tyS Try.prog 26 = some ⟨1, 8, [.nilFunc], false, .other⟩ := by kernel_rfl
theorem ty27 : tyS Try.prog 27 = some ⟨1, 8, [.nilFunc], false, .other⟩ := by kernel_rfl
theorem ty28 : tyS Try.prog 28 = some ⟨1, 24, [.slice none 0 0], false, .slice 51⟩ := by kernel_rfl
theorem ty29 : tyS Try.prog 29 = some ⟨1, 8, [.int .i64 0], false, .int .i64⟩ := by kernel_rfl
theorem ty31 : tyS Try.prog 31 = some ⟨1, 8, [.nilFunc], false, .other⟩ := by kernel_rfl
theorem ty33 : tyS Try.prog 33 = some ⟨1, 8, [.nilFunc], false, .other⟩ := by kernel_rfl
theorem ty35 : tyS Try.prog 35 = some ⟨1, 8, [.nilFunc], false, .other⟩ := by kernel_rfl
theorem ty36 : tyS Try.prog 36 = some ⟨1, 8, [.nilFunc], false, .other⟩ := by kernel_rfl
theorem ty37 : tyS Try.prog 37 = some ⟨1, 24, [.slice none 0 0], false, .slice 28⟩ := by kernel_rfl
theorem ty38 : tyS Try.prog 38 = some ⟨1, 8, [.nilFunc], false, .other⟩ := by kernel_rfl
theorem ty40 : tyS Try.prog 40 = some ⟨1, 8, [.nilFunc], false, .other⟩ := by kernel_rfl
theorem ty41 : tyS Try.prog 41 = some ⟨1, 8, [.nilFunc], false, .other⟩ := by kernel_rfl
theorem ty42 : tyS Try.prog 42 = some ⟨1, 8, [.nilFunc], false, .other⟩ := by kernel_rfl
theorem ty43 : tyS Try.prog 43 = some ⟨1, 8, [.nilFunc], false, .other⟩ := by kernel_rfl
theorem ty44 : tyS Try.prog 44 = some ⟨5, 40, [.int .i64 0, .int .i64 0, .int .i64 0, .int .i64 0, .int .i64 0], true, .struct [(0, 1, 3), (1, 1, 3), (2, 1, 3), (3, 1, 3), (4, 1, 3)]⟩ := by kernel_rfl
theorem ty45 : tyS Try.prog 45 = some ⟨5, 40, [.int .i64 0, .int .i64 0, .int .i64 0, .int .i64 0, .int .i64 0], true, .struct [(0, 1, 3), (1, 1, 3), (2, 1, 3), (3, 1, 3), (4, 1, 3)]⟩ := by kernel_rfl
theorem ty46 : tyS Try.prog 46 = some ⟨1, 8, [.nilFunc], false, .other⟩ := by kernel_rfl
theorem ty47 : tyS Try.prog 47 = some ⟨1, 8, [.nilFunc], false, .other⟩ := by kernel_rfl
theorem ty48 : tyS Try.prog 48 = some ⟨1, 8, [.nilFunc], false, .other⟩ := by kernel_rfl
theorem ty49 : tyS Try.prog 49 = some ⟨1, 8, [.nilFunc], false, .other⟩ := by kernel_rfl
theorem ty50 : tyS Try.prog 50 = some ⟨2, 16, [.int .i64 0, .int .i64 0], true, .struct [(0, 1, 3), (1, 1, 3)]⟩ := by kernel_rfl
theorem ty51 : tyS Try.prog 51 = some ⟨2, 16, [.int .i64 0, .int .i64 0], true, .struct [(0, 1, 3), (1, 1, 3)]⟩ := by kernel_rfl
theorem ty52 : tyS Try.prog 52 = some ⟨1, 8, [.nilFunc], false, .other⟩ := by kernel_rfl
theorem ty53 : tyS Try.prog 53 = some ⟨1, 8, [.pointer none], false, .other⟩ := by kernel_rfl
theorem ty54 : tyS Try.prog 54 = some ⟨1, 8, [.nilFunc], false, .other⟩ := by kernel_rfl
theorem ty55 : tyS Try.prog 55 = some ⟨1, 8, [.nilFunc], false, .other⟩ := by kernel_rfl
theorem ty56 : tyS Try.prog 56 = some ⟨1, 8, [.nilFunc], false, .other⟩ := by kernel_rfl
theorem ty58 : tyS Try.prog 58 = some ⟨1, 8, [.nilFunc], false, .other⟩ := by kernel_rfl
theorem ty59 : tyS Try.prog 59 = some ⟨1, 8, [.nilFunc], false, .other⟩ := by kernel_rfl
theorem ty60 : tyS Try.prog 60 = some ⟨1, 24, [.slice none 0 0], false, .slice 64⟩ := by kernel_rfl
theorem ty61 : tyS Try.prog 61 = some ⟨1, 8, [.nilFunc], false, .other⟩ := by kernel_rfl
theorem ty63 : tyS Try.prog 63 = some ⟨1, 8, [.nilFunc], false, .other⟩ := by kernel_rfl
theorem ty64 : tyS Try.prog 64 = some ⟨1, 24, [.slice none 0 0], false, .slice 3⟩ := by kernel_rfl
theorem ty65 : tyS Try.prog 65 = some ⟨1, 8, [.nilFunc], false, .other⟩ := by kernel_rfl
theorem ty66 : tyS Try.prog 66 = some ⟨4, 32, [.int .i64 0, .int .i64 0, .int .i64 0, .int .i64 0], true, .struct [(0, 1, 3), (1, 1, 3), (2, 1, 3), (3, 1, 3)]⟩ := by kernel_rfl
theorem ty67 : tyS Try.prog 67 = some ⟨4, 32, [.int .i64 0, .int .i64 0, .int .i64 0, .int .i64 0], true, .struct [(0, 1, 3), (1, 1, 3), (2, 1, 3), (3, 1, 3)]⟩ := by kernel_rfl
theorem ty68 : tyS Try.prog 68 = some ⟨1, 24, [.slice none 0 0], false, .slice 4⟩ := by kernel_rfl
theorem ty69 : tyS Try.prog 69 = some ⟨1, 8, [.nilFunc], false, .other⟩ := by kernel_rfl
theorem ty70 : tyS Try.prog 70 = some ⟨1, 8, [.nilFunc], false, .other⟩ := by kernel_rfl
theorem ty72 : tyS Try.prog 72 = some ⟨1, 8, [.nilFunc], false, .other⟩ := by kernel_rfl
theorem ty73 : tyS Try.prog 73 = some ⟨1, 8, [.nilFunc], false, .other⟩ := by kernel_rfl
theorem ty74 : tyS Try.prog 74 = some ⟨1, 8, [.map none], false, .other⟩ := by kernel_rfl
theorem ty75 : tyS Try.prog 75 = some ⟨7, 104, [.int .i64 0, .int .i64 0, .int .i64 0, .slice none 0 0, .slice none 0 0, .slice none 0 0, .map none], true, .struct [(0, 4, 24), (4, 1, 25), (5, 1, 68), (6, 1, 74)]⟩ := by kernel_rfl
theorem ty76 : tyS Try.prog 76 = some ⟨7, 104, [.int .i64 0, .int .i64 0, .int .i64 0, .slice none 0 0, .slice none 0 0, .slice none 0 0, .map none], true, .struct [(0, 4, 24), (4, 1, 25), (5, 1, 68), (6, 1, 74)]⟩ := by kernel_rfl
theorem ty77 : tyS Try.prog 77 = some ⟨1, 4, [.int .u32 0], false, .int .u32⟩ := by kernel_rfl
theorem ty78 : tyS Try.prog 78 = some ⟨2, 16, [.int .u32 0, .int .i64 0], true, .struct [(0, 1, 77), (1, 1, 3)]⟩ := by kernel_rfl
theorem ty79 : tyS Try.prog 79 = some ⟨2, 16, [.int .u32 0, .int .i64 0], true, .struct [(0, 1, 77), (1, 1, 3)]⟩ := by kernel_rfl
theorem ty80 : tyS Try.prog 80 = some ⟨1, 8, [.nilFunc], false, .other⟩ := by kernel_rfl
theorem ty81 : tyS Try.prog 81 = some ⟨1, 8, [.nilFunc], false, .other⟩ := by kernel_rfl
theorem ty82 : tyS Try.prog 82 = some ⟨1, 8, [.nilFunc], false, .other⟩ := by kernel_rfl
theorem ty83 : tyS Try.prog 83 = some ⟨1, 8, [.nilFunc], false, .other⟩ := by kernel_rfl
theorem ty85 : tyS Try.prog 85 = some ⟨1, 8, [.nilFunc], false, .other⟩ := by kernel_rfl
theorem ty86 : tyS Try.prog 86 = some ⟨1, 8, [.nilFunc], false, .other⟩ := by kernel_rfl
theorem ty88 : tyS Try.prog 88 = some ⟨1, 8, [.nilFunc], false, .other⟩ := by kernel_rfl
theorem ty89 : tyS Try.prog 89 = some ⟨1, 8, [.nilFunc], false, .other⟩ := by kernel_rfl
theorem ty90 : tyS Try.prog 90 = some ⟨1, 8, [.nilFunc], false, .other⟩ := by kernel_rfl
theorem ty91 : tyS Try.prog 91 = some ⟨1, 8, [.nilFunc], false, .other⟩ := by kernel_rfl
theorem ty92 : tyS Try.prog 92 = some ⟨1, 8, [.nilFunc], false, .other⟩ := by kernel_rfl
theorem ty93 : tyS Try.prog 93 = some ⟨1, 8, [.nilFunc], false, .other⟩ := by kernel_rfl
theorem ty94 : tyS Try.prog 94 = some ⟨1, 8, [.nilFunc], false, .other⟩ := by kernel_rfl
theorem ty95 : tyS Try.prog 95 = some ⟨1, 8, [.nilFunc], false, .other⟩ := by kernel_rfl
theorem ty96 : tyS Try.prog 96 = some ⟨1, 8, [.map none], false, .other⟩ := by kernel_rfl
theorem ty97 : tyS Try.prog 97 = some ⟨1, 8, [.map none], false, .other⟩ := by kernel_rfl
theorem ty98 : tyS Try.prog 98 = some ⟨1, 8, [.nilFunc], false, .other⟩ := by kernel_rfl
theorem ty100 : tyS Try.prog 100 = some ⟨1, 8, [.nilFunc], false, .other⟩ := by kernel_rfl
theorem ty101 : tyS Try.prog 101 = some ⟨1, 8, [.nilFunc], false, .other⟩ := by kernel_rfl
theorem ty102 : tyS Try.prog 102 = some ⟨1, 8, [.nilFunc], false, .other⟩ := by kernel_rfl
theorem ty103 : tyS Try.prog 103 = some ⟨1, 8, [.nilFunc], false, .other⟩ := by kernel_rfl
theorem ty104 : tyS Try.prog 104 = some ⟨1, 8, [.nilFunc], false, .other⟩ := by kernel_rfl
theorem ty105 : tyS Try.prog 105 = some ⟨1, 8, [.nilFunc], false, .other⟩ := by kernel_rfl
theorem ty106 : tyS Try.prog 106 = some ⟨1, 8, [.nilFunc], false, .other⟩ := by kernel_rfl
theorem ty107 : tyS Try.prog 107 = some ⟨1, 8, [.nilFunc], false, .other⟩ := by kernel_rfl
theorem ty108 : tyS Try.prog 108 = some ⟨1, 8, [.nilFunc], false, .other⟩ := by kernel_rfl
theorem ty109 : tyS Try.prog 109 = some ⟨1, 8, [.nilFunc], false, .other⟩ := by kernel_rfl
theorem ty110 : tyS Try.prog 110 = some ⟨1, 8, [.nilFunc], false, .other⟩ := by kernel_rfl
theorem ty111 : tyS Try.prog 111 = some ⟨1, 8, [.nilFunc], false, .other⟩ := by kernel_rfl
theorem ty112 : tyS Try.prog 112 = some ⟨4, 48, [.int .i64 0, .int .i64 0, .int .i64 0, .slice none 0 0], true, .struct [(0, 4, 24)]⟩ := by kernel_rfl
theorem ty113 : tyS Try.prog 113 = some ⟨4, 48, [.int .i64 0, .int .i64 0, .int .i64 0, .slice none 0 0], true, .struct [(0, 4, 24)]⟩ := by kernel_rfl
theorem ty114 : tyS Try.prog 114 = some ⟨1, 8, [.nilFunc], false, .other⟩ := by kernel_rfl
theorem ty115 : tyS Try.prog 115 = some ⟨4, 40, [.pointer none, .pointer none, .pointer none, .string ⟨#[]⟩], true, .struct [(0, 1, 17), (1, 1, 17), (2, 1, 17), (3, 1, 9)]⟩ := by kernel_rfl
theorem ty116 : tyS Try.prog 116 = some ⟨4, 40, [.pointer none, .pointer none, .pointer none, .string ⟨#[]⟩], true, .struct [(0, 1, 17), (1, 1, 17), (2, 1, 17), (3, 1, 9)]⟩ := by kernel_rfl
theorem ty117 : tyS Try.prog 117 = some ⟨0, 0, [], true, .array 0 16 1⟩ := by kernel_rfl
theorem ty118 : tyS Try.prog 118 = some ⟨0, 0, [], true, .struct [(0, 0, 117)]⟩ := by kernel_rfl
theorem ty119 : tyS Try.prog 119 = some ⟨0, 0, [], true, .struct [(0, 0, 117)]⟩ := by kernel_rfl
theorem ty120 : tyS Try.prog 120 = some ⟨1, 8, [.nilFunc], false, .other⟩ := by kernel_rfl
theorem ty121 : tyS Try.prog 121 = some ⟨1, 1, [.int .u8 0], false, .int .u8⟩ := by kernel_rfl
theorem ty122 : tyS Try.prog 122 = some ⟨1, 1, [.int .u8 0], false, .int .u8⟩ := by kernel_rfl
theorem ty123 : tyS Try.prog 123 = some ⟨1, 8, [.nilFunc], false, .other⟩ := by kernel_rfl
theorem ty124 : tyS Try.prog 124 = some ⟨1, 8, [.pointer none], false, .other⟩ := by kernel_rfl
theorem ty125 : tyS Try.prog 125 = some ⟨1, 4, [.int .i32 0], false, .int .i32⟩ := by kernel_rfl
theorem ty126 : tyS Try.prog 126 = some ⟨1, 4, [.int .i32 0], false, .int .i32⟩ := by kernel_rfl
theorem ty127 : tyS Try.prog 127 = some ⟨11, 48, [.int .u64 0, .int .u64 0, .int .u32 0, .int .u8 0, .int .u8 0, .int .u8 0, .int .u8 0, .nilFunc, .pointer none, .int .i32 0, .int .i32 0], true, .struct [(0, 1, 12), (1, 1, 12), (2, 1, 77), (3, 1, 121), (4, 1, 5), (5, 1, 5), (6, 1, 122), (7, 1, 123), (8, 1, 124), (9, 1, 125), (10, 1, 126)]⟩ := by kernel_rfl
theorem ty128 : tyS Try.prog 128 = some ⟨11, 48, [.int .u64 0, .int .u64 0, .int .u32 0, .int .u8 0, .int .u8 0, .int .u8 0, .int .u8 0, .nilFunc, .pointer none, .int .i32 0, .int .i32 0], true, .struct [(0, 1, 12), (1, 1, 12), (2, 1, 77), (3, 1, 121), (4, 1, 5), (5, 1, 5), (6, 1, 122), (7, 1, 123), (8, 1, 124), (9, 1, 125), (10, 1, 126)]⟩ := by kernel_rfl
def tab : Tab := [(1, ⟨1, 8, [.nilFunc], false, .other⟩),
  (2, ⟨1, 8, [.int .i64 0], false, .int .i64⟩),
  (3, ⟨1, 8, [.int .i64 0], false, .int .i64⟩),
  (4, ⟨1, 1, [.bool false], false, .bool⟩),
  (5, ⟨1, 1, [.int .u8 0], false, .int .u8⟩),
  (6, ⟨1, 1, [.int .u8 0], false, .int .u8⟩),
  (7, ⟨4, 24, [.int .i64 0, .int .i64 0, .bool false, .int .u8 0], true, .struct [(0, 1, 2), (1, 1, 3), (2, 1, 4), (3, 1, 6)]⟩),
  (8, ⟨4, 24, [.int .i64 0, .int .i64 0, .bool false, .int .u8 0], true, .struct [(0, 1, 2), (1, 1, 3), (2, 1, 4), (3, 1, 6)]⟩),
  (9, ⟨1, 16, [.string ⟨#[]⟩], false, .str⟩),
  (10, ⟨1, 16, [.string ⟨#[]⟩], false, .str⟩),
  (11, ⟨1, 16, [.string ⟨#[]⟩], false, .str⟩),
  (12, ⟨1, 8, [.int .u64 0], false, .int .u64⟩),
  (13, ⟨2, 24, [.string ⟨#[]⟩, .int .u64 0], true, .struct [(0, 1, 9), (1, 1, 12)]⟩),
  (14, ⟨2, 24, [.string ⟨#[]⟩, .int .u64 0], true, .struct [(0, 1, 9), (1, 1, 12)]⟩),
  (15, ⟨1, 8, [.pointer none], false, .other⟩),
  (16, ⟨1, 8, [.pointer none], false, .other⟩),
  (17, ⟨1, 8, [.pointer none], false, .other⟩),
  (18, ⟨1, 8, [.pointer none], true, .struct [(0, 1, 17)]⟩),
  (19, ⟨1, 8, [.pointer none], true, .struct [(0, 1, 17)]⟩),
  (21, ⟨1, 4, [.int .i32 0], false, .int .i32⟩),
  (22, ⟨1, 24, [.slice none 0 0], false, .slice 67⟩),
  (23, ⟨4, 48, [.int .i64 0, .int .i64 0, .int .i64 0, .slice none 0 0], true, .struct [(0, 1, 3), (1, 1, 3), (2, 1, 3), (3, 1, 22)]⟩),
  (24, ⟨4, 48, [.int .i64 0, .int .i64 0, .int .i64 0, .slice none 0 0], true, .struct [(0, 1, 3), (1, 1, 3), (2, 1, 3), (3, 1, 22)]⟩),
  (25, ⟨1, 24, [.slice none 0 0], false, .slice 45⟩),
  (26, ⟨1, 8, [.nilFunc], false, .other⟩),
  (27, ⟨1, 8, [.nilFunc], false, .other⟩),
  (28, ⟨1, 24, [.slice none 0 0], false, .slice 51⟩),
  (29, ⟨1, 8, [.int .i64 0], false, .int .i64⟩),
  (31, ⟨1, 8, [.nilFunc], false, .other⟩),
  (33, ⟨1, 8, [.nilFunc], false, .other⟩),
  (35, ⟨1, 8, [.nilFunc], false, .other⟩),
  (36, ⟨1, 8, [.nilFunc], false, .other⟩),
  (37, ⟨1, 24, [.slice none 0 0], false, .slice 28⟩),
  (38, ⟨1, 8, [.nilFunc], false, .other⟩),
  (40, ⟨1, 8, [.nilFunc], false, .other⟩),
  (41, ⟨1, 8, [.nilFunc], false, .other⟩),
  (42, ⟨1, 8, [.nilFunc], false, .other⟩),
  (43, ⟨1, 8, [.nilFunc], false, .other⟩),
  (44, ⟨5, 40, [.int .i64 0, .int .i64 0, .int .i64 0, .int .i64 0, .int .i64 0], true, .struct [(0, 1, 3), (1, 1, 3), (2, 1, 3), (3, 1, 3), (4, 1, 3)]⟩),
  (45, ⟨5, 40, [.int .i64 0, .int .i64 0, .int .i64 0, .int .i64 0, .int .i64 0], true, .struct [(0, 1, 3), (1, 1, 3), (2, 1, 3), (3, 1, 3), (4, 1, 3)]⟩),
  (46, ⟨1, 8, [.nilFunc], false, .other⟩),
  (47, ⟨1, 8, [.nilFunc], false, .other⟩),
  (48, ⟨1, 8, [.nilFunc], false, .other⟩),
  (49, ⟨1, 8, [.nilFunc], false, .other⟩),
  (50, ⟨2, 16, [.int .i64 0, .int .i64 0], true, .struct [(0, 1, 3), (1, 1, 3)]⟩),
  (51, ⟨2, 16, [.int .i64 0, .int .i64 0], true, .struct [(0, 1, 3), (1, 1, 3)]⟩),
  (52, ⟨1, 8, [.nilFunc], false, .other⟩),
  (53, ⟨1, 8, [.pointer none], false, .other⟩),
  (54, ⟨1, 8, [.nilFunc], false, .other⟩),
  (55, ⟨1, 8, [.nilFunc], false, .other⟩),
  (56, ⟨1, 8, [.nilFunc], false, .other⟩),
  (58, ⟨1, 8, [.nilFunc], false, .other⟩),
  (59, ⟨1, 8, [.nilFunc], false, .other⟩),
  (60, ⟨1, 24, [.slice none 0 0], false, .slice 64⟩),
  (61, ⟨1, 8, [.nilFunc], false, .other⟩),
  (63, ⟨1, 8, [.nilFunc], false, .other⟩),
  (64, ⟨1, 24, [.slice none 0 0], false, .slice 3⟩),
  (65, ⟨1, 8, [.nilFunc], false, .other⟩),
  (66, ⟨4, 32, [.int .i64 0, .int .i64 0, .int .i64 0, .int .i64 0], true, .struct [(0, 1, 3), (1, 1, 3), (2, 1, 3), (3, 1, 3)]⟩),
  (67, ⟨4, 32, [.int .i64 0, .int .i64 0, .int .i64 0, .int .i64 0], true, .struct [(0, 1, 3), (1, 1, 3), (2, 1, 3), (3, 1, 3)]⟩),
  (68, ⟨1, 24, [.slice none 0 0], false, .slice 4⟩),
  (69, ⟨1, 8, [.nilFunc], false, .other⟩),
  (70, ⟨1, 8, [.nilFunc], false, .other⟩),
  (72, ⟨1, 8, [.nilFunc], false, .other⟩),
  (73, ⟨1, 8, [.nilFunc], false, .other⟩),
  (74, ⟨1, 8, [.map none], false, .other⟩),
  (75, ⟨7, 104, [.int .i64 0, .int .i64 0, .int .i64 0, .slice none 0 0, .slice none 0 0, .slice none 0 0, .map none], true, .struct [(0, 4, 24), (4, 1, 25), (5, 1, 68), (6, 1, 74)]⟩),
  (76, ⟨7, 104, [.int .i64 0, .int .i64 0, .int .i64 0, .slice none 0 0, .slice none 0 0, .slice none 0 0, .map none], true, .struct [(0, 4, 24), (4, 1, 25), (5, 1, 68), (6, 1, 74)]⟩),
  (77, ⟨1, 4, [.int .u32 0], false, .int .u32⟩),
  (78, ⟨2, 16, [.int .u32 0, .int .i64 0], true, .struct [(0, 1, 77), (1, 1, 3)]⟩),
  (79, ⟨2, 16, [.int .u32 0, .int .i64 0], true, .struct [(0, 1, 77), (1, 1, 3)]⟩),
  (80, ⟨1, 8, [.nilFunc], false, .other⟩),
  (81, ⟨1, 8, [.nilFunc], false, .other⟩),
  (82, ⟨1, 8, [.nilFunc], false, .other⟩),
  (83, ⟨1, 8, [.nilFunc], false, .other⟩),
  (85, ⟨1, 8, [.nilFunc], false, .other⟩),
  (86, ⟨1, 8, [.nilFunc], false, .other⟩),
  (88, ⟨1, 8, [.nilFunc], false, .other⟩),
  (89, ⟨1, 8, [.nilFunc], false, .other⟩),
  (90, ⟨1, 8, [.nilFunc], false, .other⟩),
  (91, ⟨1, 8, [.nilFunc], false, .other⟩),
  (92, ⟨1, 8, [.nilFunc], false, .other⟩),
  (93, ⟨1, 8, [.nilFunc], false, .other⟩),
  (94, ⟨1, 8, [.nilFunc], false, .other⟩),
  (95, ⟨1, 8, [.nilFunc], false, .other⟩),
  (96, ⟨1, 8, [.map none], false, .other⟩),
  (97, ⟨1, 8, [.map none], false, .other⟩),
  (98, ⟨1, 8, [.nilFunc], false, .other⟩),
  (100, ⟨1, 8, [.nilFunc], false, .other⟩),
  (101, ⟨1, 8, [.nilFunc], false, .other⟩),
  (102, ⟨1, 8, [.nilFunc], false, .other⟩),
  (103, ⟨1, 8, [.nilFunc], false, .other⟩),
  (104, ⟨1, 8, [.nilFunc], false, .other⟩),
  (105, ⟨1, 8, [.nilFunc], false, .other⟩),
  (106, ⟨1, 8, [.nilFunc], false, .other⟩),
  (107, ⟨1, 8, [.nilFunc], false, .other⟩),
  (108, ⟨1, 8, [.nilFunc], false, .other⟩),
  (109, ⟨1, 8, [.nilFunc], false, .other⟩),
  (110, ⟨1, 8, [.nilFunc], false, .other⟩),
  (111, ⟨1, 8, [.nilFunc], false, .other⟩),
  (112, ⟨4, 48, [.int .i64 0, .int .i64 0, .int .i64 0, .slice none 0 0], true, .struct [(0, 4, 24)]⟩),
  (113, ⟨4, 48, [.int .i64 0, .int .i64 0, .int .i64 0, .slice none 0 0], true, .struct [(0, 4, 24)]⟩),
  (114, ⟨1, 8, [.nilFunc], false, .other⟩),
  (115, ⟨4, 40, [.pointer none, .pointer none, .pointer none, .string ⟨#[]⟩], true, .struct [(0, 1, 17), (1, 1, 17), (2, 1, 17), (3, 1, 9)]⟩),
  (116, ⟨4, 40, [.pointer none, .pointer none, .pointer none, .string ⟨#[]⟩], true, .struct [(0, 1, 17), (1, 1, 17), (2, 1, 17), (3, 1, 9)]⟩),
  (117, ⟨0, 0, [], true, .array 0 16 1⟩),
  (118, ⟨0, 0, [], true, .struct [(0, 0, 117)]⟩),
  (119, ⟨0, 0, [], true, .struct [(0, 0, 117)]⟩),
  (120, ⟨1, 8, [.nilFunc], false, .other⟩),
  (121, ⟨1, 1, [.int .u8 0], false, .int .u8⟩),
  (122, ⟨1, 1, [.int .u8 0], false, .int .u8⟩),
  (123, ⟨1, 8, [.nilFunc], false, .other⟩),
  (124, ⟨1, 8, [.pointer none], false, .other⟩),
  (125, ⟨1, 4, [.int .i32 0], false, .int .i32⟩),
  (126, ⟨1, 4, [.int .i32 0], false, .int .i32⟩),
  (127, ⟨11, 48, [.int .u64 0, .int .u64 0, .int .u32 0, .int .u8 0, .int .u8 0, .int .u8 0, .int .u8 0, .nilFunc, .pointer none, .int .i32 0, .int .i32 0], true, .struct [(0, 1, 12), (1, 1, 12), (2, 1, 77), (3, 1, 121), (4, 1, 5), (5, 1, 5), (6, 1, 122), (7, 1, 123), (8, 1, 124), (9, 1, 125), (10, 1, 126)]⟩),
  (128, ⟨11, 48, [.int .u64 0, .int .u64 0, .int .u32 0, .int .u8 0, .int .u8 0, .int .u8 0, .int .u8 0, .nilFunc, .pointer none, .int .i32 0, .int .i32 0], true, .struct [(0, 1, 12), (1, 1, 12), (2, 1, 77), (3, 1, 121), (4, 1, 5), (5, 1, 5), (6, 1, 122), (7, 1, 123), (8, 1, 124), (9, 1, 125), (10, 1, 126)]⟩)]
theorem T : TabOK Try.prog tab := TabOK.cons ty1 <| TabOK.cons ty2 <| TabOK.cons ty3 <| TabOK.cons ty4 <| TabOK.cons ty5 <| TabOK.cons ty6 <| TabOK.cons ty7 <| TabOK.cons ty8 <| TabOK.cons ty9 <| TabOK.cons ty10 <| TabOK.cons ty11 <| TabOK.cons ty12 <| TabOK.cons ty13 <| TabOK.cons ty14 <| TabOK.cons ty15 <| TabOK.cons ty16 <| TabOK.cons ty17 <| TabOK.cons ty18 <| TabOK.cons ty19 <| TabOK.cons ty21 <| TabOK.cons ty22 <| TabOK.cons ty23 <| TabOK.cons ty24 <| TabOK.cons ty25 <| TabOK.cons ty26 <| TabOK.cons ty27 <| TabOK.cons ty28 <| TabOK.cons ty29 <| TabOK.cons ty31 <| TabOK.cons ty33 <| TabOK.cons ty35 <| TabOK.cons ty36 <| TabOK.cons ty37 <| TabOK.cons ty38 <| TabOK.cons ty40 <| TabOK.cons ty41 <| TabOK.cons ty42 <| TabOK.cons ty43 <| TabOK.cons ty44 <| TabOK.cons ty45 <| TabOK.cons ty46 <| TabOK.cons ty47 <| TabOK.cons ty48 <| TabOK.cons ty49 <| TabOK.cons ty50 <| TabOK.cons ty51 <| TabOK.cons ty52 <| TabOK.cons ty53 <| TabOK.cons ty54 <| TabOK.cons ty55 <| TabOK.cons ty56 <| TabOK.cons ty58 <| TabOK.cons ty59 <| TabOK.cons ty60 <| TabOK.cons ty61 <| TabOK.cons ty63 <| TabOK.cons ty64 <| TabOK.cons ty65 <| TabOK.cons ty66 <| TabOK.cons ty67 <| TabOK.cons ty68 <| TabOK.cons ty69 <| TabOK.cons ty70 <| TabOK.cons ty72 <| TabOK.cons ty73 <| TabOK.cons ty74 <| TabOK.cons ty75 <| TabOK.cons ty76 <| TabOK.cons ty77 <| TabOK.cons ty78 <| TabOK.cons ty79 <| TabOK.cons ty80 <| TabOK.cons ty81 <| TabOK.cons ty82 <| TabOK.cons ty83 <| TabOK.cons ty85 <| TabOK.cons ty86 <| TabOK.cons ty88 <| TabOK.cons ty89 <| TabOK.cons ty90 <| TabOK.cons ty91 <| TabOK.cons ty92 <| TabOK.cons ty93 <| TabOK.cons ty94 <| TabOK.cons ty95 <| TabOK.cons ty96 <| TabOK.cons ty97 <| TabOK.cons ty98 <| TabOK.cons ty100 <| TabOK.cons ty101 <| TabOK.cons ty102 <| TabOK.cons ty103 <| TabOK.cons ty104 <| TabOK.cons ty105 <| TabOK.cons ty106 <| TabOK.cons ty107 <| TabOK.cons ty108 <| TabOK.cons ty109 <| TabOK.cons ty110 <| TabOK.cons ty111 <| TabOK.cons ty112 <| TabOK.cons ty113 <| TabOK.cons ty114 <| TabOK.cons ty115 <| TabOK.cons ty116 <| TabOK.cons ty117 <| TabOK.cons ty118 <| TabOK.cons ty119 <| TabOK.cons ty120 <| TabOK.cons ty121 <| TabOK.cons ty122 <| TabOK.cons ty123 <| TabOK.cons ty124 <| TabOK.cons ty125 <| TabOK.cons ty126 <| TabOK.cons ty127 <| TabOK.cons ty128 <| TabOK.nil _
theorem mixed : Try.prog.follows .mixedOrders = true := by kernel_rfl
end Go.Proofs.Ytomodhnocjmfpaa
