/- The types of the program, as they are reckoned with. -/
import Derived.Test.YtfllibbkmpkaiaaDoorAm16
import Derived.Test.YtfllibbkmpkaiaaDoorProg
import Derived.KernelRfl
namespace Go.Proofs.YtfllibbkmpkaiaaDoor.Am
set_option linter.unusedSectionVars false
open Go Go.Proofs
set_option maxRecDepth 100000
@[go_sem] theorem ti1 : tiOf Tryd.prog 1 = some ⟨.func, 1, 8, [.nilfn]⟩ := by kernel_rfl
@[go_sem] theorem ti2 : tiOf Tryd.prog 2 = some ⟨.int .i64, 1, 8, [.int .i64 0]⟩ := by kernel_rfl
@[go_sem] theorem ti3 : tiOf Tryd.prog 3 = some ⟨.int .i64, 1, 8, [.int .i64 0]⟩ := by kernel_rfl
@[go_sem] theorem ti4 : tiOf Tryd.prog 4 = some ⟨.bool, 1, 1, [.bool false]⟩ := by kernel_rfl
@[go_sem] theorem ti5 : tiOf Tryd.prog 5 = some ⟨.int .u8, 1, 1, [.int .u8 0]⟩ := by kernel_rfl
@[go_sem] theorem ti6 : tiOf Tryd.prog 6 = some ⟨.int .u8, 1, 1, [.int .u8 0]⟩ := by kernel_rfl
@[go_sem] theorem ti7 : tiOf Tryd.prog 7 = some ⟨.struct [(0, 2), (1, 3), (2, 4), (3, 6)] true, 4, 24, [.int .i64 0, .int .i64 0, .bool false, .int .u8 0]⟩ := by kernel_rfl
@[go_sem] theorem ti8 : tiOf Tryd.prog 8 = some ⟨.struct [(0, 2), (1, 3), (2, 4), (3, 6)] true, 4, 24, [.int .i64 0, .int .i64 0, .bool false, .int .u8 0]⟩ := by kernel_rfl
@[go_sem] theorem ti9 : tiOf Tryd.prog 9 = some ⟨.str, 1, 16, [.str []]⟩ := by kernel_rfl
@[go_sem] theorem ti10 : tiOf Tryd.prog 10 = some ⟨.str, 1, 16, [.str []]⟩ := by kernel_rfl
@[go_sem] theorem ti11 : tiOf Tryd.prog 11 = some ⟨.str, 1, 16, [.str []]⟩ := by kernel_rfl
@[go_sem] theorem ti12 : tiOf Tryd.prog 12 = some ⟨.int .u64, 1, 8, [.int .u64 0]⟩ := by kernel_rfl
@[go_sem] theorem ti13 : tiOf Tryd.prog 13 = some ⟨.struct [(0, 9), (1, 12)] false, 2, 24, [.str [], .int .u64 0]⟩ := by kernel_rfl
@[go_sem] theorem ti14 : tiOf Tryd.prog 14 = some ⟨.struct [(0, 9), (1, 12)] false, 2, 24, [.str [], .int .u64 0]⟩ := by kernel_rfl
@[go_sem] theorem ti15 : tiOf Tryd.prog 15 = some ⟨.ptr 171, 1, 8, [.nilptr]⟩ := by kernel_rfl
@[go_sem] theorem ti16 : tiOf Tryd.prog 16 = some ⟨.ptr 174, 1, 8, [.nilptr]⟩ := by kernel_rfl
@[go_sem] theorem ti17 : tiOf Tryd.prog 17 = some ⟨.ptr 181, 1, 8, [.nilptr]⟩ := by kernel_rfl
@[go_sem] theorem ti18 : tiOf Tryd.prog 18 = some ⟨.struct [(0, 17)] false, 1, 8, [.nilptr]⟩ := by kernel_rfl
@[go_sem] theorem ti19 : tiOf Tryd.prog 19 = some ⟨.struct [(0, 17)] false, 1, 8, [.nilptr]⟩ := by kernel_rfl
@[go_sem] theorem ti20 : tiOf Tryd.prog 20 = some ⟨.iface, 1, 16, [.nilif]⟩ := by kernel_rfl
@[go_sem] theorem ti21 : tiOf Tryd.prog 21 = some ⟨.int .i32, 1, 4, [.int .i32 0]⟩ := by kernel_rfl
@[go_sem] theorem ti22 : tiOf Tryd.prog 22 = some ⟨.int .i64, 1, 8, [.int .i64 0]⟩ := by kernel_rfl
@[go_sem] theorem ti24 : tiOf Tryd.prog 24 = some ⟨.func, 1, 8, [.nilfn]⟩ := by kernel_rfl
@[go_sem] theorem ti26 : tiOf Tryd.prog 26 = some ⟨.func, 1, 8, [.nilfn]⟩ := by kernel_rfl
@[go_sem] theorem ti27 : tiOf Tryd.prog 27 = some ⟨.func, 1, 8, [.nilfn]⟩ := by kernel_rfl
@[go_sem] theorem ti28 : tiOf Tryd.prog 28 = some ⟨.func, 1, 8, [.nilfn]⟩ := by kernel_rfl
@[go_sem] theorem ti29 : tiOf Tryd.prog 29 = some ⟨.func, 1, 8, [.nilfn]⟩ := by kernel_rfl
@[go_sem] theorem ti30 : tiOf Tryd.prog 30 = some ⟨.func, 1, 8, [.nilfn]⟩ := by kernel_rfl
@[go_sem] theorem ti31 : tiOf Tryd.prog 31 = some ⟨.slice 80, 1, 24, [.snil]⟩ := by kernel_rfl
@[go_sem] theorem ti32 : tiOf Tryd.prog 32 = some ⟨.arr 7 3, 7, 56, [.int .i64 0, .int .i64 0, .int .i64 0, .int .i64 0, .int .i64 0, .int .i64 0, .int .i64 0]⟩ := by kernel_rfl
@[go_sem] theorem ti33 : tiOf Tryd.prog 33 = some ⟨.slice 84, 1, 24, [.snil]⟩ := by kernel_rfl
@[go_sem] theorem ti34 : tiOf Tryd.prog 34 = some ⟨.slice 86, 1, 24, [.snil]⟩ := by kernel_rfl
@[go_sem] theorem ti35 : tiOf Tryd.prog 35 = some ⟨.slice 88, 1, 24, [.snil]⟩ := by kernel_rfl
@[go_sem] theorem ti38 : tiOf Tryd.prog 38 = some ⟨.struct [(0, 3), (1, 3)] true, 2, 16, [.int .i64 0, .int .i64 0]⟩ := by kernel_rfl
@[go_sem] theorem ti39 : tiOf Tryd.prog 39 = some ⟨.struct [(0, 3), (1, 3)] true, 2, 16, [.int .i64 0, .int .i64 0]⟩ := by kernel_rfl
@[go_sem] theorem ti40 : tiOf Tryd.prog 40 = some ⟨.struct [(0, 22), (1, 39)] true, 3, 24, [.int .i64 0, .int .i64 0, .int .i64 0]⟩ := by kernel_rfl
@[go_sem] theorem ti41 : tiOf Tryd.prog 41 = some ⟨.struct [(0, 22), (1, 39)] true, 3, 24, [.int .i64 0, .int .i64 0, .int .i64 0]⟩ := by kernel_rfl
@[go_sem] theorem ti43 : tiOf Tryd.prog 43 = some ⟨.func, 1, 8, [.nilfn]⟩ := by kernel_rfl
@[go_sem] theorem ti44 : tiOf Tryd.prog 44 = some ⟨.func, 1, 8, [.nilfn]⟩ := by kernel_rfl
@[go_sem] theorem ti45 : tiOf Tryd.prog 45 = some ⟨.func, 1, 8, [.nilfn]⟩ := by kernel_rfl
@[go_sem] theorem ti46 : tiOf Tryd.prog 46 = some ⟨.ptr 52, 1, 8, [.nilptr]⟩ := by kernel_rfl
@[go_sem] theorem ti47 : tiOf Tryd.prog 47 = some ⟨.func, 1, 8, [.nilfn]⟩ := by kernel_rfl
@[go_sem] theorem ti49 : tiOf Tryd.prog 49 = some ⟨.func, 1, 8, [.nilfn]⟩ := by kernel_rfl
@[go_sem] theorem ti50 : tiOf Tryd.prog 50 = some ⟨.slice 78, 1, 24, [.snil]⟩ := by kernel_rfl
@[go_sem] theorem ti53 : tiOf Tryd.prog 53 = some ⟨.func, 1, 8, [.nilfn]⟩ := by kernel_rfl
@[go_sem] theorem ti54 : tiOf Tryd.prog 54 = some ⟨.func, 1, 8, [.nilfn]⟩ := by kernel_rfl
@[go_sem] theorem ti55 : tiOf Tryd.prog 55 = some ⟨.func, 1, 8, [.nilfn]⟩ := by kernel_rfl
@[go_sem] theorem ti56 : tiOf Tryd.prog 56 = some ⟨.arr 13 3, 13, 104, List.replicate 13 (.int .i64 0)⟩ := by kernel_rfl
@[go_sem] theorem ti57 : tiOf Tryd.prog 57 = some ⟨.struct [(0, 41)] true, 3, 24, [.int .i64 0, .int .i64 0, .int .i64 0]⟩ := by kernel_rfl
@[go_sem] theorem ti58 : tiOf Tryd.prog 58 = some ⟨.struct [(0, 41)] true, 3, 24, [.int .i64 0, .int .i64 0, .int .i64 0]⟩ := by kernel_rfl
@[go_sem] theorem ti59 : tiOf Tryd.prog 59 = some ⟨.ptr 62, 1, 8, [.nilptr]⟩ := by kernel_rfl
@[go_sem] theorem ti60 : tiOf Tryd.prog 60 = some ⟨.slice 68, 1, 24, [.snil]⟩ := by kernel_rfl
@[go_sem] theorem ti63 : tiOf Tryd.prog 63 = some ⟨.map 9 1, 1, 8, [.nilmp]⟩ := by kernel_rfl
@[go_sem] theorem ti64 : tiOf Tryd.prog 64 = some ⟨.slice 9, 1, 24, [.snil]⟩ := by kernel_rfl
@[go_sem] theorem ti65 : tiOf Tryd.prog 65 = some ⟨.func, 1, 8, [.nilfn]⟩ := by kernel_rfl
@[go_sem] theorem ti66 : tiOf Tryd.prog 66 = some ⟨.func, 1, 8, [.nilfn]⟩ := by kernel_rfl
@[go_sem] theorem ti67 : tiOf Tryd.prog 67 = some ⟨.struct [(0, 9), (1, 3)] true, 2, 24, [.str [], .int .i64 0]⟩ := by kernel_rfl
@[go_sem] theorem ti68 : tiOf Tryd.prog 68 = some ⟨.struct [(0, 9), (1, 3)] true, 2, 24, [.str [], .int .i64 0]⟩ := by kernel_rfl
@[go_sem] theorem ti69 : tiOf Tryd.prog 69 = some ⟨.func, 1, 8, [.nilfn]⟩ := by kernel_rfl
@[go_sem] theorem ti70 : tiOf Tryd.prog 70 = some ⟨.func, 1, 8, [.nilfn]⟩ := by kernel_rfl
@[go_sem] theorem ti71 : tiOf Tryd.prog 71 = some ⟨.ptr 74, 1, 8, [.nilptr]⟩ := by kernel_rfl
@[go_sem] theorem ti72 : tiOf Tryd.prog 72 = some ⟨.slice 116, 1, 24, [.snil]⟩ := by kernel_rfl
@[go_sem] theorem ti76 : tiOf Tryd.prog 76 = some ⟨.func, 1, 8, [.nilfn]⟩ := by kernel_rfl
@[go_sem] theorem ti77 : tiOf Tryd.prog 77 = some ⟨.func, 1, 8, [.nilfn]⟩ := by kernel_rfl
@[go_sem] theorem ti78 : tiOf Tryd.prog 78 = some ⟨.slice 82, 1, 24, [.snil]⟩ := by kernel_rfl
@[go_sem] theorem ti79 : tiOf Tryd.prog 79 = some ⟨.struct [(0, 9), (1, 78)] true, 2, 40, [.str [], .snil]⟩ := by kernel_rfl
@[go_sem] theorem ti80 : tiOf Tryd.prog 80 = some ⟨.struct [(0, 9), (1, 78)] true, 2, 40, [.str [], .snil]⟩ := by kernel_rfl
@[go_sem] theorem ti81 : tiOf Tryd.prog 81 = some ⟨.struct [(0, 3), (1, 3)] true, 2, 16, [.int .i64 0, .int .i64 0]⟩ := by kernel_rfl
@[go_sem] theorem ti82 : tiOf Tryd.prog 82 = some ⟨.struct [(0, 3), (1, 3)] true, 2, 16, [.int .i64 0, .int .i64 0]⟩ := by kernel_rfl
@[go_sem] theorem ti85 : tiOf Tryd.prog 85 = some ⟨.struct [(0, 3), (1, 3)] true, 2, 16, [.int .i64 0, .int .i64 0]⟩ := by kernel_rfl
@[go_sem] theorem ti86 : tiOf Tryd.prog 86 = some ⟨.struct [(0, 3), (1, 3)] true, 2, 16, [.int .i64 0, .int .i64 0]⟩ := by kernel_rfl
@[go_sem] theorem ti87 : tiOf Tryd.prog 87 = some ⟨.struct [(0, 3), (1, 3)] true, 2, 16, [.int .i64 0, .int .i64 0]⟩ := by kernel_rfl
@[go_sem] theorem ti88 : tiOf Tryd.prog 88 = some ⟨.struct [(0, 3), (1, 3)] true, 2, 16, [.int .i64 0, .int .i64 0]⟩ := by kernel_rfl
@[go_sem] theorem ti89 : tiOf Tryd.prog 89 = some ⟨.ptr 92, 1, 8, [.nilptr]⟩ := by kernel_rfl
@[go_sem] theorem ti90 : tiOf Tryd.prog 90 = some ⟨.slice 5, 1, 24, [.snil]⟩ := by kernel_rfl
@[go_sem] theorem ti91 : tiOf Tryd.prog 91 = some ⟨.struct [(0, 89), (1, 90)] true, 2, 32, [.nilptr, .snil]⟩ := by kernel_rfl
@[go_sem] theorem ti92 : tiOf Tryd.prog 92 = some ⟨.struct [(0, 89), (1, 90)] true, 2, 32, [.nilptr, .snil]⟩ := by kernel_rfl
@[go_sem] theorem ti93 : tiOf Tryd.prog 93 = some ⟨.iface, 1, 16, [.nilif]⟩ := by kernel_rfl
@[go_sem] theorem ti94 : tiOf Tryd.prog 94 = some ⟨.iface, 1, 16, [.nilif]⟩ := by kernel_rfl
@[go_sem] theorem ti96 : tiOf Tryd.prog 96 = some ⟨.func, 1, 8, [.nilfn]⟩ := by kernel_rfl
@[go_sem] theorem ti97 : tiOf Tryd.prog 97 = some ⟨.func, 1, 8, [.nilfn]⟩ := by kernel_rfl
@[go_sem] theorem ti98 : tiOf Tryd.prog 98 = some ⟨.func, 1, 8, [.nilfn]⟩ := by kernel_rfl
@[go_sem] theorem ti99 : tiOf Tryd.prog 99 = some ⟨.func, 1, 8, [.nilfn]⟩ := by kernel_rfl
@[go_sem] theorem ti100 : tiOf Tryd.prog 100 = some ⟨.func, 1, 8, [.nilfn]⟩ := by kernel_rfl
@[go_sem] theorem ti101 : tiOf Tryd.prog 101 = some ⟨.func, 1, 8, [.nilfn]⟩ := by kernel_rfl
@[go_sem] theorem ti102 : tiOf Tryd.prog 102 = some ⟨.slice 53, 1, 24, [.snil]⟩ := by kernel_rfl
@[go_sem] theorem ti103 : tiOf Tryd.prog 103 = some ⟨.arr 12 3, 12, 96, List.replicate 12 (.int .i64 0)⟩ := by kernel_rfl
@[go_sem] theorem ti104 : tiOf Tryd.prog 104 = some ⟨.func, 1, 8, [.nilfn]⟩ := by kernel_rfl
@[go_sem] theorem ti105 : tiOf Tryd.prog 105 = some ⟨.func, 1, 8, [.nilfn]⟩ := by kernel_rfl
@[go_sem] theorem ti106 : tiOf Tryd.prog 106 = some ⟨.ptr 80, 1, 8, [.nilptr]⟩ := by kernel_rfl
@[go_sem] theorem ti108 : tiOf Tryd.prog 108 = some ⟨.func, 1, 8, [.nilfn]⟩ := by kernel_rfl
@[go_sem] theorem ti109 : tiOf Tryd.prog 109 = some ⟨.func, 1, 8, [.nilfn]⟩ := by kernel_rfl
@[go_sem] theorem ti110 : tiOf Tryd.prog 110 = some ⟨.func, 1, 8, [.nilfn]⟩ := by kernel_rfl
@[go_sem] theorem ti111 : tiOf Tryd.prog 111 = some ⟨.func, 1, 8, [.nilfn]⟩ := by kernel_rfl
@[go_sem] theorem ti112 : tiOf Tryd.prog 112 = some ⟨.func, 1, 8, [.nilfn]⟩ := by kernel_rfl
@[go_sem] theorem ti114 : tiOf Tryd.prog 114 = some ⟨.func, 1, 8, [.nilfn]⟩ := by kernel_rfl
@[go_sem] theorem ti115 : tiOf Tryd.prog 115 = some ⟨.struct [(0, 9), (1, 3)] true, 2, 24, [.str [], .int .i64 0]⟩ := by kernel_rfl
@[go_sem] theorem ti116 : tiOf Tryd.prog 116 = some ⟨.struct [(0, 9), (1, 3)] true, 2, 24, [.str [], .int .i64 0]⟩ := by kernel_rfl
@[go_sem] theorem ti118 : tiOf Tryd.prog 118 = some ⟨.func, 1, 8, [.nilfn]⟩ := by kernel_rfl
@[go_sem] theorem ti119 : tiOf Tryd.prog 119 = some ⟨.func, 1, 8, [.nilfn]⟩ := by kernel_rfl
@[go_sem] theorem ti120 : tiOf Tryd.prog 120 = some ⟨.func, 1, 8, [.nilfn]⟩ := by kernel_rfl
@[go_sem] theorem ti121 : tiOf Tryd.prog 121 = some ⟨.ptr 5, 1, 8, [.nilptr]⟩ := by kernel_rfl
@[go_sem] theorem ti122 : tiOf Tryd.prog 122 = some ⟨.map 9 3, 1, 8, [.nilmp]⟩ := by kernel_rfl
@[go_sem] theorem ti123 : tiOf Tryd.prog 123 = some ⟨.map 3 3, 1, 8, [.nilmp]⟩ := by kernel_rfl
@[go_sem] theorem ti124 : tiOf Tryd.prog 124 = some ⟨.slice 32, 1, 24, [.snil]⟩ := by kernel_rfl
@[go_sem] theorem ti125 : tiOf Tryd.prog 125 = some ⟨.func, 1, 8, [.nilfn]⟩ := by kernel_rfl
@[go_sem] theorem ti126 : tiOf Tryd.prog 126 = some ⟨.func, 1, 8, [.nilfn]⟩ := by kernel_rfl
@[go_sem] theorem ti127 : tiOf Tryd.prog 127 = some ⟨.func, 1, 8, [.nilfn]⟩ := by kernel_rfl
@[go_sem] theorem ti128 : tiOf Tryd.prog 128 = some ⟨.func, 1, 8, [.nilfn]⟩ := by kernel_rfl
@[go_sem] theorem ti129 : tiOf Tryd.prog 129 = some ⟨.func, 1, 8, [.nilfn]⟩ := by kernel_rfl
@[go_sem] theorem ti131 : tiOf Tryd.prog 131 = some ⟨.func, 1, 8, [.nilfn]⟩ := by kernel_rfl
@[go_sem] theorem ti133 : tiOf Tryd.prog 133 = some ⟨.func, 1, 8, [.nilfn]⟩ := by kernel_rfl
@[go_sem] theorem ti134 : tiOf Tryd.prog 134 = some ⟨.other, 1, 8, [.nilptr]⟩ := by kernel_rfl
@[go_sem] theorem ti135 : tiOf Tryd.prog 135 = some ⟨.func, 1, 8, [.nilfn]⟩ := by kernel_rfl
@[go_sem] theorem ti136 : tiOf Tryd.prog 136 = some ⟨.func, 1, 8, [.nilfn]⟩ := by kernel_rfl
@[go_sem] theorem ti137 : tiOf Tryd.prog 137 = some ⟨.func, 1, 8, [.nilfn]⟩ := by kernel_rfl
@[go_sem] theorem ti138 : tiOf Tryd.prog 138 = some ⟨.func, 1, 8, [.nilfn]⟩ := by kernel_rfl
@[go_sem] theorem ti140 : tiOf Tryd.prog 140 = some ⟨.func, 1, 8, [.nilfn]⟩ := by kernel_rfl
@[go_sem] theorem ti141 : tiOf Tryd.prog 141 = some ⟨.func, 1, 8, [.nilfn]⟩ := by kernel_rfl
@[go_sem] theorem ti142 : tiOf Tryd.prog 142 = some ⟨.func, 1, 8, [.nilfn]⟩ := by kernel_rfl
@[go_sem] theorem ti143 : tiOf Tryd.prog 143 = some ⟨.int .u64, 1, 8, [.int .u64 0]⟩ := by kernel_rfl
@[go_sem] theorem ti145 : tiOf Tryd.prog 145 = some ⟨.func, 1, 8, [.nilfn]⟩ := by kernel_rfl
@[go_sem] theorem ti146 : tiOf Tryd.prog 146 = some ⟨.func, 1, 8, [.nilfn]⟩ := by kernel_rfl
@[go_sem] theorem ti147 : tiOf Tryd.prog 147 = some ⟨.arr 24 5, 24, 24, List.replicate 24 (.int .u8 0)⟩ := by kernel_rfl
@[go_sem] theorem ti148 : tiOf Tryd.prog 148 = some ⟨.int .u64, 1, 8, [.int .u64 0]⟩ := by kernel_rfl
@[go_sem] theorem ti149 : tiOf Tryd.prog 149 = some ⟨.func, 1, 8, [.nilfn]⟩ := by kernel_rfl
@[go_sem] theorem ti150 : tiOf Tryd.prog 150 = some ⟨.func, 1, 8, [.nilfn]⟩ := by kernel_rfl
@[go_sem] theorem ti152 : tiOf Tryd.prog 152 = some ⟨.func, 1, 8, [.nilfn]⟩ := by kernel_rfl
@[go_sem] theorem ti153 : tiOf Tryd.prog 153 = some ⟨.int .u32, 1, 4, [.int .u32 0]⟩ := by kernel_rfl
@[go_sem] theorem ti155 : tiOf Tryd.prog 155 = some ⟨.func, 1, 8, [.nilfn]⟩ := by kernel_rfl
@[go_sem] theorem ti157 : tiOf Tryd.prog 157 = some ⟨.func, 1, 8, [.nilfn]⟩ := by kernel_rfl
@[go_sem] theorem ti158 : tiOf Tryd.prog 158 = some ⟨.func, 1, 8, [.nilfn]⟩ := by kernel_rfl
@[go_sem] theorem ti159 : tiOf Tryd.prog 159 = some ⟨.arr 20 148, 20, 160, List.replicate 20 (.int .u64 0)⟩ := by kernel_rfl
@[go_sem] theorem ti160 : tiOf Tryd.prog 160 = some ⟨.arr 65 5, 65, 65, List.replicate 65 (.int .u8 0)⟩ := by kernel_rfl
@[go_sem] theorem ti161 : tiOf Tryd.prog 161 = some ⟨.func, 1, 8, [.nilfn]⟩ := by kernel_rfl
@[go_sem] theorem ti162 : tiOf Tryd.prog 162 = some ⟨.arr 256 5, 256, 256, List.replicate 256 (.int .u8 0)⟩ := by kernel_rfl
@[go_sem] theorem ti163 : tiOf Tryd.prog 163 = some ⟨.struct [(0, 5), (1, 5)] true, 2, 2, [.int .u8 0, .int .u8 0]⟩ := by kernel_rfl
@[go_sem] theorem ti164 : tiOf Tryd.prog 164 = some ⟨.struct [(0, 5), (1, 5)] true, 2, 2, [.int .u8 0, .int .u8 0]⟩ := by kernel_rfl
@[go_sem] theorem ti165 : tiOf Tryd.prog 165 = some ⟨.arr 16 164, 32, 32, List.replicate 32 (.int .u8 0)⟩ := by kernel_rfl
@[go_sem] theorem ti166 : tiOf Tryd.prog 166 = some ⟨.func, 1, 8, [.nilfn]⟩ := by kernel_rfl
@[go_sem] theorem ti167 : tiOf Tryd.prog 167 = some ⟨.func, 1, 8, [.nilfn]⟩ := by kernel_rfl
@[go_sem] theorem ti168 : tiOf Tryd.prog 168 = some ⟨.arr 32 5, 32, 32, List.replicate 32 (.int .u8 0)⟩ := by kernel_rfl
@[go_sem] theorem ti169 : tiOf Tryd.prog 169 = some ⟨.arr 64 5, 64, 64, List.replicate 64 (.int .u8 0)⟩ := by kernel_rfl
@[go_sem] theorem ti170 : tiOf Tryd.prog 170 = some ⟨.struct [(0, 17), (1, 17), (2, 17), (3, 9)] false, 4, 40, [.nilptr, .nilptr, .nilptr, .str []]⟩ := by kernel_rfl
@[go_sem] theorem ti171 : tiOf Tryd.prog 171 = some ⟨.struct [(0, 17), (1, 17), (2, 17), (3, 9)] false, 4, 40, [.nilptr, .nilptr, .nilptr, .str []]⟩ := by kernel_rfl
@[go_sem] theorem ti172 : tiOf Tryd.prog 172 = some ⟨.arr 0 16, 0, 0, []⟩ := by kernel_rfl
@[go_sem] theorem ti173 : tiOf Tryd.prog 173 = some ⟨.struct [(0, 172)] false, 0, 0, []⟩ := by kernel_rfl
@[go_sem] theorem ti174 : tiOf Tryd.prog 174 = some ⟨.struct [(0, 172)] false, 0, 0, []⟩ := by kernel_rfl
@[go_sem] theorem ti175 : tiOf Tryd.prog 175 = some ⟨.int .u8, 1, 1, [.int .u8 0]⟩ := by kernel_rfl
@[go_sem] theorem ti176 : tiOf Tryd.prog 176 = some ⟨.int .u8, 1, 1, [.int .u8 0]⟩ := by kernel_rfl
@[go_sem] theorem ti177 : tiOf Tryd.prog 177 = some ⟨.func, 1, 8, [.nilfn]⟩ := by kernel_rfl
@[go_sem] theorem ti178 : tiOf Tryd.prog 178 = some ⟨.int .i32, 1, 4, [.int .i32 0]⟩ := by kernel_rfl
@[go_sem] theorem ti179 : tiOf Tryd.prog 179 = some ⟨.int .i32, 1, 4, [.int .i32 0]⟩ := by kernel_rfl
end Go.Proofs.YtfllibbkmpkaiaaDoor.Am
