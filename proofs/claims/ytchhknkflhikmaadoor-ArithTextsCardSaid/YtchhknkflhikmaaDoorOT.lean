/- The types of the program, as they are reckoned with. -/
import Derived.Test.YtchhknkflhikmaaDoorAm13
import Derived.Test.YtchhknkflhikmaaDoorProg
import Derived.KernelRfl
namespace Go.Proofs.YtchhknkflhikmaaDoor.Am
set_option linter.unusedSectionVars false
open Go Go.Proofs
set_option maxRecDepth 100000
@[go_sem] theorem ti1 : tiOf Tryd.prog 1 = some ⟨.func, 1, 8, [.nilfn]⟩ := by kernel_rfl
@[go_sem] theorem ti2 : tiOf Tryd.prog 2 = some ⟨.int .i64, 1, 8, [.int .i64 0]⟩ := by kernel_rfl
@[go_sem] theorem ti3 : tiOf Tryd.prog 3 = some ⟨.int .i64, 1, 8, [.int .i64 0]⟩ := by kernel_rfl
@[go_sem] theorem ti4 : tiOf Tryd.prog 4 = some ⟨.bool, 1, 1, [.bool false]⟩ := by kernel_rfl
@[go_sem] theorem ti5 : tiOf Tryd.prog 5 = some ⟨.int .u8, 1, 1, [.int .u8 0]⟩ := by kernel_rfl
@[go_sem] theorem ti6 : tiOf Tryd.prog 6 = some ⟨.int .u8, 1, 1, [.int .u8 0]⟩ := by kernel_rfl
@[go_sem] theorem ti7 : tiOf Tryd.prog 7 = some ⟨.struct [(0, 2), (1, 3), (2, 4), (3, 6)] true, 4, 24, [.int .i64 0, .int .i64 0, .bool false, .int .u8 0]⟩ := by kernel_rfl
@[go_sem] theorem ti8 : tiOf Tryd.prog 8 = some ⟨.struct [(0, 2), (1, 3), (2, 4), (3, 6)] true, 4, 24, [.int .i64 0, .int .i64 0, .bool false, .int .u8 0]⟩ := by kernel_rfl
@[go_sem] theorem ti9 : tiOf Tryd.prog 9 = some ⟨.str, 1, 16, [.str []]⟩ := by kernel_rfl
@[go_sem] theorem ti10 : tiOf Tryd.prog 10 = some ⟨.str, 1, 16, [.str []]⟩ := by kernel_rfl
@[go_sem] theorem ti11 : tiOf Tryd.prog 11 = some ⟨.str, 1, 16, [.str []]⟩ := by kernel_rfl
@[go_sem] theorem ti12 : tiOf Tryd.prog 12 = some ⟨.int .u64, 1, 8, [.int .u64 0]⟩ := by kernel_rfl
@[go_sem] theorem ti13 : tiOf Tryd.prog 13 = some ⟨.struct [(0, 9), (1, 12)] false, 2, 24, [.str [], .int .u64 0]⟩ := by kernel_rfl
@[go_sem] theorem ti14 : tiOf Tryd.prog 14 = some ⟨.struct [(0, 9), (1, 12)] false, 2, 24, [.str [], .int .u64 0]⟩ := by kernel_rfl
@[go_sem] theorem ti15 : tiOf Tryd.prog 15 = some ⟨.ptr 70, 1, 8, [.nilptr]⟩ := by kernel_rfl
@[go_sem] theorem ti16 : tiOf Tryd.prog 16 = some ⟨.ptr 73, 1, 8, [.nilptr]⟩ := by kernel_rfl
@[go_sem] theorem ti17 : tiOf Tryd.prog 17 = some ⟨.ptr 82, 1, 8, [.nilptr]⟩ := by kernel_rfl
@[go_sem] theorem ti18 : tiOf Tryd.prog 18 = some ⟨.struct [(0, 17)] false, 1, 8, [.nilptr]⟩ := by kernel_rfl
@[go_sem] theorem ti19 : tiOf Tryd.prog 19 = some ⟨.struct [(0, 17)] false, 1, 8, [.nilptr]⟩ := by kernel_rfl
@[go_sem] theorem ti20 : tiOf Tryd.prog 20 = some ⟨.iface, 1, 16, [.nilif]⟩ := by kernel_rfl
@[go_sem] theorem ti21 : tiOf Tryd.prog 21 = some ⟨.int .i32, 1, 4, [.int .i32 0]⟩ := by kernel_rfl
@[go_sem] theorem ti23 : tiOf Tryd.prog 23 = some ⟨.func, 1, 8, [.nilfn]⟩ := by kernel_rfl
@[go_sem] theorem ti24 : tiOf Tryd.prog 24 = some ⟨.func, 1, 8, [.nilfn]⟩ := by kernel_rfl
@[go_sem] theorem ti25 : tiOf Tryd.prog 25 = some ⟨.int .i64, 1, 8, [.int .i64 0]⟩ := by kernel_rfl
@[go_sem] theorem ti27 : tiOf Tryd.prog 27 = some ⟨.func, 1, 8, [.nilfn]⟩ := by kernel_rfl
@[go_sem] theorem ti28 : tiOf Tryd.prog 28 = some ⟨.func, 1, 8, [.nilfn]⟩ := by kernel_rfl
@[go_sem] theorem ti29 : tiOf Tryd.prog 29 = some ⟨.func, 1, 8, [.nilfn]⟩ := by kernel_rfl
@[go_sem] theorem ti30 : tiOf Tryd.prog 30 = some ⟨.func, 1, 8, [.nilfn]⟩ := by kernel_rfl
@[go_sem] theorem ti31 : tiOf Tryd.prog 31 = some ⟨.func, 1, 8, [.nilfn]⟩ := by kernel_rfl
@[go_sem] theorem ti32 : tiOf Tryd.prog 32 = some ⟨.func, 1, 8, [.nilfn]⟩ := by kernel_rfl
@[go_sem] theorem ti33 : tiOf Tryd.prog 33 = some ⟨.func, 1, 8, [.nilfn]⟩ := by kernel_rfl
@[go_sem] theorem ti34 : tiOf Tryd.prog 34 = some ⟨.func, 1, 8, [.nilfn]⟩ := by kernel_rfl
@[go_sem] theorem ti35 : tiOf Tryd.prog 35 = some ⟨.int .i32, 1, 4, [.int .i32 0]⟩ := by kernel_rfl
@[go_sem] theorem ti36 : tiOf Tryd.prog 36 = some ⟨.func, 1, 8, [.nilfn]⟩ := by kernel_rfl
@[go_sem] theorem ti37 : tiOf Tryd.prog 37 = some ⟨.func, 1, 8, [.nilfn]⟩ := by kernel_rfl
@[go_sem] theorem ti38 : tiOf Tryd.prog 38 = some ⟨.func, 1, 8, [.nilfn]⟩ := by kernel_rfl
@[go_sem] theorem ti39 : tiOf Tryd.prog 39 = some ⟨.func, 1, 8, [.nilfn]⟩ := by kernel_rfl
@[go_sem] theorem ti40 : tiOf Tryd.prog 40 = some ⟨.func, 1, 8, [.nilfn]⟩ := by kernel_rfl
@[go_sem] theorem ti41 : tiOf Tryd.prog 41 = some ⟨.func, 1, 8, [.nilfn]⟩ := by kernel_rfl
@[go_sem] theorem ti42 : tiOf Tryd.prog 42 = some ⟨.arr 52 3, 52, 416, List.replicate 52 (.int .i64 0)⟩ := by kernel_rfl
@[go_sem] theorem ti43 : tiOf Tryd.prog 43 = some ⟨.func, 1, 8, [.nilfn]⟩ := by kernel_rfl
@[go_sem] theorem ti44 : tiOf Tryd.prog 44 = some ⟨.func, 1, 8, [.nilfn]⟩ := by kernel_rfl
@[go_sem] theorem ti45 : tiOf Tryd.prog 45 = some ⟨.slice 5, 1, 24, [.snil]⟩ := by kernel_rfl
@[go_sem] theorem ti46 : tiOf Tryd.prog 46 = some ⟨.func, 1, 8, [.nilfn]⟩ := by kernel_rfl
@[go_sem] theorem ti47 : tiOf Tryd.prog 47 = some ⟨.func, 1, 8, [.nilfn]⟩ := by kernel_rfl
@[go_sem] theorem ti48 : tiOf Tryd.prog 48 = some ⟨.func, 1, 8, [.nilfn]⟩ := by kernel_rfl
@[go_sem] theorem ti49 : tiOf Tryd.prog 49 = some ⟨.func, 1, 8, [.nilfn]⟩ := by kernel_rfl
@[go_sem] theorem ti50 : tiOf Tryd.prog 50 = some ⟨.func, 1, 8, [.nilfn]⟩ := by kernel_rfl
@[go_sem] theorem ti51 : tiOf Tryd.prog 51 = some ⟨.func, 1, 8, [.nilfn]⟩ := by kernel_rfl
@[go_sem] theorem ti52 : tiOf Tryd.prog 52 = some ⟨.arr 24 5, 24, 24, List.replicate 24 (.int .u8 0)⟩ := by kernel_rfl
@[go_sem] theorem ti53 : tiOf Tryd.prog 53 = some ⟨.int .u64, 1, 8, [.int .u64 0]⟩ := by kernel_rfl
@[go_sem] theorem ti54 : tiOf Tryd.prog 54 = some ⟨.func, 1, 8, [.nilfn]⟩ := by kernel_rfl
@[go_sem] theorem ti55 : tiOf Tryd.prog 55 = some ⟨.func, 1, 8, [.nilfn]⟩ := by kernel_rfl
@[go_sem] theorem ti57 : tiOf Tryd.prog 57 = some ⟨.func, 1, 8, [.nilfn]⟩ := by kernel_rfl
@[go_sem] theorem ti58 : tiOf Tryd.prog 58 = some ⟨.func, 1, 8, [.nilfn]⟩ := by kernel_rfl
@[go_sem] theorem ti59 : tiOf Tryd.prog 59 = some ⟨.arr 20 53, 20, 160, List.replicate 20 (.int .u64 0)⟩ := by kernel_rfl
@[go_sem] theorem ti60 : tiOf Tryd.prog 60 = some ⟨.int .u32, 1, 4, [.int .u32 0]⟩ := by kernel_rfl
@[go_sem] theorem ti61 : tiOf Tryd.prog 61 = some ⟨.arr 65 5, 65, 65, List.replicate 65 (.int .u8 0)⟩ := by kernel_rfl
@[go_sem] theorem ti62 : tiOf Tryd.prog 62 = some ⟨.func, 1, 8, [.nilfn]⟩ := by kernel_rfl
@[go_sem] theorem ti63 : tiOf Tryd.prog 63 = some ⟨.int .u64, 1, 8, [.int .u64 0]⟩ := by kernel_rfl
@[go_sem] theorem ti64 : tiOf Tryd.prog 64 = some ⟨.func, 1, 8, [.nilfn]⟩ := by kernel_rfl
@[go_sem] theorem ti65 : tiOf Tryd.prog 65 = some ⟨.func, 1, 8, [.nilfn]⟩ := by kernel_rfl
@[go_sem] theorem ti66 : tiOf Tryd.prog 66 = some ⟨.arr 32 5, 32, 32, List.replicate 32 (.int .u8 0)⟩ := by kernel_rfl
@[go_sem] theorem ti67 : tiOf Tryd.prog 67 = some ⟨.arr 64 5, 64, 64, List.replicate 64 (.int .u8 0)⟩ := by kernel_rfl
@[go_sem] theorem ti68 : tiOf Tryd.prog 68 = some ⟨.func, 1, 8, [.nilfn]⟩ := by kernel_rfl
@[go_sem] theorem ti69 : tiOf Tryd.prog 69 = some ⟨.struct [(0, 17), (1, 17), (2, 17), (3, 9)] false, 4, 40, [.nilptr, .nilptr, .nilptr, .str []]⟩ := by kernel_rfl
@[go_sem] theorem ti70 : tiOf Tryd.prog 70 = some ⟨.struct [(0, 17), (1, 17), (2, 17), (3, 9)] false, 4, 40, [.nilptr, .nilptr, .nilptr, .str []]⟩ := by kernel_rfl
@[go_sem] theorem ti71 : tiOf Tryd.prog 71 = some ⟨.arr 0 16, 0, 0, []⟩ := by kernel_rfl
@[go_sem] theorem ti72 : tiOf Tryd.prog 72 = some ⟨.struct [(0, 71)] false, 0, 0, []⟩ := by kernel_rfl
@[go_sem] theorem ti73 : tiOf Tryd.prog 73 = some ⟨.struct [(0, 71)] false, 0, 0, []⟩ := by kernel_rfl
@[go_sem] theorem ti74 : tiOf Tryd.prog 74 = some ⟨.func, 1, 8, [.nilfn]⟩ := by kernel_rfl
@[go_sem] theorem ti75 : tiOf Tryd.prog 75 = some ⟨.int .u8, 1, 1, [.int .u8 0]⟩ := by kernel_rfl
@[go_sem] theorem ti76 : tiOf Tryd.prog 76 = some ⟨.int .u8, 1, 1, [.int .u8 0]⟩ := by kernel_rfl
@[go_sem] theorem ti77 : tiOf Tryd.prog 77 = some ⟨.func, 1, 8, [.nilfn]⟩ := by kernel_rfl
@[go_sem] theorem ti78 : tiOf Tryd.prog 78 = some ⟨.ptr 5, 1, 8, [.nilptr]⟩ := by kernel_rfl
@[go_sem] theorem ti79 : tiOf Tryd.prog 79 = some ⟨.int .i32, 1, 4, [.int .i32 0]⟩ := by kernel_rfl
@[go_sem] theorem ti80 : tiOf Tryd.prog 80 = some ⟨.int .i32, 1, 4, [.int .i32 0]⟩ := by kernel_rfl
@[go_sem] theorem ti83 : tiOf Tryd.prog 83 = some ⟨.other, 1, 8, [.nilptr]⟩ := by kernel_rfl
end Go.Proofs.YtchhknkflhikmaaDoor.Am
