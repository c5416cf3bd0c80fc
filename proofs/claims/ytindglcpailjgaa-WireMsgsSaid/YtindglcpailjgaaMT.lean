/- The types of the program, as they are reckoned with. -/
import Derived.Test.YtindglcpailjgaaAm16
import Derived.Test.YtindglcpailjgaaProg
import Derived.KernelRfl
namespace Go.Proofs.Ytindglcpailjgaa.Am
set_option linter.unusedSectionVars false
open Go Go.Proofs
set_option maxRecDepth 100000
@[go_sem] theorem ti1 : tiOf Try.prog 1 = some ⟨.func, 1, 8, [.nilfn]⟩ := by kernel_rfl
@[go_sem] theorem ti2 : tiOf Try.prog 2 = some ⟨.int .i64, 1, 8, [.int .i64 0]⟩ := by kernel_rfl
@[go_sem] theorem ti3 : tiOf Try.prog 3 = some ⟨.int .i64, 1, 8, [.int .i64 0]⟩ := by kernel_rfl
@[go_sem] theorem ti4 : tiOf Try.prog 4 = some ⟨.bool, 1, 1, [.bool false]⟩ := by kernel_rfl
@[go_sem] theorem ti5 : tiOf Try.prog 5 = some ⟨.int .u8, 1, 1, [.int .u8 0]⟩ := by kernel_rfl
@[go_sem] theorem ti6 : tiOf Try.prog 6 = some ⟨.int .u8, 1, 1, [.int .u8 0]⟩ := by kernel_rfl
@[go_sem] theorem ti7 : tiOf Try.prog 7 = some ⟨.struct [(0, 2), (1, 3), (2, 4), (3, 6)] true, 4, 24, [.int .i64 0, .int .i64 0, .bool false, .int .u8 0]⟩ := by kernel_rfl
@[go_sem] theorem ti8 : tiOf Try.prog 8 = some ⟨.struct [(0, 2), (1, 3), (2, 4), (3, 6)] true, 4, 24, [.int .i64 0, .int .i64 0, .bool false, .int .u8 0]⟩ := by kernel_rfl
@[go_sem] theorem ti9 : tiOf Try.prog 9 = some ⟨.str, 1, 16, [.str []]⟩ := by kernel_rfl
@[go_sem] theorem ti10 : tiOf Try.prog 10 = some ⟨.str, 1, 16, [.str []]⟩ := by kernel_rfl
@[go_sem] theorem ti11 : tiOf Try.prog 11 = some ⟨.str, 1, 16, [.str []]⟩ := by kernel_rfl
@[go_sem] theorem ti12 : tiOf Try.prog 12 = some ⟨.int .u64, 1, 8, [.int .u64 0]⟩ := by kernel_rfl
@[go_sem] theorem ti13 : tiOf Try.prog 13 = some ⟨.struct [(0, 9), (1, 12)] false, 2, 24, [.str [], .int .u64 0]⟩ := by kernel_rfl
@[go_sem] theorem ti14 : tiOf Try.prog 14 = some ⟨.struct [(0, 9), (1, 12)] false, 2, 24, [.str [], .int .u64 0]⟩ := by kernel_rfl
@[go_sem] theorem ti15 : tiOf Try.prog 15 = some ⟨.ptr 50, 1, 8, [.nilptr]⟩ := by kernel_rfl
@[go_sem] theorem ti16 : tiOf Try.prog 16 = some ⟨.ptr 53, 1, 8, [.nilptr]⟩ := by kernel_rfl
@[go_sem] theorem ti17 : tiOf Try.prog 17 = some ⟨.ptr 62, 1, 8, [.nilptr]⟩ := by kernel_rfl
@[go_sem] theorem ti18 : tiOf Try.prog 18 = some ⟨.struct [(0, 17)] false, 1, 8, [.nilptr]⟩ := by kernel_rfl
@[go_sem] theorem ti19 : tiOf Try.prog 19 = some ⟨.struct [(0, 17)] false, 1, 8, [.nilptr]⟩ := by kernel_rfl
@[go_sem] theorem ti20 : tiOf Try.prog 20 = some ⟨.iface, 1, 16, [.nilif]⟩ := by kernel_rfl
@[go_sem] theorem ti21 : tiOf Try.prog 21 = some ⟨.int .i32, 1, 4, [.int .i32 0]⟩ := by kernel_rfl
@[go_sem] theorem ti22 : tiOf Try.prog 22 = some ⟨.int .u32, 1, 4, [.int .u32 0]⟩ := by kernel_rfl
@[go_sem] theorem ti23 : tiOf Try.prog 23 = some ⟨.slice 5, 1, 24, [.snil]⟩ := by kernel_rfl
@[go_sem] theorem ti24 : tiOf Try.prog 24 = some ⟨.struct [(0, 3), (1, 3), (2, 22), (3, 22), (4, 23)] true, 5, 48, [.int .i64 0, .int .i64 0, .int .u32 0, .int .u32 0, .snil]⟩ := by kernel_rfl
@[go_sem] theorem ti25 : tiOf Try.prog 25 = some ⟨.struct [(0, 3), (1, 3), (2, 22), (3, 22), (4, 23)] true, 5, 48, [.int .i64 0, .int .i64 0, .int .u32 0, .int .u32 0, .snil]⟩ := by kernel_rfl
@[go_sem] theorem ti26 : tiOf Try.prog 26 = some ⟨.func, 1, 8, [.nilfn]⟩ := by kernel_rfl
@[go_sem] theorem ti27 : tiOf Try.prog 27 = some ⟨.int .i64, 1, 8, [.int .i64 0]⟩ := by kernel_rfl
@[go_sem] theorem ti29 : tiOf Try.prog 29 = some ⟨.func, 1, 8, [.nilfn]⟩ := by kernel_rfl
@[go_sem] theorem ti30 : tiOf Try.prog 30 = some ⟨.func, 1, 8, [.nilfn]⟩ := by kernel_rfl
@[go_sem] theorem ti31 : tiOf Try.prog 31 = some ⟨.struct [(0, 23), (1, 23), (2, 5)] true, 3, 56, [.snil, .snil, .int .u8 0]⟩ := by kernel_rfl
@[go_sem] theorem ti32 : tiOf Try.prog 32 = some ⟨.struct [(0, 23), (1, 23), (2, 5)] true, 3, 56, [.snil, .snil, .int .u8 0]⟩ := by kernel_rfl
@[go_sem] theorem ti33 : tiOf Try.prog 33 = some ⟨.func, 1, 8, [.nilfn]⟩ := by kernel_rfl
@[go_sem] theorem ti34 : tiOf Try.prog 34 = some ⟨.func, 1, 8, [.nilfn]⟩ := by kernel_rfl
@[go_sem] theorem ti36 : tiOf Try.prog 36 = some ⟨.func, 1, 8, [.nilfn]⟩ := by kernel_rfl
@[go_sem] theorem ti37 : tiOf Try.prog 37 = some ⟨.func, 1, 8, [.nilfn]⟩ := by kernel_rfl
@[go_sem] theorem ti38 : tiOf Try.prog 38 = some ⟨.func, 1, 8, [.nilfn]⟩ := by kernel_rfl
@[go_sem] theorem ti39 : tiOf Try.prog 39 = some ⟨.func, 1, 8, [.nilfn]⟩ := by kernel_rfl
@[go_sem] theorem ti40 : tiOf Try.prog 40 = some ⟨.func, 1, 8, [.nilfn]⟩ := by kernel_rfl
@[go_sem] theorem ti41 : tiOf Try.prog 41 = some ⟨.func, 1, 8, [.nilfn]⟩ := by kernel_rfl
@[go_sem] theorem ti42 : tiOf Try.prog 42 = some ⟨.arr 2 22, 2, 8, [.int .u32 0, .int .u32 0]⟩ := by kernel_rfl
@[go_sem] theorem ti43 : tiOf Try.prog 43 = some ⟨.int .u64, 1, 8, [.int .u64 0]⟩ := by kernel_rfl
@[go_sem] theorem ti44 : tiOf Try.prog 44 = some ⟨.func, 1, 8, [.nilfn]⟩ := by kernel_rfl
@[go_sem] theorem ti45 : tiOf Try.prog 45 = some ⟨.func, 1, 8, [.nilfn]⟩ := by kernel_rfl
@[go_sem] theorem ti47 : tiOf Try.prog 47 = some ⟨.func, 1, 8, [.nilfn]⟩ := by kernel_rfl
@[go_sem] theorem ti48 : tiOf Try.prog 48 = some ⟨.func, 1, 8, [.nilfn]⟩ := by kernel_rfl
@[go_sem] theorem ti49 : tiOf Try.prog 49 = some ⟨.struct [(0, 17), (1, 17), (2, 17), (3, 9)] false, 4, 40, [.nilptr, .nilptr, .nilptr, .str []]⟩ := by kernel_rfl
@[go_sem] theorem ti50 : tiOf Try.prog 50 = some ⟨.struct [(0, 17), (1, 17), (2, 17), (3, 9)] false, 4, 40, [.nilptr, .nilptr, .nilptr, .str []]⟩ := by kernel_rfl
@[go_sem] theorem ti51 : tiOf Try.prog 51 = some ⟨.arr 0 16, 0, 0, []⟩ := by kernel_rfl
@[go_sem] theorem ti52 : tiOf Try.prog 52 = some ⟨.struct [(0, 51)] false, 0, 0, []⟩ := by kernel_rfl
@[go_sem] theorem ti53 : tiOf Try.prog 53 = some ⟨.struct [(0, 51)] false, 0, 0, []⟩ := by kernel_rfl
@[go_sem] theorem ti54 : tiOf Try.prog 54 = some ⟨.func, 1, 8, [.nilfn]⟩ := by kernel_rfl
@[go_sem] theorem ti55 : tiOf Try.prog 55 = some ⟨.int .u8, 1, 1, [.int .u8 0]⟩ := by kernel_rfl
@[go_sem] theorem ti56 : tiOf Try.prog 56 = some ⟨.int .u8, 1, 1, [.int .u8 0]⟩ := by kernel_rfl
@[go_sem] theorem ti57 : tiOf Try.prog 57 = some ⟨.func, 1, 8, [.nilfn]⟩ := by kernel_rfl
@[go_sem] theorem ti58 : tiOf Try.prog 58 = some ⟨.ptr 5, 1, 8, [.nilptr]⟩ := by kernel_rfl
@[go_sem] theorem ti59 : tiOf Try.prog 59 = some ⟨.int .i32, 1, 4, [.int .i32 0]⟩ := by kernel_rfl
@[go_sem] theorem ti60 : tiOf Try.prog 60 = some ⟨.int .i32, 1, 4, [.int .i32 0]⟩ := by kernel_rfl
@[go_sem] theorem ti63 : tiOf Try.prog 63 = some ⟨.other, 1, 8, [.nilptr]⟩ := by kernel_rfl
end Go.Proofs.Ytindglcpailjgaa.Am
