/- The types of the program, as they are reckoned with. -/
import Derived.Test.YtlalbjkdlkhjiaaAm13
import Derived.Test.YtlalbjkdlkhjiaaProg
import Derived.KernelRfl
namespace Go.Proofs.Ytlalbjkdlkhjiaa.Am
set_option linter.unusedSectionVars false
open Go Go.Proofs
set_option maxRecDepth 100000
@[go_sem] theorem ti1 : tiOf Try.prog 1 = some ⟨.func, 1, 8, [.nilfn]⟩ := by kernel_rfl
@[go_sem] theorem ti2 : tiOf Try.prog 2 = some ⟨.int .i64, 1, 8, [.int .i64 0]⟩ := by kernel_rfl
@[go_sem] theorem ti3 : tiOf Try.prog 3 = some ⟨.int .i64, 1, 8, [.int .i64 0]⟩ := by kernel_rfl
@[go_sem] theorem ti4 : tiOf Try.prog 4 = some ⟨.bool, 1, 1, [.bool false]⟩ := by kernel_rfl
@[go_sem] theorem ti5 : tiOf Try.prog 5 = some ⟨.int .u8, 1, 1, [.int .u8 0]⟩ := by kernel_rfl
@[go_sem] theorem ti6 : tiOf Try.prog 6 = some ⟨.int .u8, 1, 1, [.int .u8 0]⟩ := by kernel_rfl
@[go_sem] theorem ti7 : tiOf Try.prog 7 = some ⟨.struct [(0, 2), (1, 3), (2, 4), (3, 6)] true, 4, 24, [.int .i64 0, .int .i64 0, .bool false, .int .u8 0]⟩ := by kernel_rfl
@[go_sem] theorem ti8 : tiOf Try.prog 8 = some ⟨.struct [(0, 2), (1, 3), (2, 4), (3, 6)] true, 4, 24, [.int .i64 0, .int .i64 0, .bool false, .int .u8 0]⟩ := by kernel_rfl
@[go_sem] theorem ti9 : tiOf Try.prog 9 = some ⟨.str, 1, 16, [.str []]⟩ := by kernel_rfl
@[go_sem] theorem ti10 : tiOf Try.prog 10 = some ⟨.str, 1, 16, [.str []]⟩ := by kernel_rfl
@[go_sem] theorem ti11 : tiOf Try.prog 11 = some ⟨.str, 1, 16, [.str []]⟩ := by kernel_rfl
@[go_sem] theorem ti12 : tiOf Try.prog 12 = some ⟨.int .u64, 1, 8, [.int .u64 0]⟩ := by kernel_rfl
@[go_sem] theorem ti13 : tiOf Try.prog 13 = some ⟨.struct [(0, 9), (1, 12)] false, 2, 24, [.str [], .int .u64 0]⟩ := by kernel_rfl
@[go_sem] theorem ti14 : tiOf Try.prog 14 = some ⟨.struct [(0, 9), (1, 12)] false, 2, 24, [.str [], .int .u64 0]⟩ := by kernel_rfl
@[go_sem] theorem ti15 : tiOf Try.prog 15 = some ⟨.ptr 42, 1, 8, [.nilptr]⟩ := by kernel_rfl
@[go_sem] theorem ti16 : tiOf Try.prog 16 = some ⟨.ptr 45, 1, 8, [.nilptr]⟩ := by kernel_rfl
@[go_sem] theorem ti17 : tiOf Try.prog 17 = some ⟨.ptr 54, 1, 8, [.nilptr]⟩ := by kernel_rfl
@[go_sem] theorem ti18 : tiOf Try.prog 18 = some ⟨.struct [(0, 17)] false, 1, 8, [.nilptr]⟩ := by kernel_rfl
@[go_sem] theorem ti19 : tiOf Try.prog 19 = some ⟨.struct [(0, 17)] false, 1, 8, [.nilptr]⟩ := by kernel_rfl
@[go_sem] theorem ti20 : tiOf Try.prog 20 = some ⟨.iface, 1, 16, [.nilif]⟩ := by kernel_rfl
@[go_sem] theorem ti21 : tiOf Try.prog 21 = some ⟨.int .i32, 1, 4, [.int .i32 0]⟩ := by kernel_rfl
@[go_sem] theorem ti22 : tiOf Try.prog 22 = some ⟨.struct [(0, 3), (1, 3)] true, 2, 16, [.int .i64 0, .int .i64 0]⟩ := by kernel_rfl
@[go_sem] theorem ti23 : tiOf Try.prog 23 = some ⟨.struct [(0, 3), (1, 3)] true, 2, 16, [.int .i64 0, .int .i64 0]⟩ := by kernel_rfl
@[go_sem] theorem ti24 : tiOf Try.prog 24 = some ⟨.func, 1, 8, [.nilfn]⟩ := by kernel_rfl
@[go_sem] theorem ti25 : tiOf Try.prog 25 = some ⟨.func, 1, 8, [.nilfn]⟩ := by kernel_rfl
@[go_sem] theorem ti26 : tiOf Try.prog 26 = some ⟨.func, 1, 8, [.nilfn]⟩ := by kernel_rfl
@[go_sem] theorem ti27 : tiOf Try.prog 27 = some ⟨.func, 1, 8, [.nilfn]⟩ := by kernel_rfl
@[go_sem] theorem ti28 : tiOf Try.prog 28 = some ⟨.func, 1, 8, [.nilfn]⟩ := by kernel_rfl
@[go_sem] theorem ti29 : tiOf Try.prog 29 = some ⟨.func, 1, 8, [.nilfn]⟩ := by kernel_rfl
@[go_sem] theorem ti31 : tiOf Try.prog 31 = some ⟨.func, 1, 8, [.nilfn]⟩ := by kernel_rfl
@[go_sem] theorem ti32 : tiOf Try.prog 32 = some ⟨.func, 1, 8, [.nilfn]⟩ := by kernel_rfl
@[go_sem] theorem ti33 : tiOf Try.prog 33 = some ⟨.func, 1, 8, [.nilfn]⟩ := by kernel_rfl
@[go_sem] theorem ti34 : tiOf Try.prog 34 = some ⟨.func, 1, 8, [.nilfn]⟩ := by kernel_rfl
@[go_sem] theorem ti35 : tiOf Try.prog 35 = some ⟨.func, 1, 8, [.nilfn]⟩ := by kernel_rfl
@[go_sem] theorem ti36 : tiOf Try.prog 36 = some ⟨.int .u64, 1, 8, [.int .u64 0]⟩ := by kernel_rfl
@[go_sem] theorem ti37 : tiOf Try.prog 37 = some ⟨.int .u32, 1, 4, [.int .u32 0]⟩ := by kernel_rfl
@[go_sem] theorem ti39 : tiOf Try.prog 39 = some ⟨.func, 1, 8, [.nilfn]⟩ := by kernel_rfl
@[go_sem] theorem ti40 : tiOf Try.prog 40 = some ⟨.func, 1, 8, [.nilfn]⟩ := by kernel_rfl
@[go_sem] theorem ti41 : tiOf Try.prog 41 = some ⟨.struct [(0, 17), (1, 17), (2, 17), (3, 9)] false, 4, 40, [.nilptr, .nilptr, .nilptr, .str []]⟩ := by kernel_rfl
@[go_sem] theorem ti42 : tiOf Try.prog 42 = some ⟨.struct [(0, 17), (1, 17), (2, 17), (3, 9)] false, 4, 40, [.nilptr, .nilptr, .nilptr, .str []]⟩ := by kernel_rfl
@[go_sem] theorem ti43 : tiOf Try.prog 43 = some ⟨.arr 0 16, 0, 0, []⟩ := by kernel_rfl
@[go_sem] theorem ti44 : tiOf Try.prog 44 = some ⟨.struct [(0, 43)] false, 0, 0, []⟩ := by kernel_rfl
@[go_sem] theorem ti45 : tiOf Try.prog 45 = some ⟨.struct [(0, 43)] false, 0, 0, []⟩ := by kernel_rfl
@[go_sem] theorem ti46 : tiOf Try.prog 46 = some ⟨.func, 1, 8, [.nilfn]⟩ := by kernel_rfl
@[go_sem] theorem ti47 : tiOf Try.prog 47 = some ⟨.int .u8, 1, 1, [.int .u8 0]⟩ := by kernel_rfl
@[go_sem] theorem ti48 : tiOf Try.prog 48 = some ⟨.int .u8, 1, 1, [.int .u8 0]⟩ := by kernel_rfl
@[go_sem] theorem ti49 : tiOf Try.prog 49 = some ⟨.func, 1, 8, [.nilfn]⟩ := by kernel_rfl
@[go_sem] theorem ti50 : tiOf Try.prog 50 = some ⟨.ptr 5, 1, 8, [.nilptr]⟩ := by kernel_rfl
@[go_sem] theorem ti51 : tiOf Try.prog 51 = some ⟨.int .i32, 1, 4, [.int .i32 0]⟩ := by kernel_rfl
@[go_sem] theorem ti52 : tiOf Try.prog 52 = some ⟨.int .i32, 1, 4, [.int .i32 0]⟩ := by kernel_rfl
@[go_sem] theorem ti55 : tiOf Try.prog 55 = some ⟨.other, 1, 8, [.nilptr]⟩ := by kernel_rfl
end Go.Proofs.Ytlalbjkdlkhjiaa.Am
