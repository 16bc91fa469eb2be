/- The types of this seat, as a table: made by program out of the translation; held against it by the kernel. -/
import Derived.Test.YtieflafgcajhbaaDoorLyB
import Derived.Test.YtieflafgcajhbaaDoorProg
import Derived.KernelRfl
namespace Go.Proofs.YtieflafgcajhbaaDoor
open Go.Ab
def tab : List (Nat × TRec) := [
  (2, ⟨.int .i64, false, 1, 8, [.int .i64 0]⟩),
  (3, ⟨.int .i64, false, 1, 8, [.int .i64 0]⟩),
  (4, ⟨.bool, false, 1, 1, [.bool false]⟩),
  (5, ⟨.int .u8, false, 1, 1, [.int .u8 0]⟩),
  (9, ⟨.string, false, 1, 16, [.string ⟨#[]⟩]⟩),
  (12, ⟨.int .u64, false, 1, 8, [.int .u64 0]⟩),
  (13, ⟨.struct [(0, 9), (1, 12)], true, 2, 24, [.string ⟨#[]⟩, .int .u64 0]⟩),
  (21, ⟨.int .i32, false, 1, 4, [.int .i32 0]⟩),
  (22, ⟨.int .i64, false, 1, 8, [.int .i64 0]⟩),
  (36, ⟨.slice 9, false, 1, 24, [.slice none 0 0]⟩),
  (59, ⟨.pointer 55, false, 1, 8, [.pointer none]⟩),
  (61, ⟨.slice 5, false, 1, 24, [.slice none 0 0]⟩),
  (69, ⟨.array 24 5, true, 24, 24, [.int .u8 0, .int .u8 0, .int .u8 0, .int .u8 0, .int .u8 0, .int .u8 0, .int .u8 0, .int .u8 0, .int .u8 0, .int .u8 0, .int .u8 0, .int .u8 0, .int .u8 0, .int .u8 0, .int .u8 0, .int .u8 0, .int .u8 0, .int .u8 0, .int .u8 0, .int .u8 0, .int .u8 0, .int .u8 0, .int .u8 0, .int .u8 0]⟩),
  (70, ⟨.int .u64, false, 1, 8, [.int .u64 0]⟩),
  (78, ⟨.array 20 70, true, 20, 160, [.int .u64 0, .int .u64 0, .int .u64 0, .int .u64 0, .int .u64 0, .int .u64 0, .int .u64 0, .int .u64 0, .int .u64 0, .int .u64 0, .int .u64 0, .int .u64 0, .int .u64 0, .int .u64 0, .int .u64 0, .int .u64 0, .int .u64 0, .int .u64 0, .int .u64 0, .int .u64 0]⟩),
  (79, ⟨.int .u32, false, 1, 4, [.int .u32 0]⟩),
  (82, ⟨.int .u64, false, 1, 8, [.int .u64 0]⟩),
  (84, ⟨.other, false, 1, 8, [.nilFunc]⟩),
  (86, ⟨.struct [(0, 5), (1, 5)], true, 2, 2, [.int .u8 0, .int .u8 0]⟩),
  (87, ⟨.struct [(0, 5), (1, 5)], true, 2, 2, [.int .u8 0, .int .u8 0]⟩),
  (88, ⟨.array 16 87, true, 32, 32, [.int .u8 0, .int .u8 0, .int .u8 0, .int .u8 0, .int .u8 0, .int .u8 0, .int .u8 0, .int .u8 0, .int .u8 0, .int .u8 0, .int .u8 0, .int .u8 0, .int .u8 0, .int .u8 0, .int .u8 0, .int .u8 0, .int .u8 0, .int .u8 0, .int .u8 0, .int .u8 0, .int .u8 0, .int .u8 0, .int .u8 0, .int .u8 0, .int .u8 0, .int .u8 0, .int .u8 0, .int .u8 0, .int .u8 0, .int .u8 0, .int .u8 0, .int .u8 0]⟩),
  (92, ⟨.array 32 5, true, 32, 32, [.int .u8 0, .int .u8 0, .int .u8 0, .int .u8 0, .int .u8 0, .int .u8 0, .int .u8 0, .int .u8 0, .int .u8 0, .int .u8 0, .int .u8 0, .int .u8 0, .int .u8 0, .int .u8 0, .int .u8 0, .int .u8 0, .int .u8 0, .int .u8 0, .int .u8 0, .int .u8 0, .int .u8 0, .int .u8 0, .int .u8 0, .int .u8 0, .int .u8 0, .int .u8 0, .int .u8 0, .int .u8 0, .int .u8 0, .int .u8 0, .int .u8 0, .int .u8 0]⟩),
  (104, ⟨.pointer 5, false, 1, 8, [.pointer none]⟩)]
theorem tabOk : TabOk Tryd.prog tab :=
  ⟨by kernel_rfl,
   by kernel_rfl,
   by kernel_rfl,
   by kernel_rfl,
   by kernel_rfl,
   by kernel_rfl,
   by kernel_rfl,
   by kernel_rfl,
   by kernel_rfl,
   by kernel_rfl,
   by kernel_rfl,
   by kernel_rfl,
   by kernel_rfl,
   by kernel_rfl,
   by kernel_rfl,
   by kernel_rfl,
   by kernel_rfl,
   by kernel_rfl,
   by kernel_rfl,
   by kernel_rfl,
   by kernel_rfl,
   by kernel_rfl,
   by kernel_rfl, trivial⟩
noncomputable def C : Cx := ⟨Tryd.prog, tab, tabOk_look tabOk, by kernel_rfl, 0⟩
end Go.Proofs.YtieflafgcajhbaaDoor
