/- The types of this seat, as a table: made by program out of the translation; held against it by the kernel. -/
import Derived.Test.YtpeenheeakhlgaaDoorLyB
import Derived.Test.YtpeenheeakhlgaaDoorProg
import Derived.KernelRfl
namespace Go.Proofs.YtpeenheeakhlgaaDoor
open Go.Ab
def tab : List (Nat × TRec) := [
  (2, ⟨.int .i64, false, 1, 8, [.int .i64 0]⟩),
  (3, ⟨.int .i64, false, 1, 8, [.int .i64 0]⟩),
  (4, ⟨.bool, false, 1, 1, [.bool false]⟩),
  (5, ⟨.int .u8, false, 1, 1, [.int .u8 0]⟩),
  (9, ⟨.string, false, 1, 16, [.string ⟨#[]⟩]⟩),
  (12, ⟨.int .u64, false, 1, 8, [.int .u64 0]⟩),
  (13, ⟨.struct [(0, 9), (1, 12)], true, 2, 24, [.string ⟨#[]⟩, .int .u64 0]⟩),
  (21, ⟨.int .i32, false, 1, 4, [.int .i32 0]⟩),
  (22, ⟨.slice 48, false, 1, 24, [.slice none 0 0]⟩),
  (23, ⟨.slice 35, false, 1, 24, [.slice none 0 0]⟩),
  (24, ⟨.int .i64, false, 1, 8, [.int .i64 0]⟩),
  (34, ⟨.struct [(0, 3), (1, 9), (2, 9), (3, 9), (4, 3)], true, 5, 64, [.int .i64 0, .string ⟨#[]⟩, .string ⟨#[]⟩, .string ⟨#[]⟩, .int .i64 0]⟩),
  (35, ⟨.struct [(0, 3), (1, 9), (2, 9), (3, 9), (4, 3)], true, 5, 64, [.int .i64 0, .string ⟨#[]⟩, .string ⟨#[]⟩, .string ⟨#[]⟩, .int .i64 0]⟩),
  (47, ⟨.struct [(0, 9), (1, 4), (2, 9), (3, 3)], true, 4, 48, [.string ⟨#[]⟩, .bool false, .string ⟨#[]⟩, .int .i64 0]⟩),
  (48, ⟨.struct [(0, 9), (1, 4), (2, 9), (3, 3)], true, 4, 48, [.string ⟨#[]⟩, .bool false, .string ⟨#[]⟩, .int .i64 0]⟩),
  (67, ⟨.slice 9, false, 1, 24, [.slice none 0 0]⟩),
  (74, ⟨.slice 22, false, 1, 24, [.slice none 0 0]⟩),
  (92, ⟨.int .u64, false, 1, 8, [.int .u64 0]⟩),
  (107, ⟨.struct [(0, 5), (1, 5)], true, 2, 2, [.int .u8 0, .int .u8 0]⟩),
  (108, ⟨.struct [(0, 5), (1, 5)], true, 2, 2, [.int .u8 0, .int .u8 0]⟩),
  (109, ⟨.array 16 108, true, 32, 32, [.int .u8 0, .int .u8 0, .int .u8 0, .int .u8 0, .int .u8 0, .int .u8 0, .int .u8 0, .int .u8 0, .int .u8 0, .int .u8 0, .int .u8 0, .int .u8 0, .int .u8 0, .int .u8 0, .int .u8 0, .int .u8 0, .int .u8 0, .int .u8 0, .int .u8 0, .int .u8 0, .int .u8 0, .int .u8 0, .int .u8 0, .int .u8 0, .int .u8 0, .int .u8 0, .int .u8 0, .int .u8 0, .int .u8 0, .int .u8 0, .int .u8 0, .int .u8 0]⟩),
  (111, ⟨.int .u32, false, 1, 4, [.int .u32 0]⟩),
  (124, ⟨.pointer 5, false, 1, 8, [.pointer none]⟩)]
theorem tabOk : TabOk Tryd.prog tab :=
  ⟨by kernel_rfl,
   by kernel_rfl,
   by kernel_rfl,
   by kernel_rfl,
   by kernel_rfl,
   by kernel_rfl,
   by kernel_rfl,
   by kernel_rfl,
   by kernel_rfl,
   by kernel_rfl,
   by kernel_rfl,
   by kernel_rfl,
   by kernel_rfl,
   by kernel_rfl,
   by kernel_rfl,
   by kernel_rfl,
   by kernel_rfl,
   by kernel_rfl,
   by kernel_rfl,
   by kernel_rfl,
   by kernel_rfl,
   by kernel_rfl,
   by kernel_rfl, trivial⟩
noncomputable def C : Cx := ⟨Tryd.prog, tab, tabOk_look tabOk, by kernel_rfl, 0⟩
end Go.Proofs.YtpeenheeakhlgaaDoor
