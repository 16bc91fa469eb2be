/- The types of this seat, as a table: made by program out of the translation; held against it by the kernel. -/
import Derived.Test.YtdcigjpanpcaaaaAbUse
import Derived.Test.YtdcigjpanpcaaaaProg
import Derived.KernelRfl
namespace Go.Proofs.Ytdcigjpanpcaaaa
open Go.Ab
def tab : List (Nat × TRec) := [
  (2, ⟨.int .i64, false, 1, 8, [.int .i64 0]⟩),
  (3, ⟨.int .i64, false, 1, 8, [.int .i64 0]⟩),
  (4, ⟨.bool, false, 1, 1, [.bool false]⟩),
  (5, ⟨.int .u8, false, 1, 1, [.int .u8 0]⟩),
  (9, ⟨.string, false, 1, 16, [.string ⟨#[]⟩]⟩),
  (12, ⟨.int .u64, false, 1, 8, [.int .u64 0]⟩),
  (13, ⟨.struct [(0, 9), (1, 12)], true, 2, 24, [.string ⟨#[]⟩, .int .u64 0]⟩),
  (21, ⟨.int .i32, false, 1, 4, [.int .i32 0]⟩),
  (22, ⟨.slice 44, false, 1, 24, [.slice none 0 0]⟩),
  (23, ⟨.struct [(0, 22), (1, 3), (2, 3), (3, 3)], true, 4, 48, [.slice none 0 0, .int .i64 0, .int .i64 0, .int .i64 0]⟩),
  (24, ⟨.struct [(0, 22), (1, 3), (2, 3), (3, 3)], true, 4, 48, [.slice none 0 0, .int .i64 0, .int .i64 0, .int .i64 0]⟩),
  (25, ⟨.int .i64, false, 1, 8, [.int .i64 0]⟩),
  (43, ⟨.struct [(0, 3), (1, 9), (2, 9), (3, 3), (4, 3)], true, 5, 56, [.int .i64 0, .string ⟨#[]⟩, .string ⟨#[]⟩, .int .i64 0, .int .i64 0]⟩),
  (44, ⟨.struct [(0, 3), (1, 9), (2, 9), (3, 3), (4, 3)], true, 5, 56, [.int .i64 0, .string ⟨#[]⟩, .string ⟨#[]⟩, .int .i64 0, .int .i64 0]⟩),
  (45, ⟨.slice 3, false, 1, 24, [.slice none 0 0]⟩),
  (51, ⟨.slice 61, false, 1, 24, [.slice none 0 0]⟩),
  (60, ⟨.struct [(0, 9), (1, 9), (2, 3)], true, 3, 40, [.string ⟨#[]⟩, .string ⟨#[]⟩, .int .i64 0]⟩),
  (61, ⟨.struct [(0, 9), (1, 9), (2, 3)], true, 3, 40, [.string ⟨#[]⟩, .string ⟨#[]⟩, .int .i64 0]⟩),
  (64, ⟨.slice 9, false, 1, 24, [.slice none 0 0]⟩),
  (72, ⟨.pointer 44, false, 1, 8, [.pointer none]⟩),
  (89, ⟨.map 9 4, false, 1, 8, [.map none]⟩),
  (101, ⟨.int .u64, false, 1, 8, [.int .u64 0]⟩),
  (110, ⟨.int .u32, false, 1, 4, [.int .u32 0]⟩),
  (114, ⟨.pointer 5, false, 1, 8, [.pointer none]⟩)]
theorem tabOk : TabOk Try.prog tab :=
  ⟨by kernel_rfl,
   by kernel_rfl,
   by kernel_rfl,
   by kernel_rfl,
   by kernel_rfl,
   by kernel_rfl,
   by kernel_rfl,
   by kernel_rfl,
   by kernel_rfl,
   by kernel_rfl,
   by kernel_rfl,
   by kernel_rfl,
   by kernel_rfl,
   by kernel_rfl,
   by kernel_rfl,
   by kernel_rfl,
   by kernel_rfl,
   by kernel_rfl,
   by kernel_rfl,
   by kernel_rfl,
   by kernel_rfl,
   by kernel_rfl,
   by kernel_rfl,
   by kernel_rfl, trivial⟩
noncomputable def C : Cx := ⟨Try.prog, tab, tabOk_look tabOk, by kernel_rfl, 0⟩
end Go.Proofs.Ytdcigjpanpcaaaa
