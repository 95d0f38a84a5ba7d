/- A part of the proof: texts S1H, S1Q: see the last part's opening words. -/
import Derived.Test.YtkocbeamfmfgiaaE3
import Derived.Test.YtkocbeamfmfgiaaProg
set_option linter.unusedVariables false
set_option linter.unusedSimpArgs false
set_option linter.unnecessarySimpa false
namespace Go.Proofs.Ytkocbeamfmfgiaa
open Go Go.E Go.Proofs
noncomputable section
def tyTab : List (Option TI) := [
  none,
  some ⟨.other, [.sc (.any)], 8, false⟩,
  some ⟨.sc (.int .i64), [.sc (.int .i64)], 8, false⟩,
  some ⟨.sc (.int .i64), [.sc (.int .i64)], 8, false⟩,
  some ⟨.sc (.bool), [.sc (.bool)], 1, false⟩,
  some ⟨.sc (.int .u8), [.sc (.int .u8)], 1, false⟩,
  some ⟨.sc (.int .u8), [.sc (.int .u8)], 1, false⟩,
  some ⟨.struct [(0, 2), (1, 3), (2, 4), (3, 6)], [.sc (.int .i64), .sc (.int .i64), .sc (.bool), .sc (.int .u8)], 24, true⟩,
  some ⟨.struct [(0, 2), (1, 3), (2, 4), (3, 6)], [.sc (.int .i64), .sc (.int .i64), .sc (.bool), .sc (.int .u8)], 24, true⟩,
  some ⟨.sc (.str), [.sc (.str)], 16, false⟩,
  some ⟨.sc (.str), [.sc (.str)], 16, false⟩,
  some ⟨.sc (.str), [.sc (.str)], 16, false⟩,
  some ⟨.sc (.int .u64), [.sc (.int .u64)], 8, false⟩,
  some ⟨.struct [(0, 9), (1, 12)], [.sc (.str), .sc (.int .u64)], 24, false⟩,
  some ⟨.struct [(0, 9), (1, 12)], [.sc (.str), .sc (.int .u64)], 24, false⟩,
  some ⟨.ptr 130, [.sc (.any)], 8, false⟩,
  some ⟨.ptr 133, [.sc (.any)], 8, false⟩,
  some ⟨.ptr 141, [.sc (.any)], 8, false⟩,
  some ⟨.struct [(0, 17)], [.sc (.any)], 8, false⟩,
  some ⟨.struct [(0, 17)], [.sc (.any)], 8, false⟩,
  some ⟨.other, [.sc (.any)], 16, false⟩,
  some ⟨.sc (.int .i32), [.sc (.int .i32)], 4, false⟩,
  some ⟨.slice 59, [.sl [.sc (.str), .sc (.str)]], 24, false⟩,
  some ⟨.other, [.sc (.any)], 8, false⟩,
  some ⟨.other, [.sc (.any)], 8, false⟩,
  some ⟨.slice 33, [.sl [.sc (.str), .sc (.str)]], 24, false⟩,
  some ⟨.other, [.sc (.any)], 8, false⟩,
  some ⟨.other, [.sc (.any)], 8, false⟩,
  some ⟨.other, [.sc (.any)], 8, false⟩,
  some ⟨.slice 5, [.sl [.sc (.int .u8)]], 24, false⟩,
  some ⟨.other, [.sc (.any)], 8, false⟩,
  some ⟨.other, [.sc (.any)], 8, false⟩,
  some ⟨.struct [(0, 9), (1, 9)], [.sc (.str), .sc (.str)], 32, true⟩,
  some ⟨.struct [(0, 9), (1, 9)], [.sc (.str), .sc (.str)], 32, true⟩,
  some ⟨.slice 68, [.sl [.sc (.int .i64), .sc (.str), .sc (.str)]], 24, false⟩,
  some ⟨.other, [.sc (.any)], 8, false⟩,
  some ⟨.other, [.sc (.any)], 8, false⟩,
  some ⟨.slice 71, [.sl [.sc (.int .i64), .sc (.str), .sc (.str)]], 24, false⟩,
  some ⟨.other, [.sc (.any)], 8, false⟩,
  some ⟨.other, [.sc (.any)], 8, false⟩,
  some ⟨.other, [.sc (.any)], 8, false⟩,
  some ⟨.slice 9, [.sl [.sc (.str)]], 24, false⟩,
  some ⟨.other, [.sc (.any)], 8, false⟩,
  some ⟨.other, [.sc (.any)], 8, false⟩,
  some ⟨.other, [.sc (.any)], 8, false⟩,
  some ⟨.other, [.sc (.any)], 8, false⟩,
  some ⟨.other, [.sc (.any)], 8, false⟩,
  some ⟨.struct [(0, 3), (1, 9), (2, 9), (3, 41)], [.sc (.int .i64), .sc (.str), .sc (.str), .sl [.sc (.str)]], 64, false⟩,
  some ⟨.struct [(0, 3), (1, 9), (2, 9), (3, 41)], [.sc (.int .i64), .sc (.str), .sc (.str), .sl [.sc (.str)]], 64, false⟩,
  some ⟨.other, [.sc (.any)], 8, false⟩,
  some ⟨.other, [.sc (.any)], 8, false⟩,
  some ⟨.struct [(0, 3), (1, 9), (2, 9), (3, 41)], [.sc (.int .i64), .sc (.str), .sc (.str), .sl [.sc (.str)]], 64, false⟩,
  some ⟨.other, [.sc (.any)], 8, false⟩,
  some ⟨.other, [.sc (.any)], 8, false⟩,
  some ⟨.other, [.sc (.any)], 8, false⟩,
  some ⟨.slice 51, [.sl [.sc (.int .i64), .sc (.str), .sc (.str), .sl [.sc (.str)]]], 24, false⟩,
  some ⟨.other, [.sc (.any)], 8, false⟩,
  some ⟨.other, [.sc (.any)], 8, false⟩,
  some ⟨.other, [.sc (.any)], 8, false⟩,
  some ⟨.struct [(0, 9), (1, 9)], [.sc (.str), .sc (.str)], 32, true⟩,
  some ⟨.other, [.sc (.any)], 8, false⟩,
  some ⟨.other, [.sc (.any)], 8, false⟩,
  some ⟨.other, [.sc (.any)], 8, false⟩,
  some ⟨.ptr 92, [.sc (.any)], 8, false⟩,
  some ⟨.other, [.sc (.any)], 8, false⟩,
  some ⟨.other, [.sc (.any)], 8, false⟩,
  some ⟨.other, [.sc (.any)], 8, false⟩,
  some ⟨.struct [(0, 3), (1, 9), (2, 9)], [.sc (.int .i64), .sc (.str), .sc (.str)], 40, true⟩,
  some ⟨.struct [(0, 3), (1, 9), (2, 9)], [.sc (.int .i64), .sc (.str), .sc (.str)], 40, true⟩,
  some ⟨.other, [.sc (.any)], 8, false⟩,
  some ⟨.other, [.sc (.any)], 8, false⟩,
  some ⟨.struct [(0, 3), (1, 9), (2, 9)], [.sc (.int .i64), .sc (.str), .sc (.str)], 40, true⟩,
  some ⟨.other, [.sc (.any)], 8, false⟩,
  some ⟨.other, [.sc (.any)], 8, false⟩,
  some ⟨.other, [.sc (.any)], 8, false⟩,
  some ⟨.other, [.sc (.any)], 8, false⟩,
  some ⟨.other, [.sc (.any)], 8, false⟩,
  some ⟨.other, [.sc (.any)], 8, false⟩,
  some ⟨.other, [.sc (.any)], 8, false⟩,
  some ⟨.other, [.sc (.any)], 8, false⟩,
  some ⟨.other, [.sc (.any)], 8, false⟩,
  some ⟨.other, [.sc (.any)], 8, false⟩,
  some ⟨.ptr 84, [.sc (.any)], 8, false⟩,
  some ⟨.struct [(0, 82), (1, 29)], [.sc (.any), .sl [.sc (.int .u8)]], 32, false⟩,
  some ⟨.struct [(0, 82), (1, 29)], [.sc (.any), .sl [.sc (.int .u8)]], 32, false⟩,
  some ⟨.other, [.sc (.any)], 8, false⟩,
  some ⟨.other, [.sc (.any)], 16, false⟩,
  some ⟨.other, [.sc (.any)], 16, false⟩,
  none,
  some ⟨.other, [.sc (.any)], 8, false⟩,
  some ⟨.other, [.sc (.any)], 8, false⟩,
  some ⟨.struct [(0, 29), (1, 3), (2, 3)], [.sl [.sc (.int .u8)], .sc (.int .i64), .sc (.int .i64)], 40, false⟩,
  some ⟨.struct [(0, 29), (1, 3), (2, 3)], [.sl [.sc (.int .u8)], .sc (.int .i64), .sc (.int .i64)], 40, false⟩,
  some ⟨.other, [.sc (.any)], 8, false⟩,
  some ⟨.other, [.sc (.any)], 8, false⟩,
  some ⟨.other, [.sc (.any)], 8, false⟩,
  some ⟨.other, [.sc (.any)], 8, false⟩,
  some ⟨.other, [.sc (.any)], 8, false⟩,
  some ⟨.slice 3, [.sl [.sc (.int .i64)]], 24, false⟩,
  some ⟨.other, [.sc (.any)], 8, false⟩,
  some ⟨.other, [.sc (.any)], 8, false⟩,
  some ⟨.sc (.int .u64), [.sc (.int .u64)], 8, false⟩,
  some ⟨.sc (.int .u32), [.sc (.int .u32)], 4, false⟩,
  some ⟨.array 8 102, [.sc (.int .u32), .sc (.int .u32), .sc (.int .u32), .sc (.int .u32), .sc (.int .u32), .sc (.int .u32), .sc (.int .u32), .sc (.int .u32)], 32, false⟩,
  some ⟨.ptr 119, [.sc (.any)], 8, false⟩,
  some ⟨.other, [.sc (.any)], 8, false⟩,
  some ⟨.other, [.sc (.any)], 8, false⟩,
  some ⟨.other, [.sc (.any)], 8, false⟩,
  some ⟨.other, [.sc (.any)], 8, false⟩,
  some ⟨.other, [.sc (.any)], 8, false⟩,
  some ⟨.ptr 103, [.sc (.any)], 8, false⟩,
  some ⟨.other, [.sc (.any)], 8, false⟩,
  some ⟨.other, [.sc (.any)], 8, false⟩,
  some ⟨.ptr 5, [.sc (.any)], 8, false⟩,
  some ⟨.other, [.sc (.any)], 8, false⟩,
  some ⟨.other, [.sc (.any)], 8, false⟩,
  some ⟨.other, [.sc (.any)], 8, false⟩,
  some ⟨.other, [.sc (.any)], 8, false⟩,
  some ⟨.other, [.sc (.any)], 8, false⟩,
  some ⟨.array 64 102, [.sc (.int .u32), .sc (.int .u32), .sc (.int .u32), .sc (.int .u32), .sc (.int .u32), .sc (.int .u32), .sc (.int .u32), .sc (.int .u32), .sc (.int .u32), .sc (.int .u32), .sc (.int .u32), .sc (.int .u32), .sc (.int .u32), .sc (.int .u32), .sc (.int .u32), .sc (.int .u32), .sc (.int .u32), .sc (.int .u32), .sc (.int .u32), .sc (.int .u32), .sc (.int .u32), .sc (.int .u32), .sc (.int .u32), .sc (.int .u32), .sc (.int .u32), .sc (.int .u32), .sc (.int .u32), .sc (.int .u32), .sc (.int .u32), .sc (.int .u32), .sc (.int .u32), .sc (.int .u32), .sc (.int .u32), .sc (.int .u32), .sc (.int .u32), .sc (.int .u32), .sc (.int .u32), .sc (.int .u32), .sc (.int .u32), .sc (.int .u32), .sc (.int .u32), .sc (.int .u32), .sc (.int .u32), .sc (.int .u32), .sc (.int .u32), .sc (.int .u32), .sc (.int .u32), .sc (.int .u32), .sc (.int .u32), .sc (.int .u32), .sc (.int .u32), .sc (.int .u32), .sc (.int .u32), .sc (.int .u32), .sc (.int .u32), .sc (.int .u32), .sc (.int .u32), .sc (.int .u32), .sc (.int .u32), .sc (.int .u32), .sc (.int .u32), .sc (.int .u32), .sc (.int .u32), .sc (.int .u32)], 256, false⟩,
  some ⟨.other, [.sc (.any)], 8, false⟩,
  some ⟨.other, [.sc (.any)], 8, false⟩,
  some ⟨.other, [.sc (.any)], 8, false⟩,
  some ⟨.other, [.sc (.any)], 8, false⟩,
  some ⟨.other, [.sc (.any)], 8, false⟩,
  some ⟨.other, [.sc (.any)], 8, false⟩,
  some ⟨.other, [.sc (.any)], 8, false⟩,
  some ⟨.other, [.sc (.any)], 8, false⟩,
  some ⟨.other, [.sc (.any)], 8, false⟩,
  some ⟨.struct [(0, 17), (1, 17), (2, 17), (3, 9)], [.sc (.any), .sc (.any), .sc (.any), .sc (.str)], 40, false⟩,
  some ⟨.struct [(0, 17), (1, 17), (2, 17), (3, 9)], [.sc (.any), .sc (.any), .sc (.any), .sc (.str)], 40, false⟩,
  some ⟨.array 0 16, [], 0, false⟩,
  none,
  none,
  some ⟨.other, [.sc (.any)], 8, false⟩,
  some ⟨.sc (.int .u8), [.sc (.int .u8)], 1, false⟩,
  some ⟨.sc (.int .u8), [.sc (.int .u8)], 1, false⟩,
  some ⟨.other, [.sc (.any)], 8, false⟩,
  some ⟨.sc (.int .i32), [.sc (.int .i32)], 4, false⟩,
  some ⟨.sc (.int .i32), [.sc (.int .i32)], 4, false⟩,
  some ⟨.struct [(0, 12), (1, 12), (2, 102), (3, 135), (4, 5), (5, 5), (6, 136), (7, 137), (8, 113), (9, 138), (10, 139)], [.sc (.int .u64), .sc (.int .u64), .sc (.int .u32), .sc (.int .u8), .sc (.int .u8), .sc (.int .u8), .sc (.int .u8), .sc (.any), .sc (.any), .sc (.int .i32), .sc (.int .i32)], 48, false⟩,
  some ⟨.struct [(0, 12), (1, 12), (2, 102), (3, 135), (4, 5), (5, 5), (6, 136), (7, 137), (8, 113), (9, 138), (10, 139)], [.sc (.int .u64), .sc (.int .u64), .sc (.int .u32), .sc (.int .u8), .sc (.int .u8), .sc (.int .u8), .sc (.int .u8), .sc (.any), .sc (.any), .sc (.int .i32), .sc (.int .i32)], 48, false⟩]
noncomputable def fnTab : List (Nat × Func) := [
  (2, Try.f2),
  (3, Try.f3),
  (4, Try.f4),
  (5, Try.f5),
  (6, Try.f6),
  (7, Try.f7),
  (8, Try.f8),
  (9, Try.f9),
  (10, Try.f10),
  (11, Try.f11),
  (12, Try.f12),
  (13, Try.f13),
  (14, Try.f14),
  (15, Try.f15),
  (16, Try.f16),
  (17, Try.f17),
  (18, Try.f18),
  (19, Try.f19),
  (20, Try.f20),
  (21, Try.f21),
  (22, Try.f22),
  (23, Try.f23),
  (24, Try.f24),
  (25, Try.f25),
  (26, Try.f26),
  (27, Try.f27),
  (28, Try.f28),
  (29, Try.f29),
  (30, Try.f30),
  (31, Try.f31),
  (32, Try.f32),
  (33, Try.f33),
  (34, Try.f34),
  (35, Try.f35),
  (36, Try.f36),
  (37, Try.f37),
  (38, Try.f38),
  (39, Try.f39),
  (40, Try.f40),
  (41, Try.f41),
  (42, Try.f42),
  (43, Try.f43),
  (44, Try.f44),
  (45, Try.f45),
  (46, Try.f46),
  (47, Try.f47),
  (48, Try.f48),
  (49, Try.f49),
  (50, Try.f50),
  (51, Try.f51),
  (52, Try.f52),
  (53, Try.f53),
  (54, Try.f54),
  (55, Try.f55),
  (56, Try.f56),
  (57, Try.f57),
  (58, Try.f58),
  (59, Try.f59),
  (60, Try.f60),
  (61, Try.f61),
  (62, Try.f62),
  (63, Try.f63),
  (64, Try.f64),
  (65, Try.f65),
  (66, Try.f66),
  (67, Try.f67),
  (68, Try.f68),
  (69, Try.f69),
  (70, Try.f70),
  (71, Try.f71),
  (72, Try.f72),
  (73, Try.f73),
  (74, Try.f74),
  (75, Try.f75),
  (76, Try.f76),
  (77, Try.f77),
  (78, Try.f78),
  (79, Try.f79),
  (80, Try.f80),
  (81, Try.f81),
  (82, Try.f82),
  (83, Try.f83),
  (84, Try.f84),
  (85, Try.f85),
  (86, Try.f86),
  (87, Try.f87),
  (88, Try.f88),
  (89, Try.f89),
  (90, Try.f90),
  (91, Try.f91),
  (92, Try.f92),
  (93, Try.f93),
  (94, Try.f94),
  (95, Try.f95),
  (96, Try.f96),
  (99, Try.f99),
  (100, Try.f100)]
theorem fns_ok : FnsOk Try.prog fnTab := by
  unfold fnTab
  exact ⟨⟨Try.func2, by kernel_rfl, by kernel_rfl⟩, ⟨Try.func3, by kernel_rfl, by kernel_rfl⟩, ⟨Try.func4, by kernel_rfl, by kernel_rfl⟩, ⟨Try.func5, by kernel_rfl, by kernel_rfl⟩, ⟨Try.func6, by kernel_rfl, by kernel_rfl⟩, ⟨Try.func7, by kernel_rfl, by kernel_rfl⟩, ⟨Try.func8, by kernel_rfl, by kernel_rfl⟩, ⟨Try.func9, by kernel_rfl, by kernel_rfl⟩, ⟨Try.func10, by kernel_rfl, by kernel_rfl⟩, ⟨Try.func11, by kernel_rfl, by kernel_rfl⟩, ⟨Try.func12, by kernel_rfl, by kernel_rfl⟩, ⟨Try.func13, by kernel_rfl, by kernel_rfl⟩, ⟨Try.func14, by kernel_rfl, by kernel_rfl⟩, ⟨Try.func15, by kernel_rfl, by kernel_rfl⟩, ⟨Try.func16, by kernel_rfl, by kernel_rfl⟩, ⟨Try.func17, by kernel_rfl, by kernel_rfl⟩, ⟨Try.func18, by kernel_rfl, by kernel_rfl⟩, ⟨Try.func19, by kernel_rfl, by kernel_rfl⟩, ⟨Try.func20, by kernel_rfl, by kernel_rfl⟩, ⟨Try.func21, by kernel_rfl, by kernel_rfl⟩, ⟨Try.func22, by kernel_rfl, by kernel_rfl⟩, ⟨Try.func23, by kernel_rfl, by kernel_rfl⟩, ⟨Try.func24, by kernel_rfl, by kernel_rfl⟩, ⟨Try.func25, by kernel_rfl, by kernel_rfl⟩, ⟨Try.func26, by kernel_rfl, by kernel_rfl⟩, ⟨Try.func27, by kernel_rfl, by kernel_rfl⟩, ⟨Try.func28, by kernel_rfl, by kernel_rfl⟩, ⟨Try.func29, by kernel_rfl, by kernel_rfl⟩, ⟨Try.func30, by kernel_rfl, by kernel_rfl⟩, ⟨Try.func31, by kernel_rfl, by kernel_rfl⟩, ⟨Try.func32, by kernel_rfl, by kernel_rfl⟩, ⟨Try.func33, by kernel_rfl, by kernel_rfl⟩, ⟨Try.func34, by kernel_rfl, by kernel_rfl⟩, ⟨Try.func35, by kernel_rfl, by kernel_rfl⟩, ⟨Try.func36, by kernel_rfl, by kernel_rfl⟩, ⟨Try.func37, by kernel_rfl, by kernel_rfl⟩, ⟨Try.func38, by kernel_rfl, by kernel_rfl⟩, ⟨Try.func39, by kernel_rfl, by kernel_rfl⟩, ⟨Try.func40, by kernel_rfl, by kernel_rfl⟩, ⟨Try.func41, by kernel_rfl, by kernel_rfl⟩, ⟨Try.func42, by kernel_rfl, by kernel_rfl⟩, ⟨Try.func43, by kernel_rfl, by kernel_rfl⟩, ⟨Try.func44, by kernel_rfl, by kernel_rfl⟩, ⟨Try.func45, by kernel_rfl, by kernel_rfl⟩, ⟨Try.func46, by kernel_rfl, by kernel_rfl⟩, ⟨Try.func47, by kernel_rfl, by kernel_rfl⟩, ⟨Try.func48, by kernel_rfl, by kernel_rfl⟩, ⟨Try.func49, by kernel_rfl, by kernel_rfl⟩, ⟨Try.func50, by kernel_rfl, by kernel_rfl⟩, ⟨Try.func51, by kernel_rfl, by kernel_rfl⟩, ⟨Try.func52, by kernel_rfl, by kernel_rfl⟩, ⟨Try.func53, by kernel_rfl, by kernel_rfl⟩, ⟨Try.func54, by kernel_rfl, by kernel_rfl⟩, ⟨Try.func55, by kernel_rfl, by kernel_rfl⟩, ⟨Try.func56, by kernel_rfl, by kernel_rfl⟩, ⟨Try.func57, by kernel_rfl, by kernel_rfl⟩, ⟨Try.func58, by kernel_rfl, by kernel_rfl⟩, ⟨Try.func59, by kernel_rfl, by kernel_rfl⟩, ⟨Try.func60, by kernel_rfl, by kernel_rfl⟩, ⟨Try.func61, by kernel_rfl, by kernel_rfl⟩, ⟨Try.func62, by kernel_rfl, by kernel_rfl⟩, ⟨Try.func63, by kernel_rfl, by kernel_rfl⟩, ⟨Try.func64, by kernel_rfl, by kernel_rfl⟩, ⟨Try.func65, by kernel_rfl, by kernel_rfl⟩, ⟨Try.func66, by kernel_rfl, by kernel_rfl⟩, ⟨Try.func67, by kernel_rfl, by kernel_rfl⟩, ⟨Try.func68, by kernel_rfl, by kernel_rfl⟩, ⟨Try.func69, by kernel_rfl, by kernel_rfl⟩, ⟨Try.func70, by kernel_rfl, by kernel_rfl⟩, ⟨Try.func71, by kernel_rfl, by kernel_rfl⟩, ⟨Try.func72, by kernel_rfl, by kernel_rfl⟩, ⟨Try.func73, by kernel_rfl, by kernel_rfl⟩, ⟨Try.func74, by kernel_rfl, by kernel_rfl⟩, ⟨Try.func75, by kernel_rfl, by kernel_rfl⟩, ⟨Try.func76, by kernel_rfl, by kernel_rfl⟩, ⟨Try.func77, by kernel_rfl, by kernel_rfl⟩, ⟨Try.func78, by kernel_rfl, by kernel_rfl⟩, ⟨Try.func79, by kernel_rfl, by kernel_rfl⟩, ⟨Try.func80, by kernel_rfl, by kernel_rfl⟩, ⟨Try.func81, by kernel_rfl, by kernel_rfl⟩, ⟨Try.func82, by kernel_rfl, by kernel_rfl⟩, ⟨Try.func83, by kernel_rfl, by kernel_rfl⟩, ⟨Try.func84, by kernel_rfl, by kernel_rfl⟩, ⟨Try.func85, by kernel_rfl, by kernel_rfl⟩, ⟨Try.func86, by kernel_rfl, by kernel_rfl⟩, ⟨Try.func87, by kernel_rfl, by kernel_rfl⟩, ⟨Try.func88, by kernel_rfl, by kernel_rfl⟩, ⟨Try.func89, by kernel_rfl, by kernel_rfl⟩, ⟨Try.func90, by kernel_rfl, by kernel_rfl⟩, ⟨Try.func91, by kernel_rfl, by kernel_rfl⟩, ⟨Try.func92, by kernel_rfl, by kernel_rfl⟩, ⟨Try.func93, by kernel_rfl, by kernel_rfl⟩, ⟨Try.func94, by kernel_rfl, by kernel_rfl⟩, ⟨Try.func95, by kernel_rfl, by kernel_rfl⟩, ⟨Try.func96, by kernel_rfl, by kernel_rfl⟩, ⟨Try.func99, by kernel_rfl, by kernel_rfl⟩, ⟨Try.func100, by kernel_rfl, by kernel_rfl⟩, trivial⟩

def ovTab : List (Nat × Sig) := [(39, ⟨[[.O, .O, .O]]⟩), (55, ⟨[[.O, .O, .O]]⟩), (61, ⟨[[.O, .O, .O]]⟩), (62, ⟨[[.O, .O, .O], [.R]]⟩), (63, ⟨[[.O, .O, .O]]⟩), (64, ⟨[[.O, .O, .O]]⟩), (78, ⟨[[.O, .O, .O]]⟩), (79, ⟨[[.O, .O, .O], [.R]]⟩), (80, ⟨[[.O, .O, .O], [.R, .R, .R, .R]]⟩), (84, ⟨[[.O, .O, .O]]⟩), (85, ⟨[[.O, .O, .O]]⟩), (86, ⟨[[.O, .O, .O], [.R]]⟩), (95, ⟨[[.O, .O, .O]]⟩), (96, ⟨[[.O, .O, .O], [.R]]⟩), (99, ⟨[[.O, .O, .O]]⟩), (100, ⟨[[.O, .O, .O], [.R]]⟩)]
def fzTab : List (Nat × Nat) := [(63, 6), (64, 4), (80, 18), (80, 24), (80, 39), (84, 4), (99, 5)]
def CX : Ctx := ⟨tabFn tyTab, fun f => lookF f fnTab, sigTab tyTab fnTab ovTab, fun f d => !(fzTab.any fun x => Nat.beq x.1 f && Nat.beq x.2 d), fun _ _ => false⟩
def prims : FuncId → Option (List Arg → R3 Ret) := fun f => cond (Nat.beq f 36) (some primJoin) none
def strings_Join : Nat → T → T → (T → An) → An
  | 0, _, _, _ => .bad
  | m + 1, x0, x1, k0 => cond (decide ((joinB x0.rows x1).size ≤ maxCells)) (k0 (.s (joinB x0.rows x1))) .bad
def strings_Join_a : List Arg := [.one (.fz [.sc .str] []), .one (.sc .str (.l []))]
def strings_Join_w (m : Nat) (vs : List T) (k : Ret → An) : An := strings_Join m (vs.headD dflt) (vs.tail.headD dflt) (fun z0 => k ⟨[.one (.sc .str z0)], [[none], [none]], []⟩)
theorem strings_Join_eq (m : Nat) : ∀ vs k, callK CX prims m 36 (fArgs strings_Join_a vs) k = strings_Join_w m vs k := by
  intro vs k
  cases m with
  | zero => rfl
  | succ m =>
    refine Eq.trans (b := (primJoin (fArgs strings_Join_a vs)).bind k) (by kernel_rfl) ?_
    refine Eq.trans (b := (cond (decide ((joinB (vs.headD dflt).rows (vs.tail.headD dflt)).size ≤ maxCells)) (R3.ok ⟨[.one (.sc .str (.s (joinB (vs.headD dflt).rows (vs.tail.headD dflt))))], [[none], [none]], []⟩) .bad).bind k) (by kernel_rfl) ?_
    rw [cond_bind]; rfl
end
end Go.Proofs.Ytkocbeamfmfgiaa

namespace Go.Proofs.Ytkocbeamfmfgiaa
open Go Go.E Go.Proofs

/-! loop.example/g00244/laws.big -/
noncomputable def laws_big : Nat → T → (T → An) → An
  | 0, _, _ => .bad
  | m + 1, x0, k0 =>
    k0 (T.b (decide ((x0.rows.length : Int) > 1048576)))
noncomputable def laws_big_a : List Arg := [.one (.fz [.sc (.int .u8)] [])]
noncomputable def laws_big_w (m : Nat) (vs : List T) (k : Ret → An) : An := laws_big m (vs.headD dflt) (fun z0 => k ⟨[.one (.sc (.bool) z0)], [[none]], [none]⟩)
theorem laws_big_cf (m : Nat) : callK CX prims m = (callK CX prims m) := by
  rfl
noncomputable def laws_big_c : Code := (Try.f14.body).getD .skip
noncomputable def laws_big_fi : Fi := ⟨14, 1, 6, 4⟩
theorem laws_big_eq (m : Nat) : ∀ vs k, callK CX prims m 14 (fArgs laws_big_a vs) k = laws_big_w m vs k := by
  cases m with
  | zero => exact fun vs k => rfl
  | succ m => exact fun vs k => Eq.trans (b := bodyK CX (callK CX prims m) (loopK CX (callK CX prims m) laws_big_fi laws_big_c m) 14 Try.f14 laws_big_c (fArgs laws_big_a vs) k) (by kernel_rfl) ((bodyK_congr (laws_big_cf m) rfl 14 Try.f14 laws_big_c (fArgs laws_big_a vs) k).trans (by kernel_rfl))

/-! loop.example/g00244/spec.l1New -/
noncomputable def spec_l1New_L0_0 (m : Nat) : Nat → T → T → T → (T → T → An) → An
  | 0, _, _, _, _ => .bad
  | n + 1, x0, x1, x2, k0 =>
    cond ((decide (x2.int < (x0.rows.length : Int))) == true)
    (cond (decide (x2.int < 4000))
    (cond (decide ((0 : Int) ≤ x2.int ∧ x2.int < (x0.rows.length : Int)))
    (spec_l1New_L0_0 m n x0 (bvBack .i64 (BitVec.ofInt IntKind.i64.bits (IntKind.i64.wrap ((IntKind.i64.wrap ((IntKind.i64.wrap (x1.int * 137)) + (IntKind.i64.wrap ((x0.rows.getD (Int.toNat x2.int) []).getD 0 dflt).int))) + 11)) &&& BitVec.ofInt IntKind.i64.bits 1073741823)) (T.i (IntKind.i64.wrap (x2.int + 1))) k0)
    (.bad))
    (k0 x0 x1))
    (k0 x0 x1)
noncomputable def spec_l1New_s0_0 : Pack := ⟨[(0, .one ⟨.sn [], .sl [.sc (.int .u8)], .l []⟩), (3, .one ⟨.sc, .sc (.int .i64), .l []⟩), (4, .one ⟨.sc, .sc (.int .i64), .l []⟩)], []⟩
noncomputable def spec_l1New_e0_0 : Pack := ⟨[(0, .one ⟨.sn [], .sl [.sc (.int .u8)], .l []⟩), (3, .one ⟨.sc, .sc (.int .i64), .l []⟩)], []⟩
noncomputable def spec_l1New_L0_0w (m n : Nat) (vs : List T) (k : Ctl → Pack → An) : An := spec_l1New_L0_0 m n (vs.headD dflt) (vs.tail.headD dflt) (vs.tail.tail.headD dflt) (fun z0 z1 => k (.exit 0) (fPack spec_l1New_e0_0 [z0, z1]))
noncomputable def spec_l1New : Nat → T → (T → T → T → An) → An
  | 0, _, _ => .bad
  | m + 1, x0, k0 =>
    spec_l1New_L0_0 m m (T.l x0.rows) (T.i (IntKind.i64.wrap (381381 + (x0.rows.length : Int)))) (T.i 0)
    (fun y0 y1 => k0 (T.l y0.rows) (T.i 0) y1)
noncomputable def spec_l1New_a : List Arg := [.one (.fz [.sc (.int .u8)] [])]
noncomputable def spec_l1New_w (m : Nat) (vs : List T) (k : Ret → An) : An := spec_l1New m (vs.headD dflt) (fun z0 z1 z2 => k ⟨[.bx [2000031] [.fz [.sc (.int .u8)] z0.rows, .sc (.int .i64) z1, .sc (.int .i64) z2]], [[none]], [none]⟩)
theorem spec_l1New_cf (m : Nat) : callK CX prims m = (callK CX prims m) := by
  rfl
noncomputable def spec_l1New_c : Code := (Try.f38.body).getD .skip
noncomputable def spec_l1New_fi : Fi := ⟨38, 1, 32, 4⟩
theorem spec_l1New_lf (m : Nat) : ∀ n, (∀ vs k, loopK CX (callK CX prims m) spec_l1New_fi spec_l1New_c n [0, 1, 0, 1, 1] (fPack spec_l1New_s0_0 vs) k = spec_l1New_L0_0w m n vs k) ∧ ((loopK CX (callK CX prims m) spec_l1New_fi spec_l1New_c n) = (patL [0, 1, 0, 1, 1] spec_l1New_s0_0 (spec_l1New_L0_0w m n) (loopK CX (callK CX prims m) spec_l1New_fi spec_l1New_c n))) := by
  intro n
  have hl : ∀ n, (∀ vs k, loopK CX (callK CX prims m) spec_l1New_fi spec_l1New_c n [0, 1, 0, 1, 1] (fPack spec_l1New_s0_0 vs) k = spec_l1New_L0_0w m n vs k) → ((loopK CX (callK CX prims m) spec_l1New_fi spec_l1New_c n) = (patL [0, 1, 0, 1, 1] spec_l1New_s0_0 (spec_l1New_L0_0w m n) (loopK CX (callK CX prims m) spec_l1New_fi spec_l1New_c n))) := by
    intro n h0
    rw [← patL_eq h0]
  induction n with
  | zero => exact ⟨fun vs k => rfl, hl 0 (fun vs k => rfl)⟩
  | succ n ihn =>
    have hn := ihn.2
    have h0 : ∀ vs k, loopK CX (callK CX prims m) spec_l1New_fi spec_l1New_c (n + 1) [0, 1, 0, 1, 1] (fPack spec_l1New_s0_0 vs) k = spec_l1New_L0_0w m (n + 1) vs k := fun vs k =>
      (stepL_congr (spec_l1New_cf m) hn [0, 1, 0, 1, 1] _ _).trans (by kernel_rfl)
    exact ⟨h0, hl (n + 1) h0⟩
theorem spec_l1New_eq (m : Nat) : ∀ vs k, callK CX prims m 38 (fArgs spec_l1New_a vs) k = spec_l1New_w m vs k := by
  cases m with
  | zero => exact fun vs k => rfl
  | succ m => exact fun vs k => Eq.trans (b := bodyK CX (callK CX prims m) (loopK CX (callK CX prims m) spec_l1New_fi spec_l1New_c m) 38 Try.f38 spec_l1New_c (fArgs spec_l1New_a vs) k) (by kernel_rfl) ((bodyK_congr (spec_l1New_cf m) ((spec_l1New_lf m m).2) 38 Try.f38 spec_l1New_c (fArgs spec_l1New_a vs) k).trans (by kernel_rfl))

/-! loop.example/g00244/spec.l1Byte -/
noncomputable def spec_l1Byte : Nat → T → T → T → (T → T → T → T → An) → An
  | 0, _, _, _, _ => .bad
  | m + 1, x0, x1, x2, k0 =>
    cond (decide (x1.int < (x0.rows.length : Int)))
    (cond (decide ((0 : Int) ≤ x1.int ∧ x1.int < (x0.rows.length : Int)))
    (k0 (bvBack .i64 (BitVec.ofInt IntKind.i64.bits (IntKind.i64.wrap ((bvBack .i64 (BitVec.ofInt IntKind.i64.bits (bvBack .i64 (BitVec.ofInt IntKind.i64.bits (Int.fdiv (IntKind.i64.wrap ((IntKind.i64.wrap (x2.int * 6364136223846793005)) + 1442695040888963407)) (2 ^ (min (Int.toNat 33) IntKind.i64.bits))) ^^^ BitVec.ofInt IntKind.i64.bits (Int.fdiv (IntKind.i64.wrap ((IntKind.i64.wrap (x2.int * 6364136223846793005)) + 1442695040888963407)) (2 ^ (min (Int.toNat 47) IntKind.i64.bits))))).int &&& BitVec.ofInt IntKind.i64.bits 255)).int + (IntKind.i64.wrap ((x0.rows.getD (Int.toNat x1.int) []).getD 0 dflt).int))) &&& BitVec.ofInt IntKind.i64.bits 255)) (T.l x0.rows) (T.i (IntKind.i64.wrap (x1.int + 1))) (T.i (IntKind.i64.wrap ((IntKind.i64.wrap (x2.int * 6364136223846793005)) + 1442695040888963407))))
    (.bad))
    (k0 (bvBack .i64 (BitVec.ofInt IntKind.i64.bits (bvBack .i64 (BitVec.ofInt IntKind.i64.bits (Int.fdiv (IntKind.i64.wrap ((IntKind.i64.wrap (x2.int * 6364136223846793005)) + 1442695040888963407)) (2 ^ (min (Int.toNat 33) IntKind.i64.bits))) ^^^ BitVec.ofInt IntKind.i64.bits (Int.fdiv (IntKind.i64.wrap ((IntKind.i64.wrap (x2.int * 6364136223846793005)) + 1442695040888963407)) (2 ^ (min (Int.toNat 47) IntKind.i64.bits))))).int &&& BitVec.ofInt IntKind.i64.bits 255)) (T.l x0.rows) x1 (T.i (IntKind.i64.wrap ((IntKind.i64.wrap (x2.int * 6364136223846793005)) + 1442695040888963407))))
noncomputable def spec_l1Byte_a : List Arg := [.bx [.fz [.sc (.int .u8)] [], .sc (.int .i64) (.l []), .sc (.int .i64) (.l [])]]
noncomputable def spec_l1Byte_w (m : Nat) (vs : List T) (k : Ret → An) : An := spec_l1Byte m (vs.headD dflt) (vs.tail.headD dflt) (vs.tail.tail.headD dflt) (fun z0 z1 z2 z3 => k ⟨[.one (.sc (.int .i64) z0)], [[none, none, none]], [some [.fz [.sc (.int .u8)] z1.rows, .sc (.int .i64) z2, .sc (.int .i64) z3]]⟩)
theorem spec_l1Byte_cf (m : Nat) : callK CX prims m = (callK CX prims m) := by
  rfl
noncomputable def spec_l1Byte_c : Code := (Try.f85.body).getD .skip
noncomputable def spec_l1Byte_fi : Fi := ⟨85, 1, 58, 5⟩
theorem spec_l1Byte_eq (m : Nat) : ∀ vs k, callK CX prims m 85 (fArgs spec_l1Byte_a vs) k = spec_l1Byte_w m vs k := by
  cases m with
  | zero => exact fun vs k => rfl
  | succ m => exact fun vs k => Eq.trans (b := bodyK CX (callK CX prims m) (loopK CX (callK CX prims m) spec_l1Byte_fi spec_l1Byte_c m) 85 Try.f85 spec_l1Byte_c (fArgs spec_l1Byte_a vs) k) (by kernel_rfl) ((bodyK_congr (spec_l1Byte_cf m) rfl 85 Try.f85 spec_l1Byte_c (fArgs spec_l1Byte_a vs) k).trans (by kernel_rfl))

/-! loop.example/g00244/spec.l1Below -/
noncomputable def spec_l1Below : Nat → T → T → T → T → (T → T → T → T → An) → An
  | 0, _, _, _, _, _ => .bad
  | m + 1, x0, x1, x2, x3, k0 =>
    cond (decide (x3.int ≤ 0))
    (k0 (T.i 0) (T.l x0.rows) x1 x2)
    (cond (decide (x3.int ≤ 256))
    (spec_l1Byte m (T.l x0.rows) x1 x2
    (fun y0 y1 y2 y3 => cond (!decide (x3.int = 0))
    (k0 (T.i (Int.tmod y0.int x3.int)) (T.l y1.rows) y2 y3)
    (.bad)))
    (spec_l1Byte m (T.l x0.rows) x1 x2
    (fun y4 y5 y6 y7 => spec_l1Byte m (T.l y5.rows) y6 y7
    (fun y8 y9 y10 y11 => spec_l1Byte m (T.l y9.rows) y10 y11
    (fun y12 y13 y14 y15 => cond (!decide (x3.int = 0))
    (k0 (T.i (Int.tmod (IntKind.i64.wrap ((IntKind.i64.wrap ((IntKind.i64.wrap (y4.int * 65536)) + (IntKind.i64.wrap (y8.int * 256)))) + y12.int)) x3.int)) (T.l y13.rows) y14 y15)
    (.bad))))))
noncomputable def spec_l1Below_a : List Arg := [.bx [.fz [.sc (.int .u8)] [], .sc (.int .i64) (.l []), .sc (.int .i64) (.l [])], .one (.sc (.int .i64) (.l []))]
noncomputable def spec_l1Below_w (m : Nat) (vs : List T) (k : Ret → An) : An := spec_l1Below m (vs.headD dflt) (vs.tail.headD dflt) (vs.tail.tail.headD dflt) (vs.tail.tail.tail.headD dflt) (fun z0 z1 z2 z3 => k ⟨[.one (.sc (.int .i64) z0)], [[none, none, none], [none]], [some [.fz [.sc (.int .u8)] z1.rows, .sc (.int .i64) z2, .sc (.int .i64) z3], none]⟩)
theorem spec_l1Below_cf (m : Nat) : callK CX prims m = (patC 85 spec_l1Byte_a (spec_l1Byte_w m) (callK CX prims m)) := by
  rw [← patC_eq (fun vs k => spec_l1Byte_eq m vs k)]
noncomputable def spec_l1Below_c : Code := (Try.f62.body).getD .skip
noncomputable def spec_l1Below_fi : Fi := ⟨62, 2, 31, 17⟩
theorem spec_l1Below_eq (m : Nat) : ∀ vs k, callK CX prims m 62 (fArgs spec_l1Below_a vs) k = spec_l1Below_w m vs k := by
  cases m with
  | zero => exact fun vs k => rfl
  | succ m => exact fun vs k => Eq.trans (b := bodyK CX (callK CX prims m) (loopK CX (callK CX prims m) spec_l1Below_fi spec_l1Below_c m) 62 Try.f62 spec_l1Below_c (fArgs spec_l1Below_a vs) k) (by kernel_rfl) ((bodyK_congr (spec_l1Below_cf m) rfl 62 Try.f62 spec_l1Below_c (fArgs spec_l1Below_a vs) k).trans (by kernel_rfl))

/-! loop.example/g00244/spec.l1Str -/
noncomputable def spec_l1Str : Nat → T → T → T → T → (T → T → T → T → An) → An
  | 0, _, _, _, _, _ => .bad
  | m + 1, x0, x1, x2, x3, k0 =>
    spec_l1Below m (T.l x0.rows) x1 x2 (T.i (x3.rows.length : Int))
    (fun y0 y1 y2 y3 => cond (decide ((0 : Int) ≤ y0.int ∧ y0.int < (x3.rows.length : Int)))
    (k0 ((x3.rows.getD (Int.toNat y0.int) []).getD 0 dflt) (T.l y1.rows) y2 y3)
    (.bad))
noncomputable def spec_l1Str_a : List Arg := [.bx [.fz [.sc (.int .u8)] [], .sc (.int .i64) (.l []), .sc (.int .i64) (.l [])], .one (.fz [.sc (.str)] [])]
noncomputable def spec_l1Str_w (m : Nat) (vs : List T) (k : Ret → An) : An := spec_l1Str m (vs.headD dflt) (vs.tail.headD dflt) (vs.tail.tail.headD dflt) (vs.tail.tail.tail.headD dflt) (fun z0 z1 z2 z3 => k ⟨[.one (.sc (.str) z0)], [[none, none, none], [none]], [some [.fz [.sc (.int .u8)] z1.rows, .sc (.int .i64) z2, .sc (.int .i64) z3], none]⟩)
theorem spec_l1Str_cf (m : Nat) : callK CX prims m = (patC 62 spec_l1Below_a (spec_l1Below_w m) (callK CX prims m)) := by
  rw [← patC_eq (fun vs k => spec_l1Below_eq m vs k)]
noncomputable def spec_l1Str_c : Code := (Try.f86.body).getD .skip
noncomputable def spec_l1Str_fi : Fi := ⟨86, 2, 12, 17⟩
theorem spec_l1Str_eq (m : Nat) : ∀ vs k, callK CX prims m 86 (fArgs spec_l1Str_a vs) k = spec_l1Str_w m vs k := by
  cases m with
  | zero => exact fun vs k => rfl
  | succ m => exact fun vs k => Eq.trans (b := bodyK CX (callK CX prims m) (loopK CX (callK CX prims m) spec_l1Str_fi spec_l1Str_c m) 86 Try.f86 spec_l1Str_c (fArgs spec_l1Str_a vs) k) (by kernel_rfl) ((bodyK_congr (spec_l1Str_cf m) rfl 86 Try.f86 spec_l1Str_c (fArgs spec_l1Str_a vs) k).trans (by kernel_rfl))

/-! loop.example/g00244/spec.l3Key -/
noncomputable def spec_l3Key : Nat → T → T → T → (T → T → T → T → An) → An
  | 0, _, _, _, _ => .bad
  | m + 1, x0, x1, x2, k0 =>
    spec_l1Str m (T.l x0.rows) x1 x2 (T.l [[(T.s (⟨#[97]⟩ : ByteArray))], [(T.s (⟨#[98]⟩ : ByteArray))], [(T.s (⟨#[99]⟩ : ByteArray))], [(T.s (⟨#[107, 49]⟩ : ByteArray))], [(T.s (⟨#[107, 50]⟩ : ByteArray))], [(T.s (⟨#[109]⟩ : ByteArray))], [(T.s (⟨#[122]⟩ : ByteArray))]])
    (fun y0 y1 y2 y3 => k0 y0 (T.l y1.rows) y2 y3)
noncomputable def spec_l3Key_a : List Arg := [.bx [.fz [.sc (.int .u8)] [], .sc (.int .i64) (.l []), .sc (.int .i64) (.l [])]]
noncomputable def spec_l3Key_w (m : Nat) (vs : List T) (k : Ret → An) : An := spec_l3Key m (vs.headD dflt) (vs.tail.headD dflt) (vs.tail.tail.headD dflt) (fun z0 z1 z2 z3 => k ⟨[.one (.sc (.str) z0)], [[none, none, none]], [some [.fz [.sc (.int .u8)] z1.rows, .sc (.int .i64) z2, .sc (.int .i64) z3]]⟩)
theorem spec_l3Key_cf (m : Nat) : callK CX prims m = (patC 86 spec_l1Str_a (spec_l1Str_w m) (callK CX prims m)) := by
  rw [← patC_eq (fun vs k => spec_l1Str_eq m vs k)]
noncomputable def spec_l3Key_c : Code := (Try.f84.body).getD .skip
noncomputable def spec_l3Key_fi : Fi := ⟨84, 1, 6, 5⟩
theorem spec_l3Key_eq (m : Nat) : ∀ vs k, callK CX prims m 84 (fArgs spec_l3Key_a vs) k = spec_l3Key_w m vs k := by
  cases m with
  | zero => exact fun vs k => rfl
  | succ m => exact fun vs k => Eq.trans (b := bodyK CX (callK CX prims m) (loopK CX (callK CX prims m) spec_l3Key_fi spec_l3Key_c m) 84 Try.f84 spec_l3Key_c (fArgs spec_l3Key_a vs) k) (by kernel_rfl) ((bodyK_congr (spec_l3Key_cf m) rfl 84 Try.f84 spec_l3Key_c (fArgs spec_l3Key_a vs) k).trans (by kernel_rfl))

/-! loop.example/g00244/spec.l3Val -/
noncomputable def spec_l3Val : Nat → T → T → T → (T → T → T → T → An) → An
  | 0, _, _, _, _ => .bad
  | m + 1, x0, x1, x2, k0 =>
    spec_l1Str m (T.l x0.rows) x1 x2 (T.l [[(T.s (⟨#[]⟩ : ByteArray))], [(T.s (⟨#[49]⟩ : ByteArray))], [(T.s (⟨#[50]⟩ : ByteArray))], [(T.s (⟨#[120]⟩ : ByteArray))], [(T.s (⟨#[118, 97, 108, 117, 101]⟩ : ByteArray))], [(T.s (⟨#[0]⟩ : ByteArray))]])
    (fun y0 y1 y2 y3 => k0 y0 (T.l y1.rows) y2 y3)
noncomputable def spec_l3Val_a : List Arg := [.bx [.fz [.sc (.int .u8)] [], .sc (.int .i64) (.l []), .sc (.int .i64) (.l [])]]
noncomputable def spec_l3Val_w (m : Nat) (vs : List T) (k : Ret → An) : An := spec_l3Val m (vs.headD dflt) (vs.tail.headD dflt) (vs.tail.tail.headD dflt) (fun z0 z1 z2 z3 => k ⟨[.one (.sc (.str) z0)], [[none, none, none]], [some [.fz [.sc (.int .u8)] z1.rows, .sc (.int .i64) z2, .sc (.int .i64) z3]]⟩)
theorem spec_l3Val_cf (m : Nat) : callK CX prims m = (patC 86 spec_l1Str_a (spec_l1Str_w m) (callK CX prims m)) := by
  rw [← patC_eq (fun vs k => spec_l1Str_eq m vs k)]
noncomputable def spec_l3Val_c : Code := (Try.f64.body).getD .skip
noncomputable def spec_l3Val_fi : Fi := ⟨64, 1, 6, 5⟩
theorem spec_l3Val_eq (m : Nat) : ∀ vs k, callK CX prims m 64 (fArgs spec_l3Val_a vs) k = spec_l3Val_w m vs k := by
  cases m with
  | zero => exact fun vs k => rfl
  | succ m => exact fun vs k => Eq.trans (b := bodyK CX (callK CX prims m) (loopK CX (callK CX prims m) spec_l3Val_fi spec_l3Val_c m) 64 Try.f64 spec_l3Val_c (fArgs spec_l3Val_a vs) k) (by kernel_rfl) ((bodyK_congr (spec_l3Val_cf m) rfl 64 Try.f64 spec_l3Val_c (fArgs spec_l3Val_a vs) k).trans (by kernel_rfl))

/-! loop.example/g00244/spec.PutKey -/
noncomputable def spec_PutKey_L1_0 (m : Nat) : Nat → T → T → T → T → (T → T → T → T → An) → An
  | 0, _, _, _, _, _ => .bad
  | n + 1, x0, x1, x2, x3, k0 =>
    cond ((decide (x3.int < (x0.rows.length : Int))) == true)
    (cond (decide ((0 : Int) ≤ x3.int ∧ x3.int < (x0.rows.length : Int)))
    (cond ((Op.bytesLess ((x0.rows.getD (Int.toNat x3.int) []).getD 0 dflt).str.toList x1.str.toList) || (((x0.rows.getD (Int.toNat x3.int) []).getD 0 dflt).str.toList == x1.str.toList))
    (spec_PutKey_L1_0 m n x0 x1 x2 (T.i (IntKind.i64.wrap (x3.int + 1))) k0)
    (k0 x0 x1 x2 x3))
    (.bad))
    (k0 x0 x1 x2 x3)
noncomputable def spec_PutKey_s1_0 : Pack := ⟨[(0, .one ⟨.sn [], .sl [.sc (.str), .sc (.str)], .l []⟩), (1, .one ⟨.sc, .sc (.str), .l []⟩), (2, .one ⟨.sc, .sc (.str), .l []⟩), (9, .one ⟨.sc, .sc (.int .i64), .l []⟩)], []⟩
noncomputable def spec_PutKey_e1_0 : Pack := ⟨[(0, .one ⟨.sn [], .sl [.sc (.str), .sc (.str)], .l []⟩), (1, .one ⟨.sc, .sc (.str), .l []⟩), (2, .one ⟨.sc, .sc (.str), .l []⟩), (9, .one ⟨.sc, .sc (.int .i64), .l []⟩)], []⟩
noncomputable def spec_PutKey_L1_0w (m n : Nat) (vs : List T) (k : Ctl → Pack → An) : An := spec_PutKey_L1_0 m n (vs.headD dflt) (vs.tail.headD dflt) (vs.tail.tail.headD dflt) (vs.tail.tail.tail.headD dflt) (fun z0 z1 z2 z3 => k (.exit 2) (fPack spec_PutKey_e1_0 [z0, z1, z2, z3]))
noncomputable def spec_PutKey_L0_0 (m : Nat) : Nat → T → T → T → T → T → (T → An) → (T → T → T → An) → An
  | 0, _, _, _, _, _, _, _ => .bad
  | n + 1, x0, x1, x2, x3, x4, k0, k1 =>
    cond (decide (x3.int < (x4.rows.length : Int)))
    (cond (decide ((0 : Int) ≤ x3.int ∧ x3.int < (x4.rows.length : Int)))
    (cond (decide ((Int.toNat x3.int) < x4.rows.length))
    (cond (((x4.rows.getD (Int.toNat x3.int) []).getD 0 dflt).str.toList == x1.str.toList)
    (cond (decide ((0 : Int) ≤ x3.int ∧ x3.int < (x4.rows.length : Int)))
    (cond (decide ((Int.toNat x3.int) < x4.rows.length))
    (k0 (T.l (x4.rows.set (Int.toNat x3.int) ((x4.rows.getD (Int.toNat x3.int) []).set 1 x2))))
    (.bad))
    (.bad))
    (spec_PutKey_L0_0 m n x0 x1 x2 (T.i (IntKind.i64.wrap (x3.int + 1))) (T.l x4.rows) k0 k1))
    (.bad))
    (.bad))
    (k1 x0 x1 x2)
noncomputable def spec_PutKey_s0_0 : Pack := ⟨[(0, .one ⟨.sn [], .sl [.sc (.str), .sc (.str)], .l []⟩), (1, .one ⟨.sc, .sc (.str), .l []⟩), (2, .one ⟨.sc, .sc (.str), .l []⟩), (7, .one ⟨.al [1000000, 0] 0, .sl [.sc (.str), .sc (.str)], .l []⟩), (8, .one ⟨.sc, .sc (.int .i64), .l []⟩)], [([1000000, 0], .row [.sc (.str), .sc (.str)] [.F, .F] [])]⟩
noncomputable def spec_PutKey_e0_0 : Pack := ⟨[(6, .one ⟨.al [1000000, 0] 0, .sl [.sc (.str), .sc (.str)], .l []⟩)], [([1000000, 0], .row [.sc (.str), .sc (.str)] [.F, .F] [])]⟩
noncomputable def spec_PutKey_e0_1 : Pack := ⟨[(0, .one ⟨.sn [], .sl [.sc (.str), .sc (.str)], .l []⟩), (1, .one ⟨.sc, .sc (.str), .l []⟩), (2, .one ⟨.sc, .sc (.str), .l []⟩)], []⟩
noncomputable def spec_PutKey_L0_0w (m n : Nat) (vs : List T) (k : Ctl → Pack → An) : An := spec_PutKey_L0_0 m n (vs.headD dflt) (vs.tail.headD dflt) (vs.tail.tail.headD dflt) (vs.tail.tail.tail.headD dflt) (vs.tail.tail.tail.tail.headD dflt) (fun z0 => k .ret (fPack spec_PutKey_e0_0 [z0])) (fun z0 z1 z2 => k (.exit 0) (fPack spec_PutKey_e0_1 [z0, z1, z2]))
noncomputable def spec_PutKey : Nat → T → T → T → (T → An) → (T → An) → An
  | 0, _, _, _, _, _ => .bad
  | m + 1, x0, x1, x2, k0, k1 =>
    cond (decide ((0 + x0.rows.length) * 2 ≤ maxRow))
    (spec_PutKey_L0_0 m m (T.l x0.rows) x1 x2 (T.i 0) (T.l x0.rows)
    (fun y0 => k0 (T.l y0.rows))
    (fun y1 y2 y3 => spec_PutKey_L1_0 m m y1 y2 y3 (T.i 0)
    (fun y4 y5 y6 y7 => cond (decide ((0 : Int) ≤ y7.int ∧ y7.int ≤ (y4.rows.length : Int)))
    (cond (decide ((0 : Int) ≤ 0 ∧ 0 ≤ y7.int))
    (cond (decide ((0 + (y4.rows.take (Int.toNat y7.int)).length) * 2 ≤ maxRow))
    (cond (decide (((y4.rows.take (Int.toNat y7.int)).length + 1) * 2 ≤ maxRow))
    (cond (decide ((0 : Int) ≤ (y4.rows.length : Int) ∧ (y4.rows.length : Int) ≤ (y4.rows.length : Int)))
    (cond (decide ((0 : Int) ≤ y7.int ∧ y7.int ≤ (y4.rows.length : Int)))
    (cond (decide ((((y4.rows.take (Int.toNat y7.int)) ++ [[y5, y6]]).length + ((y4.rows.take (Int.toNat (y4.rows.length : Int))).drop (Int.toNat y7.int)).length) * 2 ≤ maxRow))
    (k1 (T.l (((y4.rows.take (Int.toNat y7.int)) ++ [[y5, y6]]) ++ ((y4.rows.take (Int.toNat (y4.rows.length : Int))).drop (Int.toNat y7.int)))))
    (.bad))
    (.bad))
    (.bad))
    (.bad))
    (.bad))
    (.bad))
    (.bad))))
    (.bad)
noncomputable def spec_PutKey_a : List Arg := [.one (.fz [.sc (.str), .sc (.str)] []), .one (.sc (.str) (.l [])), .one (.sc (.str) (.l []))]
noncomputable def spec_PutKey_w (m : Nat) (vs : List T) (k : Ret → An) : An := spec_PutKey m (vs.headD dflt) (vs.tail.headD dflt) (vs.tail.tail.headD dflt) (fun z0 => k ⟨[.one (.own [1000000, 0] [.sc (.str), .sc (.str)] [.F, .F] z0.rows)], [[none], [none], [none]], [none, none, none]⟩) (fun z0 => k ⟨[.one (.own [2000061] [.sc (.str), .sc (.str)] [.F, .F] z0.rows)], [[none], [none], [none]], [none, none, none]⟩)
theorem spec_PutKey_cf (m : Nat) : callK CX prims m = (callK CX prims m) := by
  rfl
noncomputable def spec_PutKey_c : Code := (Try.f83.body).getD .skip
noncomputable def spec_PutKey_fi : Fi := ⟨83, 3, 62, 64⟩
theorem spec_PutKey_lf (m : Nat) : ∀ n, (∀ vs k, loopK CX (callK CX prims m) spec_PutKey_fi spec_PutKey_c n [0, 1, 0, 1, 1] (fPack spec_PutKey_s0_0 vs) k = spec_PutKey_L0_0w m n vs k) ∧ (∀ vs k, loopK CX (callK CX prims m) spec_PutKey_fi spec_PutKey_c n [0, 0, 1, 1, 1, 1] (fPack spec_PutKey_s1_0 vs) k = spec_PutKey_L1_0w m n vs k) ∧ ((loopK CX (callK CX prims m) spec_PutKey_fi spec_PutKey_c n) = (patL [0, 1, 0, 1, 1] spec_PutKey_s0_0 (spec_PutKey_L0_0w m n) (patL [0, 0, 1, 1, 1, 1] spec_PutKey_s1_0 (spec_PutKey_L1_0w m n) (loopK CX (callK CX prims m) spec_PutKey_fi spec_PutKey_c n)))) := by
  intro n
  have hl : ∀ n, (∀ vs k, loopK CX (callK CX prims m) spec_PutKey_fi spec_PutKey_c n [0, 1, 0, 1, 1] (fPack spec_PutKey_s0_0 vs) k = spec_PutKey_L0_0w m n vs k) → (∀ vs k, loopK CX (callK CX prims m) spec_PutKey_fi spec_PutKey_c n [0, 0, 1, 1, 1, 1] (fPack spec_PutKey_s1_0 vs) k = spec_PutKey_L1_0w m n vs k) → ((loopK CX (callK CX prims m) spec_PutKey_fi spec_PutKey_c n) = (patL [0, 1, 0, 1, 1] spec_PutKey_s0_0 (spec_PutKey_L0_0w m n) (patL [0, 0, 1, 1, 1, 1] spec_PutKey_s1_0 (spec_PutKey_L1_0w m n) (loopK CX (callK CX prims m) spec_PutKey_fi spec_PutKey_c n)))) := by
    intro n h0 h1
    rw [← patL_eq h1, ← patL_eq h0]
  induction n with
  | zero => exact ⟨fun vs k => rfl, fun vs k => rfl, hl 0 (fun vs k => rfl) (fun vs k => rfl)⟩
  | succ n ihn =>
    have hn := ihn.2.2
    have h0 : ∀ vs k, loopK CX (callK CX prims m) spec_PutKey_fi spec_PutKey_c (n + 1) [0, 1, 0, 1, 1] (fPack spec_PutKey_s0_0 vs) k = spec_PutKey_L0_0w m (n + 1) vs k := fun vs k =>
      (stepL_congr (spec_PutKey_cf m) hn [0, 1, 0, 1, 1] _ _).trans (by kernel_rfl)
    have h1 : ∀ vs k, loopK CX (callK CX prims m) spec_PutKey_fi spec_PutKey_c (n + 1) [0, 0, 1, 1, 1, 1] (fPack spec_PutKey_s1_0 vs) k = spec_PutKey_L1_0w m (n + 1) vs k := fun vs k =>
      (stepL_congr (spec_PutKey_cf m) hn [0, 0, 1, 1, 1, 1] _ _).trans (by kernel_rfl)
    exact ⟨h0, h1, hl (n + 1) h0 h1⟩
theorem spec_PutKey_eq (m : Nat) : ∀ vs k, callK CX prims m 83 (fArgs spec_PutKey_a vs) k = spec_PutKey_w m vs k := by
  cases m with
  | zero => exact fun vs k => rfl
  | succ m => exact fun vs k => Eq.trans (b := bodyK CX (callK CX prims m) (loopK CX (callK CX prims m) spec_PutKey_fi spec_PutKey_c m) 83 Try.f83 spec_PutKey_c (fArgs spec_PutKey_a vs) k) (by kernel_rfl) ((bodyK_congr (spec_PutKey_cf m) ((spec_PutKey_lf m m).2.2) 83 Try.f83 spec_PutKey_c (fArgs spec_PutKey_a vs) k).trans (by kernel_rfl))

/-! loop.example/g00244/spec.l3Draw -/
noncomputable def spec_l3Draw_L0_0 (m : Nat) : Nat → T → T → T → T → T → T → (T → T → T → T → T → An) → An
  | 0, _, _, _, _, _, _, _ => .bad
  | n + 1, x0, x1, x2, x3, x4, x5, k0 =>
    cond (decide (x1.int > 0))
    (spec_l3Key m (T.l x2.rows) x3 x4
    (fun y4 y5 y6 y7 => spec_l3Val m (T.l y5.rows) y6 y7
    (fun y8 y9 y10 y11 => spec_PutKey m (T.l x5.rows) y4 y8
    (fun y12 => spec_l3Draw_L0_0 m n (T.i (x0.int.toNat : Int)) (T.i (IntKind.i64.wrap (x1.int - 1))) (T.l y9.rows) y10 y11 (T.l y12.rows) k0)
    (fun y13 => spec_l3Draw_L0_0 m n (T.i (x0.int.toNat : Int)) (T.i (IntKind.i64.wrap (x1.int - 1))) (T.l y9.rows) y10 y11 (T.l y13.rows) k0))))
    (k0 (T.i (x0.int.toNat : Int)) x2 x3 x4 (T.l x5.rows))
noncomputable def spec_l3Draw_s0_0 : Pack := ⟨[(0, .ptr [0, 999999] 0 0 0), (3, .one ⟨.al [1000000, 1] 0, .sl [.sc (.str), .sc (.str)], .l []⟩), (4, .one ⟨.sc, .sc (.int .i64), .l []⟩)], [([0, 999999], .box [⟨.sn [], .sl [.sc (.int .u8)], .l []⟩, ⟨.sc, .sc (.int .i64), .l []⟩, ⟨.sc, .sc (.int .i64), .l []⟩]), ([1000000, 1], .row [.sc (.str), .sc (.str)] [.F, .F] [])]⟩
noncomputable def spec_l3Draw_e0_0 : Pack := ⟨[(0, .ptr [0, 999999] 0 0 0), (3, .one ⟨.al [1000000, 1] 0, .sl [.sc (.str), .sc (.str)], .l []⟩)], [([0, 999999], .box [⟨.sn [], .sl [.sc (.int .u8)], .l []⟩, ⟨.sc, .sc (.int .i64), .l []⟩, ⟨.sc, .sc (.int .i64), .l []⟩]), ([1000000, 1], .row [.sc (.str), .sc (.str)] [.F, .F] [])]⟩
noncomputable def spec_l3Draw_L0_0w (m n : Nat) (vs : List T) (k : Ctl → Pack → An) : An := spec_l3Draw_L0_0 m n (vs.headD dflt) (vs.tail.headD dflt) (vs.tail.tail.headD dflt) (vs.tail.tail.tail.headD dflt) (vs.tail.tail.tail.tail.headD dflt) (vs.tail.tail.tail.tail.tail.headD dflt) (fun z0 z1 z2 z3 z4 => k (.exit 0) (fPack spec_l3Draw_e0_0 [z0, z1, z2, z3, z4]))
noncomputable def spec_l3Draw : Nat → T → T → T → (T → T → T → T → An) → An
  | 0, _, _, _, _ => .bad
  | m + 1, x0, x1, x2, k0 =>
    spec_l1Below m (T.l x0.rows) x1 x2 (T.i 8)
    (fun y0 y1 y2 y3 => spec_l3Draw_L0_0 m m (T.i 0) y0 (T.l y1.rows) y2 y3 (T.l [])
    (fun y14 y15 y16 y17 y18 => k0 (T.l y18.rows) (T.l y15.rows) y16 y17))
noncomputable def spec_l3Draw_a : List Arg := [.bx [.fz [.sc (.int .u8)] [], .sc (.int .i64) (.l []), .sc (.int .i64) (.l [])]]
noncomputable def spec_l3Draw_w (m : Nat) (vs : List T) (k : Ret → An) : An := spec_l3Draw m (vs.headD dflt) (vs.tail.headD dflt) (vs.tail.tail.headD dflt) (fun z0 z1 z2 z3 => k ⟨[.one (.own [1000000, 1] [.sc (.str), .sc (.str)] [.F, .F] z0.rows)], [[none, none, none]], [some [.fz [.sc (.int .u8)] z1.rows, .sc (.int .i64) z2, .sc (.int .i64) z3]]⟩)
theorem spec_l3Draw_cf (m : Nat) : callK CX prims m = (patC 62 spec_l1Below_a (spec_l1Below_w m) (patC 84 spec_l3Key_a (spec_l3Key_w m) (patC 64 spec_l3Val_a (spec_l3Val_w m) (patC 83 spec_PutKey_a (spec_PutKey_w m) (callK CX prims m))))) := by
  rw [← patC_eq (fun vs k => spec_PutKey_eq m vs k), ← patC_eq (fun vs k => spec_l3Val_eq m vs k), ← patC_eq (fun vs k => spec_l3Key_eq m vs k), ← patC_eq (fun vs k => spec_l1Below_eq m vs k)]
noncomputable def spec_l3Draw_c : Code := (Try.f61.body).getD .skip
noncomputable def spec_l3Draw_fi : Fi := ⟨61, 1, 19, 5⟩
theorem spec_l3Draw_lf (m : Nat) : ∀ n, (∀ vs k, loopK CX (callK CX prims m) spec_l3Draw_fi spec_l3Draw_c n [0, 1, 0, 1, 1] (fPack spec_l3Draw_s0_0 vs) k = spec_l3Draw_L0_0w m n vs k) ∧ ((loopK CX (callK CX prims m) spec_l3Draw_fi spec_l3Draw_c n) = (patL [0, 1, 0, 1, 1] spec_l3Draw_s0_0 (spec_l3Draw_L0_0w m n) (loopK CX (callK CX prims m) spec_l3Draw_fi spec_l3Draw_c n))) := by
  intro n
  have hl : ∀ n, (∀ vs k, loopK CX (callK CX prims m) spec_l3Draw_fi spec_l3Draw_c n [0, 1, 0, 1, 1] (fPack spec_l3Draw_s0_0 vs) k = spec_l3Draw_L0_0w m n vs k) → ((loopK CX (callK CX prims m) spec_l3Draw_fi spec_l3Draw_c n) = (patL [0, 1, 0, 1, 1] spec_l3Draw_s0_0 (spec_l3Draw_L0_0w m n) (loopK CX (callK CX prims m) spec_l3Draw_fi spec_l3Draw_c n))) := by
    intro n h0
    rw [← patL_eq h0]
  induction n with
  | zero => exact ⟨fun vs k => rfl, hl 0 (fun vs k => rfl)⟩
  | succ n ihn =>
    have hn := ihn.2
    have h0 : ∀ vs k, loopK CX (callK CX prims m) spec_l3Draw_fi spec_l3Draw_c (n + 1) [0, 1, 0, 1, 1] (fPack spec_l3Draw_s0_0 vs) k = spec_l3Draw_L0_0w m (n + 1) vs k := fun vs k =>
      (stepL_congr (spec_l3Draw_cf m) hn [0, 1, 0, 1, 1] _ _).trans (by kernel_rfl)
    exact ⟨h0, hl (n + 1) h0⟩
theorem spec_l3Draw_eq (m : Nat) : ∀ vs k, callK CX prims m 61 (fArgs spec_l3Draw_a vs) k = spec_l3Draw_w m vs k := by
  cases m with
  | zero => exact fun vs k => rfl
  | succ m => exact fun vs k => Eq.trans (b := bodyK CX (callK CX prims m) (loopK CX (callK CX prims m) spec_l3Draw_fi spec_l3Draw_c m) 61 Try.f61 spec_l3Draw_c (fArgs spec_l3Draw_a vs) k) (by kernel_rfl) ((bodyK_congr (spec_l3Draw_cf m) ((spec_l3Draw_lf m m).2) 61 Try.f61 spec_l3Draw_c (fArgs spec_l3Draw_a vs) k).trans (by kernel_rfl))

/-! loop.example/g00244/spec.l1Once -/
noncomputable def spec_l1Once : Nat → T → T → T → T → (T → T → T → T → An) → An
  | 0, _, _, _, _, _ => .bad
  | m + 1, x0, x1, x2, x3, k0 =>
    spec_l1Below m (T.l x0.rows) x1 x2 x3
    (fun y0 y1 y2 y3 => k0 (T.b (y0.int == 0)) (T.l y1.rows) y2 y3)
noncomputable def spec_l1Once_a : List Arg := [.bx [.fz [.sc (.int .u8)] [], .sc (.int .i64) (.l []), .sc (.int .i64) (.l [])], .one (.sc (.int .i64) (.l []))]
noncomputable def spec_l1Once_w (m : Nat) (vs : List T) (k : Ret → An) : An := spec_l1Once m (vs.headD dflt) (vs.tail.headD dflt) (vs.tail.tail.headD dflt) (vs.tail.tail.tail.headD dflt) (fun z0 z1 z2 z3 => k ⟨[.one (.sc (.bool) z0)], [[none, none, none], [none]], [some [.fz [.sc (.int .u8)] z1.rows, .sc (.int .i64) z2, .sc (.int .i64) z3], none]⟩)
theorem spec_l1Once_cf (m : Nat) : callK CX prims m = (patC 62 spec_l1Below_a (spec_l1Below_w m) (callK CX prims m)) := by
  rw [← patC_eq (fun vs k => spec_l1Below_eq m vs k)]
noncomputable def spec_l1Once_c : Code := (Try.f79.body).getD .skip
noncomputable def spec_l1Once_fi : Fi := ⟨79, 2, 9, 17⟩
theorem spec_l1Once_eq (m : Nat) : ∀ vs k, callK CX prims m 79 (fArgs spec_l1Once_a vs) k = spec_l1Once_w m vs k := by
  cases m with
  | zero => exact fun vs k => rfl
  | succ m => exact fun vs k => Eq.trans (b := bodyK CX (callK CX prims m) (loopK CX (callK CX prims m) spec_l1Once_fi spec_l1Once_c m) 79 Try.f79 spec_l1Once_c (fArgs spec_l1Once_a vs) k) (by kernel_rfl) ((bodyK_congr (spec_l1Once_cf m) rfl 79 Try.f79 spec_l1Once_c (fArgs spec_l1Once_a vs) k).trans (by kernel_rfl))

/-! loop.example/g00244/spec.l3KeyAny -/
noncomputable def spec_l3KeyAny : Nat → T → T → T → (T → T → T → T → An) → An
  | 0, _, _, _, _ => .bad
  | m + 1, x0, x1, x2, k0 =>
    spec_l1Once m (T.l x0.rows) x1 x2 (T.i 6)
    (fun y0 y1 y2 y3 => cond y0.bool
    (spec_l1Str m (T.l y1.rows) y2 y3 (T.l [[(T.s (⟨#[]⟩ : ByteArray))], [(T.s (⟨#[65]⟩ : ByteArray))], [(T.s (⟨#[97, 32, 98]⟩ : ByteArray))], [(T.s (⟨#[116, 104, 105, 114, 116, 101, 101, 110, 98, 121, 116, 101, 115]⟩ : ByteArray))], [(T.s (⟨#[116, 119, 101, 108, 118, 101, 98, 121, 116, 101, 115, 49]⟩ : ByteArray))]])
    (fun y4 y5 y6 y7 => k0 y4 (T.l y5.rows) y6 y7))
    (spec_l3Key m (T.l y1.rows) y2 y3
    (fun y8 y9 y10 y11 => k0 y8 (T.l y9.rows) y10 y11)))
noncomputable def spec_l3KeyAny_a : List Arg := [.bx [.fz [.sc (.int .u8)] [], .sc (.int .i64) (.l []), .sc (.int .i64) (.l [])]]
noncomputable def spec_l3KeyAny_w (m : Nat) (vs : List T) (k : Ret → An) : An := spec_l3KeyAny m (vs.headD dflt) (vs.tail.headD dflt) (vs.tail.tail.headD dflt) (fun z0 z1 z2 z3 => k ⟨[.one (.sc (.str) z0)], [[none, none, none]], [some [.fz [.sc (.int .u8)] z1.rows, .sc (.int .i64) z2, .sc (.int .i64) z3]]⟩)
theorem spec_l3KeyAny_cf (m : Nat) : callK CX prims m = (patC 79 spec_l1Once_a (spec_l1Once_w m) (patC 86 spec_l1Str_a (spec_l1Str_w m) (patC 84 spec_l3Key_a (spec_l3Key_w m) (callK CX prims m)))) := by
  rw [← patC_eq (fun vs k => spec_l3Key_eq m vs k), ← patC_eq (fun vs k => spec_l1Str_eq m vs k), ← patC_eq (fun vs k => spec_l1Once_eq m vs k)]
noncomputable def spec_l3KeyAny_c : Code := (Try.f63.body).getD .skip
noncomputable def spec_l3KeyAny_fi : Fi := ⟨63, 1, 10, 5⟩
theorem spec_l3KeyAny_eq (m : Nat) : ∀ vs k, callK CX prims m 63 (fArgs spec_l3KeyAny_a vs) k = spec_l3KeyAny_w m vs k := by
  cases m with
  | zero => exact fun vs k => rfl
  | succ m => exact fun vs k => Eq.trans (b := bodyK CX (callK CX prims m) (loopK CX (callK CX prims m) spec_l3KeyAny_fi spec_l3KeyAny_c m) 63 Try.f63 spec_l3KeyAny_c (fArgs spec_l3KeyAny_a vs) k) (by kernel_rfl) ((bodyK_congr (spec_l3KeyAny_cf m) rfl 63 Try.f63 spec_l3KeyAny_c (fArgs spec_l3KeyAny_a vs) k).trans (by kernel_rfl))

/-! loop.example/g00244/spec.l3Any -/
noncomputable def spec_l3Any : Nat → T → T → T → (T → T → T → T → An) → (T → T → T → T → An) → An
  | 0, _, _, _, _, _ => .bad
  | m + 1, x0, x1, x2, k0, k1 =>
    spec_l3Draw m (T.l x0.rows) x1 x2
    (fun y0 y1 y2 y3 => spec_l1Below m (T.l y1.rows) y2 y3 (T.i 8)
    (fun y4 y5 y6 y7 => cond (y4.int == 0)
    (spec_l3KeyAny m (T.l y5.rows) y6 y7
    (fun y8 y9 y10 y11 => spec_l3Val m (T.l y9.rows) y10 y11
    (fun y12 y13 y14 y15 => cond (decide ((y0.rows.length + 1) * 2 ≤ maxRow))
    (k0 (T.l (y0.rows ++ [[y8, y12]])) (T.l y13.rows) y14 y15)
    (.bad))))
    (cond (y4.int == 1)
    (cond (decide ((y0.rows.length : Int) > 0))
    (spec_l1Below m (T.l y5.rows) y6 y7 (T.i 2)
    (fun y16 y17 y18 y19 => cond (decide (0 ≤ (IntKind.i64.wrap (20 + y16.int)) ∧ (IntKind.i64.wrap (20 + y16.int)) ≤ (IntKind.i64.wrap (20 + y16.int))))
    (cond (decide ((IntKind.i64.wrap (20 + y16.int)) * ((1 : Nat) : Int) ≤ (maxCells : Int)))
    (cond (decide ((0 : Int) ≤ 0 ∧ 0 < (y0.rows.length : Int)))
    (cond (decide (0 < y0.rows.length))
    (k1 (T.l (y0.rows.set 0 ((y0.rows.getD 0 []).set 1 (T.s (rowsBytes (List.replicate (Int.toNat (IntKind.i64.wrap (20 + y16.int))) [(T.i 0)])))))) (T.l y17.rows) y18 y19)
    (.bad))
    (.bad))
    (.bad))
    (.bad)))
    (k1 (T.l y0.rows) (T.l y5.rows) y6 y7))
    (k1 (T.l y0.rows) (T.l y5.rows) y6 y7))))
noncomputable def spec_l3Any_a : List Arg := [.bx [.fz [.sc (.int .u8)] [], .sc (.int .i64) (.l []), .sc (.int .i64) (.l [])]]
noncomputable def spec_l3Any_w (m : Nat) (vs : List T) (k : Ret → An) : An := spec_l3Any m (vs.headD dflt) (vs.tail.headD dflt) (vs.tail.tail.headD dflt) (fun z0 z1 z2 z3 => k ⟨[.one (.own [2000017] [.sc (.str), .sc (.str)] [.F, .F] z0.rows)], [[none, none, none]], [some [.fz [.sc (.int .u8)] z1.rows, .sc (.int .i64) z2, .sc (.int .i64) z3]]⟩) (fun z0 z1 z2 z3 => k ⟨[.one (.own [2000005, 0, 0] [.sc (.str), .sc (.str)] [.F, .F] z0.rows)], [[none, none, none]], [some [.fz [.sc (.int .u8)] z1.rows, .sc (.int .i64) z2, .sc (.int .i64) z3]]⟩)
theorem spec_l3Any_cf (m : Nat) : callK CX prims m = (patC 61 spec_l3Draw_a (spec_l3Draw_w m) (patC 62 spec_l1Below_a (spec_l1Below_w m) (patC 63 spec_l3KeyAny_a (spec_l3KeyAny_w m) (patC 64 spec_l3Val_a (spec_l3Val_w m) (callK CX prims m))))) := by
  rw [← patC_eq (fun vs k => spec_l3Val_eq m vs k), ← patC_eq (fun vs k => spec_l3KeyAny_eq m vs k), ← patC_eq (fun vs k => spec_l1Below_eq m vs k), ← patC_eq (fun vs k => spec_l3Draw_eq m vs k)]
noncomputable def spec_l3Any_c : Code := (Try.f39.body).getD .skip
noncomputable def spec_l3Any_fi : Fi := ⟨39, 1, 32, 5⟩
theorem spec_l3Any_eq (m : Nat) : ∀ vs k, callK CX prims m 39 (fArgs spec_l3Any_a vs) k = spec_l3Any_w m vs k := by
  cases m with
  | zero => exact fun vs k => rfl
  | succ m => exact fun vs k => Eq.trans (b := bodyK CX (callK CX prims m) (loopK CX (callK CX prims m) spec_l3Any_fi spec_l3Any_c m) 39 Try.f39 spec_l3Any_c (fArgs spec_l3Any_a vs) k) (by kernel_rfl) ((bodyK_congr (spec_l3Any_cf m) rfl 39 Try.f39 spec_l3Any_c (fArgs spec_l3Any_a vs) k).trans (by kernel_rfl))

/-! loop.example/g00244/spec.DrawPairsText -/
noncomputable def spec_DrawPairsText : Nat → T → (T → An) → An
  | 0, _, _ => .bad
  | m + 1, x0, k0 =>
    spec_l1New m (T.l x0.rows)
    (fun y0 y1 y2 => spec_l3Any m (T.l y0.rows) y1 y2
    (fun y3 y4 y5 y6 => k0 (T.l y3.rows))
    (fun y7 y8 y9 y10 => k0 (T.l y7.rows)))
noncomputable def spec_DrawPairsText_a : List Arg := [.one (.fz [.sc (.int .u8)] [])]
noncomputable def spec_DrawPairsText_w (m : Nat) (vs : List T) (k : Ret → An) : An := spec_DrawPairsText m (vs.headD dflt) (fun z0 => k ⟨[.one (.own [2000007, 0, 0] [.sc (.str), .sc (.str)] [.F, .F] z0.rows)], [[none]], [none]⟩)
theorem spec_DrawPairsText_cf (m : Nat) : callK CX prims m = (patC 38 spec_l1New_a (spec_l1New_w m) (patC 39 spec_l3Any_a (spec_l3Any_w m) (callK CX prims m))) := by
  rw [← patC_eq (fun vs k => spec_l3Any_eq m vs k), ← patC_eq (fun vs k => spec_l1New_eq m vs k)]
noncomputable def spec_DrawPairsText_c : Code := (Try.f15.body).getD .skip
noncomputable def spec_DrawPairsText_fi : Fi := ⟨15, 1, 8, 4⟩
theorem spec_DrawPairsText_eq (m : Nat) : ∀ vs k, callK CX prims m 15 (fArgs spec_DrawPairsText_a vs) k = spec_DrawPairsText_w m vs k := by
  cases m with
  | zero => exact fun vs k => rfl
  | succ m => exact fun vs k => Eq.trans (b := bodyK CX (callK CX prims m) (loopK CX (callK CX prims m) spec_DrawPairsText_fi spec_DrawPairsText_c m) 15 Try.f15 spec_DrawPairsText_c (fArgs spec_DrawPairsText_a vs) k) (by kernel_rfl) ((bodyK_congr (spec_DrawPairsText_cf m) rfl 15 Try.f15 spec_DrawPairsText_c (fArgs spec_DrawPairsText_a vs) k).trans (by kernel_rfl))

/-! loop.example/g00244/impl.PairsText -/
noncomputable def impl_PairsText_L0_0 (m : Nat) : Nat → T → T → T → T → (T → An) → An
  | 0, _, _, _, _, _ => .bad
  | n + 1, x0, x1, x2, x3, k0 =>
    cond (decide (x2.int < x1.int))
    (cond (decide ((0 : Int) ≤ x2.int ∧ x2.int < (x0.rows.length : Int)))
    (cond (decide (((x0.rows.getD (Int.toNat x2.int) []).getD 0 dflt).str.size + (⟨#[61]⟩ : ByteArray).size < 9223372036854775808))
    (cond (decide ((((x0.rows.getD (Int.toNat x2.int) []).getD 0 dflt).str ++ (⟨#[61]⟩ : ByteArray)).size + ((x0.rows.getD (Int.toNat x2.int) []).getD 1 dflt).str.size < 9223372036854775808))
    (cond (decide ((x3.rows.length + 1) * 1 ≤ maxRow))
    (impl_PairsText_L0_0 m n x0 x1 (T.i (IntKind.i64.wrap (x2.int + 1))) (T.l (x3.rows ++ [[(T.s ((((x0.rows.getD (Int.toNat x2.int) []).getD 0 dflt).str ++ (⟨#[61]⟩ : ByteArray)) ++ ((x0.rows.getD (Int.toNat x2.int) []).getD 1 dflt).str))]])) k0)
    (.bad))
    (.bad))
    (.bad))
    (.bad))
    (k0 (T.l x3.rows))
noncomputable def impl_PairsText_s0_0 : Pack := ⟨[(3, .one ⟨.al [1000000, 0] 0, .sl [.sc (.str)], .l []⟩), (9, .one ⟨.sn [], .sl [.sc (.str), .sc (.str)], .l []⟩), (10, .one ⟨.sc, .sc (.int .i64), .l []⟩), (11, .one ⟨.sc, .sc (.int .i64), .l []⟩)], [([1000000, 0], .row [.sc (.str)] [.F] [])]⟩
noncomputable def impl_PairsText_e0_0 : Pack := ⟨[(3, .one ⟨.al [1000000, 0] 0, .sl [.sc (.str)], .l []⟩)], [([1000000, 0], .row [.sc (.str)] [.F] [])]⟩
noncomputable def impl_PairsText_L0_0w (m n : Nat) (vs : List T) (k : Ctl → Pack → An) : An := impl_PairsText_L0_0 m n (vs.headD dflt) (vs.tail.headD dflt) (vs.tail.tail.headD dflt) (vs.tail.tail.tail.headD dflt) (fun z0 => k (.exit 0) (fPack impl_PairsText_e0_0 [z0]))
noncomputable def impl_PairsText : Nat → T → (T → An) → An
  | 0, _, _ => .bad
  | m + 1, x0, k0 =>
    cond ((x0.rows.length : Int) == 0)
    (k0 (T.s (⟨#[101, 109, 112, 116, 121]⟩ : ByteArray)))
    (impl_PairsText_L0_0 m m (T.l x0.rows) (T.i (x0.rows.length : Int)) (T.i 0) (T.l [])
    (fun y0 => strings_Join m (T.l y0.rows) (T.s (⟨#[32]⟩ : ByteArray))
    (fun y1 => k0 y1)))
noncomputable def impl_PairsText_a : List Arg := [.one (.fz [.sc (.str), .sc (.str)] [])]
noncomputable def impl_PairsText_w (m : Nat) (vs : List T) (k : Ret → An) : An := impl_PairsText m (vs.headD dflt) (fun z0 => k ⟨[.one (.sc (.str) z0)], [[none]], [none]⟩)
theorem impl_PairsText_cf (m : Nat) : callK CX prims m = (patC 36 strings_Join_a (strings_Join_w m) (callK CX prims m)) := by
  rw [← patC_eq (fun vs k => strings_Join_eq m vs k)]
noncomputable def impl_PairsText_c : Code := (Try.f12.body).getD .skip
noncomputable def impl_PairsText_fi : Fi := ⟨12, 1, 27, 4⟩
theorem impl_PairsText_lf (m : Nat) : ∀ n, (∀ vs k, loopK CX (callK CX prims m) impl_PairsText_fi impl_PairsText_c n [0, 1, 0, 1, 1, 1] (fPack impl_PairsText_s0_0 vs) k = impl_PairsText_L0_0w m n vs k) ∧ ((loopK CX (callK CX prims m) impl_PairsText_fi impl_PairsText_c n) = (patL [0, 1, 0, 1, 1, 1] impl_PairsText_s0_0 (impl_PairsText_L0_0w m n) (loopK CX (callK CX prims m) impl_PairsText_fi impl_PairsText_c n))) := by
  intro n
  have hl : ∀ n, (∀ vs k, loopK CX (callK CX prims m) impl_PairsText_fi impl_PairsText_c n [0, 1, 0, 1, 1, 1] (fPack impl_PairsText_s0_0 vs) k = impl_PairsText_L0_0w m n vs k) → ((loopK CX (callK CX prims m) impl_PairsText_fi impl_PairsText_c n) = (patL [0, 1, 0, 1, 1, 1] impl_PairsText_s0_0 (impl_PairsText_L0_0w m n) (loopK CX (callK CX prims m) impl_PairsText_fi impl_PairsText_c n))) := by
    intro n h0
    rw [← patL_eq h0]
  induction n with
  | zero => exact ⟨fun vs k => rfl, hl 0 (fun vs k => rfl)⟩
  | succ n ihn =>
    have hn := ihn.2
    have h0 : ∀ vs k, loopK CX (callK CX prims m) impl_PairsText_fi impl_PairsText_c (n + 1) [0, 1, 0, 1, 1, 1] (fPack impl_PairsText_s0_0 vs) k = impl_PairsText_L0_0w m (n + 1) vs k := fun vs k =>
      (stepL_congr (impl_PairsText_cf m) hn [0, 1, 0, 1, 1, 1] _ _).trans (by kernel_rfl)
    exact ⟨h0, hl (n + 1) h0⟩
theorem impl_PairsText_eq (m : Nat) : ∀ vs k, callK CX prims m 12 (fArgs impl_PairsText_a vs) k = impl_PairsText_w m vs k := by
  cases m with
  | zero => exact fun vs k => rfl
  | succ m => exact fun vs k => Eq.trans (b := bodyK CX (callK CX prims m) (loopK CX (callK CX prims m) impl_PairsText_fi impl_PairsText_c m) 12 Try.f12 impl_PairsText_c (fArgs impl_PairsText_a vs) k) (by kernel_rfl) ((bodyK_congr (impl_PairsText_cf m) ((impl_PairsText_lf m m).2) 12 Try.f12 impl_PairsText_c (fArgs impl_PairsText_a vs) k).trans (by kernel_rfl))

/-! loop.example/g00244/spec.PairsText -/
noncomputable def spec_PairsText_L0_0 (m : Nat) : Nat → T → T → T → (T → An) → An
  | 0, _, _, _, _ => .bad
  | n + 1, x0, x1, x2, k0 =>
    cond (decide (x2.int < (x0.rows.length : Int)))
    (cond (decide (x2.int > 0))
    (cond (decide (x1.str.size + (⟨#[32]⟩ : ByteArray).size < 9223372036854775808))
    (cond (decide ((0 : Int) ≤ x2.int ∧ x2.int < (x0.rows.length : Int)))
    (cond (decide ((x1.str ++ (⟨#[32]⟩ : ByteArray)).size + ((x0.rows.getD (Int.toNat x2.int) []).getD 0 dflt).str.size < 9223372036854775808))
    (cond (decide (((x1.str ++ (⟨#[32]⟩ : ByteArray)) ++ ((x0.rows.getD (Int.toNat x2.int) []).getD 0 dflt).str).size + (⟨#[61]⟩ : ByteArray).size < 9223372036854775808))
    (cond (decide ((0 : Int) ≤ x2.int ∧ x2.int < (x0.rows.length : Int)))
    (cond (decide ((((x1.str ++ (⟨#[32]⟩ : ByteArray)) ++ ((x0.rows.getD (Int.toNat x2.int) []).getD 0 dflt).str) ++ (⟨#[61]⟩ : ByteArray)).size + (((x0.rows.getD (Int.toNat x2.int) []).drop 1).getD 0 dflt).str.size < 9223372036854775808))
    (spec_PairsText_L0_0 m n x0 (T.s ((((x1.str ++ (⟨#[32]⟩ : ByteArray)) ++ ((x0.rows.getD (Int.toNat x2.int) []).getD 0 dflt).str) ++ (⟨#[61]⟩ : ByteArray)) ++ (((x0.rows.getD (Int.toNat x2.int) []).drop 1).getD 0 dflt).str)) (T.i (IntKind.i64.wrap (x2.int + 1))) k0)
    (.bad))
    (.bad))
    (.bad))
    (.bad))
    (.bad))
    (.bad))
    (cond (decide ((0 : Int) ≤ x2.int ∧ x2.int < (x0.rows.length : Int)))
    (cond (decide (x1.str.size + ((x0.rows.getD (Int.toNat x2.int) []).getD 0 dflt).str.size < 9223372036854775808))
    (cond (decide ((x1.str ++ ((x0.rows.getD (Int.toNat x2.int) []).getD 0 dflt).str).size + (⟨#[61]⟩ : ByteArray).size < 9223372036854775808))
    (cond (decide ((0 : Int) ≤ x2.int ∧ x2.int < (x0.rows.length : Int)))
    (cond (decide (((x1.str ++ ((x0.rows.getD (Int.toNat x2.int) []).getD 0 dflt).str) ++ (⟨#[61]⟩ : ByteArray)).size + (((x0.rows.getD (Int.toNat x2.int) []).drop 1).getD 0 dflt).str.size < 9223372036854775808))
    (spec_PairsText_L0_0 m n x0 (T.s (((x1.str ++ ((x0.rows.getD (Int.toNat x2.int) []).getD 0 dflt).str) ++ (⟨#[61]⟩ : ByteArray)) ++ (((x0.rows.getD (Int.toNat x2.int) []).drop 1).getD 0 dflt).str)) (T.i (IntKind.i64.wrap (x2.int + 1))) k0)
    (.bad))
    (.bad))
    (.bad))
    (.bad))
    (.bad)))
    (k0 x1)
noncomputable def spec_PairsText_s0_0 : Pack := ⟨[(0, .one ⟨.sn [], .sl [.sc (.str), .sc (.str)], .l []⟩), (3, .one ⟨.sc, .sc (.str), .l []⟩), (4, .one ⟨.sc, .sc (.int .i64), .l []⟩)], []⟩
noncomputable def spec_PairsText_e0_0 : Pack := ⟨[(3, .one ⟨.sc, .sc (.str), .l []⟩)], []⟩
noncomputable def spec_PairsText_L0_0w (m n : Nat) (vs : List T) (k : Ctl → Pack → An) : An := spec_PairsText_L0_0 m n (vs.headD dflt) (vs.tail.headD dflt) (vs.tail.tail.headD dflt) (fun z0 => k (.exit 0) (fPack spec_PairsText_e0_0 [z0]))
noncomputable def spec_PairsText : Nat → T → (T → An) → An
  | 0, _, _ => .bad
  | m + 1, x0, k0 =>
    cond ((x0.rows.length : Int) == 0)
    (k0 (T.s (⟨#[101, 109, 112, 116, 121]⟩ : ByteArray)))
    (spec_PairsText_L0_0 m m (T.l x0.rows) (T.s (⟨#[]⟩ : ByteArray)) (T.i 0)
    (fun y0 => k0 y0))
noncomputable def spec_PairsText_a : List Arg := [.one (.fz [.sc (.str), .sc (.str)] [])]
noncomputable def spec_PairsText_w (m : Nat) (vs : List T) (k : Ret → An) : An := spec_PairsText m (vs.headD dflt) (fun z0 => k ⟨[.one (.sc (.str) z0)], [[none]], [none]⟩)
theorem spec_PairsText_cf (m : Nat) : callK CX prims m = (callK CX prims m) := by
  rfl
noncomputable def spec_PairsText_c : Code := (Try.f10.body).getD .skip
noncomputable def spec_PairsText_fi : Fi := ⟨10, 1, 33, 4⟩
theorem spec_PairsText_lf (m : Nat) : ∀ n, (∀ vs k, loopK CX (callK CX prims m) spec_PairsText_fi spec_PairsText_c n [0, 1, 0, 1, 1, 1] (fPack spec_PairsText_s0_0 vs) k = spec_PairsText_L0_0w m n vs k) ∧ ((loopK CX (callK CX prims m) spec_PairsText_fi spec_PairsText_c n) = (patL [0, 1, 0, 1, 1, 1] spec_PairsText_s0_0 (spec_PairsText_L0_0w m n) (loopK CX (callK CX prims m) spec_PairsText_fi spec_PairsText_c n))) := by
  intro n
  have hl : ∀ n, (∀ vs k, loopK CX (callK CX prims m) spec_PairsText_fi spec_PairsText_c n [0, 1, 0, 1, 1, 1] (fPack spec_PairsText_s0_0 vs) k = spec_PairsText_L0_0w m n vs k) → ((loopK CX (callK CX prims m) spec_PairsText_fi spec_PairsText_c n) = (patL [0, 1, 0, 1, 1, 1] spec_PairsText_s0_0 (spec_PairsText_L0_0w m n) (loopK CX (callK CX prims m) spec_PairsText_fi spec_PairsText_c n))) := by
    intro n h0
    rw [← patL_eq h0]
  induction n with
  | zero => exact ⟨fun vs k => rfl, hl 0 (fun vs k => rfl)⟩
  | succ n ihn =>
    have hn := ihn.2
    have h0 : ∀ vs k, loopK CX (callK CX prims m) spec_PairsText_fi spec_PairsText_c (n + 1) [0, 1, 0, 1, 1, 1] (fPack spec_PairsText_s0_0 vs) k = spec_PairsText_L0_0w m (n + 1) vs k := fun vs k =>
      (stepL_congr (spec_PairsText_cf m) hn [0, 1, 0, 1, 1, 1] _ _).trans (by kernel_rfl)
    exact ⟨h0, hl (n + 1) h0⟩
theorem spec_PairsText_eq (m : Nat) : ∀ vs k, callK CX prims m 10 (fArgs spec_PairsText_a vs) k = spec_PairsText_w m vs k := by
  cases m with
  | zero => exact fun vs k => rfl
  | succ m => exact fun vs k => Eq.trans (b := bodyK CX (callK CX prims m) (loopK CX (callK CX prims m) spec_PairsText_fi spec_PairsText_c m) 10 Try.f10 spec_PairsText_c (fArgs spec_PairsText_a vs) k) (by kernel_rfl) ((bodyK_congr (spec_PairsText_cf m) ((spec_PairsText_lf m m).2) 10 Try.f10 spec_PairsText_c (fArgs spec_PairsText_a vs) k).trans (by kernel_rfl))

/-! loop.example/g00244/laws.FnPairsTexts -/
noncomputable def laws_FnPairsTexts_L2_0 (m : Nat) : Nat → T → T → T → T → T → (T → T → T → T → An) → An
  | 0, _, _, _, _, _, _ => .bad
  | n + 1, x0, x1, x2, x3, x4, k0 =>
    cond (decide ((0 : Int) ≤ x2.int ∧ x2.int < (x4.rows.length : Int)))
    (cond (decide ((Int.toNat x2.int) < x4.rows.length))
    (cond (decide (x3.int < (((x4.rows.getD (Int.toNat x2.int) []).getD 0 dflt).str.size : Int)))
    (cond (decide ((0 : Int) ≤ x2.int ∧ x2.int < (x4.rows.length : Int)))
    (cond (decide ((Int.toNat x2.int) < x4.rows.length))
    (cond (decide ((0 : Int) ≤ x3.int ∧ x3.int < (((x4.rows.getD (Int.toNat x2.int) []).getD 0 dflt).str.size : Int)))
    (cond (((((x4.rows.getD (Int.toNat x2.int) []).getD 0 dflt).str.data.toList.getD (Int.toNat x3.int) 0).toNat : Int) == 32)
    (laws_FnPairsTexts_L2_0 m n x0 (T.i (IntKind.i64.wrap (x1.int - 1))) x2 (T.i (IntKind.i64.wrap (x3.int + 1))) (T.l x4.rows) k0)
    (laws_FnPairsTexts_L2_0 m n x0 x1 x2 (T.i (IntKind.i64.wrap (x3.int + 1))) (T.l x4.rows) k0))
    (.bad))
    (.bad))
    (.bad))
    (k0 x0 x1 x2 (T.l x4.rows)))
    (.bad))
    (.bad)
noncomputable def laws_FnPairsTexts_s2_0 : Pack := ⟨[(3, .one ⟨.al [1000000, 0] 0, .sl [.sc (.str), .sc (.str)], .l []⟩), (4, .one ⟨.sc, .sc (.str), .l []⟩), (5, .one ⟨.sc, .sc (.int .i64), .l []⟩), (7, .one ⟨.sc, .sc (.int .i64), .l []⟩), (8, .one ⟨.sc, .sc (.int .i64), .l []⟩)], [([1000000, 0], .row [.sc (.str), .sc (.str)] [.F, .F] [])]⟩
noncomputable def laws_FnPairsTexts_e2_0 : Pack := ⟨[(3, .one ⟨.al [1000000, 0] 0, .sl [.sc (.str), .sc (.str)], .l []⟩), (4, .one ⟨.sc, .sc (.str), .l []⟩), (5, .one ⟨.sc, .sc (.int .i64), .l []⟩), (7, .one ⟨.sc, .sc (.int .i64), .l []⟩)], [([1000000, 0], .row [.sc (.str), .sc (.str)] [.F, .F] [])]⟩
noncomputable def laws_FnPairsTexts_L2_0w (m n : Nat) (vs : List T) (k : Ctl → Pack → An) : An := laws_FnPairsTexts_L2_0 m n (vs.headD dflt) (vs.tail.headD dflt) (vs.tail.tail.headD dflt) (vs.tail.tail.tail.headD dflt) (vs.tail.tail.tail.tail.headD dflt) (fun z0 z1 z2 z3 => k (.exit 4) (fPack laws_FnPairsTexts_e2_0 [z0, z1, z2, z3]))
noncomputable def laws_FnPairsTexts_L1_0 (m : Nat) : Nat → T → T → T → T → (T → T → T → An) → An
  | 0, _, _, _, _, _ => .bad
  | n + 1, x0, x1, x2, x3, k0 =>
    cond (decide (x2.int < (x3.rows.length : Int)))
    (laws_FnPairsTexts_L2_0 m n x0 x1 x2 (T.i 0) (T.l x3.rows)
    (fun y6 y7 y8 y9 => laws_FnPairsTexts_L1_0 m n y6 y7 (T.i (IntKind.i64.wrap (y8.int + 1))) (T.l y9.rows) k0))
    (k0 x0 x1 (T.l x3.rows))
noncomputable def laws_FnPairsTexts_s1_0 : Pack := ⟨[(3, .one ⟨.al [1000000, 0] 0, .sl [.sc (.str), .sc (.str)], .l []⟩), (4, .one ⟨.sc, .sc (.str), .l []⟩), (5, .one ⟨.sc, .sc (.int .i64), .l []⟩), (7, .one ⟨.sc, .sc (.int .i64), .l []⟩)], [([1000000, 0], .row [.sc (.str), .sc (.str)] [.F, .F] [])]⟩
noncomputable def laws_FnPairsTexts_e1_0 : Pack := ⟨[(3, .one ⟨.al [1000000, 0] 0, .sl [.sc (.str), .sc (.str)], .l []⟩), (4, .one ⟨.sc, .sc (.str), .l []⟩), (5, .one ⟨.sc, .sc (.int .i64), .l []⟩)], [([1000000, 0], .row [.sc (.str), .sc (.str)] [.F, .F] [])]⟩
noncomputable def laws_FnPairsTexts_L1_0w (m n : Nat) (vs : List T) (k : Ctl → Pack → An) : An := laws_FnPairsTexts_L1_0 m n (vs.headD dflt) (vs.tail.headD dflt) (vs.tail.tail.headD dflt) (vs.tail.tail.tail.headD dflt) (fun z0 z1 z2 => k (.exit 2) (fPack laws_FnPairsTexts_e1_0 [z0, z1, z2]))
noncomputable def laws_FnPairsTexts_L0_0 (m : Nat) : Nat → T → T → T → T → (T → T → T → An) → An
  | 0, _, _, _, _, _ => .bad
  | n + 1, x0, x1, x2, x3, k0 =>
    cond (decide (x2.int < (x0.str.size : Int)))
    (cond (decide ((0 : Int) ≤ x2.int ∧ x2.int < (x0.str.size : Int)))
    (cond (((x0.str.data.toList.getD (Int.toNat x2.int) 0).toNat : Int) == 32)
    (laws_FnPairsTexts_L0_0 m n x0 (T.i (IntKind.i64.wrap (x1.int + 1))) (T.i (IntKind.i64.wrap (x2.int + 1))) (T.l x3.rows) k0)
    (laws_FnPairsTexts_L0_0 m n x0 x1 (T.i (IntKind.i64.wrap (x2.int + 1))) (T.l x3.rows) k0))
    (.bad))
    (k0 x0 x1 (T.l x3.rows))
noncomputable def laws_FnPairsTexts_s0_0 : Pack := ⟨[(3, .one ⟨.al [1000000, 0] 0, .sl [.sc (.str), .sc (.str)], .l []⟩), (4, .one ⟨.sc, .sc (.str), .l []⟩), (5, .one ⟨.sc, .sc (.int .i64), .l []⟩), (6, .one ⟨.sc, .sc (.int .i64), .l []⟩)], [([1000000, 0], .row [.sc (.str), .sc (.str)] [.F, .F] [])]⟩
noncomputable def laws_FnPairsTexts_e0_0 : Pack := ⟨[(3, .one ⟨.al [1000000, 0] 0, .sl [.sc (.str), .sc (.str)], .l []⟩), (4, .one ⟨.sc, .sc (.str), .l []⟩), (5, .one ⟨.sc, .sc (.int .i64), .l []⟩)], [([1000000, 0], .row [.sc (.str), .sc (.str)] [.F, .F] [])]⟩
noncomputable def laws_FnPairsTexts_L0_0w (m n : Nat) (vs : List T) (k : Ctl → Pack → An) : An := laws_FnPairsTexts_L0_0 m n (vs.headD dflt) (vs.tail.headD dflt) (vs.tail.tail.headD dflt) (vs.tail.tail.tail.headD dflt) (fun z0 z1 z2 => k (.exit 0) (fPack laws_FnPairsTexts_e0_0 [z0, z1, z2]))
noncomputable def laws_FnPairsTexts : Nat → T → (T → An) → An
  | 0, _, _ => .bad
  | m + 1, x0, k0 =>
    laws_big m (T.l x0.rows)
    (fun y0 => cond y0.bool
    (k0 (T.b true))
    (spec_DrawPairsText m (T.l x0.rows)
    (fun y1 => impl_PairsText m (T.l y1.rows)
    (fun y2 => laws_FnPairsTexts_L0_0 m m y2 (T.i 0) (T.i 0) (T.l y1.rows)
    (fun y3 y4 y5 => laws_FnPairsTexts_L1_0 m m y3 y4 (T.i 0) (T.l y5.rows)
    (fun y10 y11 y12 => spec_PairsText m (T.l y12.rows)
    (fun y13 => cond ((y10.str.toList == y13.str.toList) == true)
    (cond ((!(y10.str.toList == (⟨#[]⟩ : ByteArray).toList)) == true)
    (cond (((y12.rows.length : Int) == 0) == true)
    (cond ((y11.int == 0) == false)
    (cond ((decide ((y12.rows.length : Int) > 0)) == true)
    (k0 (T.b (y11.int == (IntKind.i64.wrap ((y12.rows.length : Int) - 1)))))
    (k0 (T.b false)))
    (k0 (T.b true)))
    (cond ((decide ((y12.rows.length : Int) > 0)) == true)
    (k0 (T.b (y11.int == (IntKind.i64.wrap ((y12.rows.length : Int) - 1)))))
    (k0 (T.b false))))
    (k0 (T.b false)))
    (k0 (T.b false)))))))))
noncomputable def laws_FnPairsTexts_a : List Arg := [.one (.fz [.sc (.int .u8)] [])]
noncomputable def laws_FnPairsTexts_w (m : Nat) (vs : List T) (k : Ret → An) : An := laws_FnPairsTexts m (vs.headD dflt) (fun z0 => k ⟨[.one (.sc (.bool) z0)], [[none]], [none]⟩)
theorem laws_FnPairsTexts_cf (m : Nat) : callK CX prims m = (patC 14 laws_big_a (laws_big_w m) (patC 15 spec_DrawPairsText_a (spec_DrawPairsText_w m) (patC 12 impl_PairsText_a (impl_PairsText_w m) (patC 10 spec_PairsText_a (spec_PairsText_w m) (callK CX prims m))))) := by
  rw [← patC_eq (fun vs k => spec_PairsText_eq m vs k), ← patC_eq (fun vs k => impl_PairsText_eq m vs k), ← patC_eq (fun vs k => spec_DrawPairsText_eq m vs k), ← patC_eq (fun vs k => laws_big_eq m vs k)]
noncomputable def laws_FnPairsTexts_c : Code := (Try.f4.body).getD .skip
noncomputable def laws_FnPairsTexts_fi : Fi := ⟨4, 1, 82, 4⟩
theorem laws_FnPairsTexts_lf (m : Nat) : ∀ n, (∀ vs k, loopK CX (callK CX prims m) laws_FnPairsTexts_fi laws_FnPairsTexts_c n [0, 1, 0, 1, 1, 1, 1, 1] (fPack laws_FnPairsTexts_s0_0 vs) k = laws_FnPairsTexts_L0_0w m n vs k) ∧ (∀ vs k, loopK CX (callK CX prims m) laws_FnPairsTexts_fi laws_FnPairsTexts_c n [0, 1, 0, 1, 1, 1, 1, 1, 1] (fPack laws_FnPairsTexts_s1_0 vs) k = laws_FnPairsTexts_L1_0w m n vs k) ∧ (∀ vs k, loopK CX (callK CX prims m) laws_FnPairsTexts_fi laws_FnPairsTexts_c n [0, 1, 0, 0, 1, 0, 0, 1, 0, 1, 1, 1, 1, 1, 1] (fPack laws_FnPairsTexts_s2_0 vs) k = laws_FnPairsTexts_L2_0w m n vs k) ∧ ((loopK CX (callK CX prims m) laws_FnPairsTexts_fi laws_FnPairsTexts_c n) = (patL [0, 1, 0, 1, 1, 1, 1, 1] laws_FnPairsTexts_s0_0 (laws_FnPairsTexts_L0_0w m n) (patL [0, 1, 0, 1, 1, 1, 1, 1, 1] laws_FnPairsTexts_s1_0 (laws_FnPairsTexts_L1_0w m n) (patL [0, 1, 0, 0, 1, 0, 0, 1, 0, 1, 1, 1, 1, 1, 1] laws_FnPairsTexts_s2_0 (laws_FnPairsTexts_L2_0w m n) (loopK CX (callK CX prims m) laws_FnPairsTexts_fi laws_FnPairsTexts_c n))))) := by
  intro n
  have hl : ∀ n, (∀ vs k, loopK CX (callK CX prims m) laws_FnPairsTexts_fi laws_FnPairsTexts_c n [0, 1, 0, 1, 1, 1, 1, 1] (fPack laws_FnPairsTexts_s0_0 vs) k = laws_FnPairsTexts_L0_0w m n vs k) → (∀ vs k, loopK CX (callK CX prims m) laws_FnPairsTexts_fi laws_FnPairsTexts_c n [0, 1, 0, 1, 1, 1, 1, 1, 1] (fPack laws_FnPairsTexts_s1_0 vs) k = laws_FnPairsTexts_L1_0w m n vs k) → (∀ vs k, loopK CX (callK CX prims m) laws_FnPairsTexts_fi laws_FnPairsTexts_c n [0, 1, 0, 0, 1, 0, 0, 1, 0, 1, 1, 1, 1, 1, 1] (fPack laws_FnPairsTexts_s2_0 vs) k = laws_FnPairsTexts_L2_0w m n vs k) → ((loopK CX (callK CX prims m) laws_FnPairsTexts_fi laws_FnPairsTexts_c n) = (patL [0, 1, 0, 1, 1, 1, 1, 1] laws_FnPairsTexts_s0_0 (laws_FnPairsTexts_L0_0w m n) (patL [0, 1, 0, 1, 1, 1, 1, 1, 1] laws_FnPairsTexts_s1_0 (laws_FnPairsTexts_L1_0w m n) (patL [0, 1, 0, 0, 1, 0, 0, 1, 0, 1, 1, 1, 1, 1, 1] laws_FnPairsTexts_s2_0 (laws_FnPairsTexts_L2_0w m n) (loopK CX (callK CX prims m) laws_FnPairsTexts_fi laws_FnPairsTexts_c n))))) := by
    intro n h0 h1 h2
    rw [← patL_eq h2, ← patL_eq h1, ← patL_eq h0]
  induction n with
  | zero => exact ⟨fun vs k => rfl, fun vs k => rfl, fun vs k => rfl, hl 0 (fun vs k => rfl) (fun vs k => rfl) (fun vs k => rfl)⟩
  | succ n ihn =>
    have hn := ihn.2.2.2
    have h0 : ∀ vs k, loopK CX (callK CX prims m) laws_FnPairsTexts_fi laws_FnPairsTexts_c (n + 1) [0, 1, 0, 1, 1, 1, 1, 1] (fPack laws_FnPairsTexts_s0_0 vs) k = laws_FnPairsTexts_L0_0w m (n + 1) vs k := fun vs k =>
      (stepL_congr (laws_FnPairsTexts_cf m) hn [0, 1, 0, 1, 1, 1, 1, 1] _ _).trans (by kernel_rfl)
    have h1 : ∀ vs k, loopK CX (callK CX prims m) laws_FnPairsTexts_fi laws_FnPairsTexts_c (n + 1) [0, 1, 0, 1, 1, 1, 1, 1, 1] (fPack laws_FnPairsTexts_s1_0 vs) k = laws_FnPairsTexts_L1_0w m (n + 1) vs k := fun vs k =>
      (stepL_congr (laws_FnPairsTexts_cf m) hn [0, 1, 0, 1, 1, 1, 1, 1, 1] _ _).trans (by kernel_rfl)
    have h2 : ∀ vs k, loopK CX (callK CX prims m) laws_FnPairsTexts_fi laws_FnPairsTexts_c (n + 1) [0, 1, 0, 0, 1, 0, 0, 1, 0, 1, 1, 1, 1, 1, 1] (fPack laws_FnPairsTexts_s2_0 vs) k = laws_FnPairsTexts_L2_0w m (n + 1) vs k := fun vs k =>
      (stepL_congr (laws_FnPairsTexts_cf m) hn [0, 1, 0, 0, 1, 0, 0, 1, 0, 1, 1, 1, 1, 1, 1] _ _).trans (by kernel_rfl)
    exact ⟨h0, h1, h2, hl (n + 1) h0 h1 h2⟩
theorem laws_FnPairsTexts_eq (m : Nat) : ∀ vs k, callK CX prims m 4 (fArgs laws_FnPairsTexts_a vs) k = laws_FnPairsTexts_w m vs k := by
  cases m with
  | zero => exact fun vs k => rfl
  | succ m => exact fun vs k => Eq.trans (b := bodyK CX (callK CX prims m) (loopK CX (callK CX prims m) laws_FnPairsTexts_fi laws_FnPairsTexts_c m) 4 Try.f4 laws_FnPairsTexts_c (fArgs laws_FnPairsTexts_a vs) k) (by kernel_rfl) ((bodyK_congr (laws_FnPairsTexts_cf m) ((laws_FnPairsTexts_lf m m).2.2.2) 4 Try.f4 laws_FnPairsTexts_c (fArgs laws_FnPairsTexts_a vs) k).trans (by kernel_rfl))


end Go.Proofs.Ytkocbeamfmfgiaa

