/- A part of the proof: texts S1H, S1P, S1A, S1B: see the last part's opening words. -/
import Derived.Test.YtkocbeamfmfgiaaE3
import Derived.Test.YtkocbeamfmfgiaaProg
set_option linter.unusedVariables false
set_option linter.unusedSimpArgs false
set_option linter.unnecessarySimpa false
namespace Go.Proofs.Ytkocbeamfmfgiaa
open Go Go.E Go.Proofs
noncomputable section
def tyTab : List (Option TI) := [
  none,
  some ⟨.other, [.sc (.any)], 8, false⟩,
  some ⟨.sc (.int .i64), [.sc (.int .i64)], 8, false⟩,
  some ⟨.sc (.int .i64), [.sc (.int .i64)], 8, false⟩,
  some ⟨.sc (.bool), [.sc (.bool)], 1, false⟩,
  some ⟨.sc (.int .u8), [.sc (.int .u8)], 1, false⟩,
  some ⟨.sc (.int .u8), [.sc (.int .u8)], 1, false⟩,
  some ⟨.struct [(0, 2), (1, 3), (2, 4), (3, 6)], [.sc (.int .i64), .sc (.int .i64), .sc (.bool), .sc (.int .u8)], 24, true⟩,
  some ⟨.struct [(0, 2), (1, 3), (2, 4), (3, 6)], [.sc (.int .i64), .sc (.int .i64), .sc (.bool), .sc (.int .u8)], 24, true⟩,
  some ⟨.sc (.str), [.sc (.str)], 16, false⟩,
  some ⟨.sc (.str), [.sc (.str)], 16, false⟩,
  some ⟨.sc (.str), [.sc (.str)], 16, false⟩,
  some ⟨.sc (.int .u64), [.sc (.int .u64)], 8, false⟩,
  some ⟨.struct [(0, 9), (1, 12)], [.sc (.str), .sc (.int .u64)], 24, false⟩,
  some ⟨.struct [(0, 9), (1, 12)], [.sc (.str), .sc (.int .u64)], 24, false⟩,
  some ⟨.ptr 130, [.sc (.any)], 8, false⟩,
  some ⟨.ptr 133, [.sc (.any)], 8, false⟩,
  some ⟨.ptr 141, [.sc (.any)], 8, false⟩,
  some ⟨.struct [(0, 17)], [.sc (.any)], 8, false⟩,
  some ⟨.struct [(0, 17)], [.sc (.any)], 8, false⟩,
  some ⟨.other, [.sc (.any)], 16, false⟩,
  some ⟨.sc (.int .i32), [.sc (.int .i32)], 4, false⟩,
  some ⟨.slice 59, [.sl [.sc (.str), .sc (.str)]], 24, false⟩,
  some ⟨.other, [.sc (.any)], 8, false⟩,
  some ⟨.other, [.sc (.any)], 8, false⟩,
  some ⟨.slice 33, [.sl [.sc (.str), .sc (.str)]], 24, false⟩,
  some ⟨.other, [.sc (.any)], 8, false⟩,
  some ⟨.other, [.sc (.any)], 8, false⟩,
  some ⟨.other, [.sc (.any)], 8, false⟩,
  some ⟨.slice 5, [.sl [.sc (.int .u8)]], 24, false⟩,
  some ⟨.other, [.sc (.any)], 8, false⟩,
  some ⟨.other, [.sc (.any)], 8, false⟩,
  some ⟨.struct [(0, 9), (1, 9)], [.sc (.str), .sc (.str)], 32, true⟩,
  some ⟨.struct [(0, 9), (1, 9)], [.sc (.str), .sc (.str)], 32, true⟩,
  some ⟨.slice 68, [.sl [.sc (.int .i64), .sc (.str), .sc (.str)]], 24, false⟩,
  some ⟨.other, [.sc (.any)], 8, false⟩,
  some ⟨.other, [.sc (.any)], 8, false⟩,
  some ⟨.slice 71, [.sl [.sc (.int .i64), .sc (.str), .sc (.str)]], 24, false⟩,
  some ⟨.other, [.sc (.any)], 8, false⟩,
  some ⟨.other, [.sc (.any)], 8, false⟩,
  some ⟨.other, [.sc (.any)], 8, false⟩,
  some ⟨.slice 9, [.sl [.sc (.str)]], 24, false⟩,
  some ⟨.other, [.sc (.any)], 8, false⟩,
  some ⟨.other, [.sc (.any)], 8, false⟩,
  some ⟨.other, [.sc (.any)], 8, false⟩,
  some ⟨.other, [.sc (.any)], 8, false⟩,
  some ⟨.other, [.sc (.any)], 8, false⟩,
  some ⟨.struct [(0, 3), (1, 9), (2, 9), (3, 41)], [.sc (.int .i64), .sc (.str), .sc (.str), .sl [.sc (.str)]], 64, false⟩,
  some ⟨.struct [(0, 3), (1, 9), (2, 9), (3, 41)], [.sc (.int .i64), .sc (.str), .sc (.str), .sl [.sc (.str)]], 64, false⟩,
  some ⟨.other, [.sc (.any)], 8, false⟩,
  some ⟨.other, [.sc (.any)], 8, false⟩,
  some ⟨.struct [(0, 3), (1, 9), (2, 9), (3, 41)], [.sc (.int .i64), .sc (.str), .sc (.str), .sl [.sc (.str)]], 64, false⟩,
  some ⟨.other, [.sc (.any)], 8, false⟩,
  some ⟨.other, [.sc (.any)], 8, false⟩,
  some ⟨.other, [.sc (.any)], 8, false⟩,
  some ⟨.slice 51, [.sl [.sc (.int .i64), .sc (.str), .sc (.str), .sl [.sc (.str)]]], 24, false⟩,
  some ⟨.other, [.sc (.any)], 8, false⟩,
  some ⟨.other, [.sc (.any)], 8, false⟩,
  some ⟨.other, [.sc (.any)], 8, false⟩,
  some ⟨.struct [(0, 9), (1, 9)], [.sc (.str), .sc (.str)], 32, true⟩,
  some ⟨.other, [.sc (.any)], 8, false⟩,
  some ⟨.other, [.sc (.any)], 8, false⟩,
  some ⟨.other, [.sc (.any)], 8, false⟩,
  some ⟨.ptr 92, [.sc (.any)], 8, false⟩,
  some ⟨.other, [.sc (.any)], 8, false⟩,
  some ⟨.other, [.sc (.any)], 8, false⟩,
  some ⟨.other, [.sc (.any)], 8, false⟩,
  some ⟨.struct [(0, 3), (1, 9), (2, 9)], [.sc (.int .i64), .sc (.str), .sc (.str)], 40, true⟩,
  some ⟨.struct [(0, 3), (1, 9), (2, 9)], [.sc (.int .i64), .sc (.str), .sc (.str)], 40, true⟩,
  some ⟨.other, [.sc (.any)], 8, false⟩,
  some ⟨.other, [.sc (.any)], 8, false⟩,
  some ⟨.struct [(0, 3), (1, 9), (2, 9)], [.sc (.int .i64), .sc (.str), .sc (.str)], 40, true⟩,
  some ⟨.other, [.sc (.any)], 8, false⟩,
  some ⟨.other, [.sc (.any)], 8, false⟩,
  some ⟨.other, [.sc (.any)], 8, false⟩,
  some ⟨.other, [.sc (.any)], 8, false⟩,
  some ⟨.other, [.sc (.any)], 8, false⟩,
  some ⟨.other, [.sc (.any)], 8, false⟩,
  some ⟨.other, [.sc (.any)], 8, false⟩,
  some ⟨.other, [.sc (.any)], 8, false⟩,
  some ⟨.other, [.sc (.any)], 8, false⟩,
  some ⟨.other, [.sc (.any)], 8, false⟩,
  some ⟨.ptr 84, [.sc (.any)], 8, false⟩,
  some ⟨.struct [(0, 82), (1, 29)], [.sc (.any), .sl [.sc (.int .u8)]], 32, false⟩,
  some ⟨.struct [(0, 82), (1, 29)], [.sc (.any), .sl [.sc (.int .u8)]], 32, false⟩,
  some ⟨.other, [.sc (.any)], 8, false⟩,
  some ⟨.other, [.sc (.any)], 16, false⟩,
  some ⟨.other, [.sc (.any)], 16, false⟩,
  none,
  some ⟨.other, [.sc (.any)], 8, false⟩,
  some ⟨.other, [.sc (.any)], 8, false⟩,
  some ⟨.struct [(0, 29), (1, 3), (2, 3)], [.sl [.sc (.int .u8)], .sc (.int .i64), .sc (.int .i64)], 40, false⟩,
  some ⟨.struct [(0, 29), (1, 3), (2, 3)], [.sl [.sc (.int .u8)], .sc (.int .i64), .sc (.int .i64)], 40, false⟩,
  some ⟨.other, [.sc (.any)], 8, false⟩,
  some ⟨.other, [.sc (.any)], 8, false⟩,
  some ⟨.other, [.sc (.any)], 8, false⟩,
  some ⟨.other, [.sc (.any)], 8, false⟩,
  some ⟨.other, [.sc (.any)], 8, false⟩,
  some ⟨.slice 3, [.sl [.sc (.int .i64)]], 24, false⟩,
  some ⟨.other, [.sc (.any)], 8, false⟩,
  some ⟨.other, [.sc (.any)], 8, false⟩,
  some ⟨.sc (.int .u64), [.sc (.int .u64)], 8, false⟩,
  some ⟨.sc (.int .u32), [.sc (.int .u32)], 4, false⟩,
  some ⟨.array 8 102, [.sc (.int .u32), .sc (.int .u32), .sc (.int .u32), .sc (.int .u32), .sc (.int .u32), .sc (.int .u32), .sc (.int .u32), .sc (.int .u32)], 32, false⟩,
  some ⟨.ptr 119, [.sc (.any)], 8, false⟩,
  some ⟨.other, [.sc (.any)], 8, false⟩,
  some ⟨.other, [.sc (.any)], 8, false⟩,
  some ⟨.other, [.sc (.any)], 8, false⟩,
  some ⟨.other, [.sc (.any)], 8, false⟩,
  some ⟨.other, [.sc (.any)], 8, false⟩,
  some ⟨.ptr 103, [.sc (.any)], 8, false⟩,
  some ⟨.other, [.sc (.any)], 8, false⟩,
  some ⟨.other, [.sc (.any)], 8, false⟩,
  some ⟨.ptr 5, [.sc (.any)], 8, false⟩,
  some ⟨.other, [.sc (.any)], 8, false⟩,
  some ⟨.other, [.sc (.any)], 8, false⟩,
  some ⟨.other, [.sc (.any)], 8, false⟩,
  some ⟨.other, [.sc (.any)], 8, false⟩,
  some ⟨.other, [.sc (.any)], 8, false⟩,
  some ⟨.array 64 102, [.sc (.int .u32), .sc (.int .u32), .sc (.int .u32), .sc (.int .u32), .sc (.int .u32), .sc (.int .u32), .sc (.int .u32), .sc (.int .u32), .sc (.int .u32), .sc (.int .u32), .sc (.int .u32), .sc (.int .u32), .sc (.int .u32), .sc (.int .u32), .sc (.int .u32), .sc (.int .u32), .sc (.int .u32), .sc (.int .u32), .sc (.int .u32), .sc (.int .u32), .sc (.int .u32), .sc (.int .u32), .sc (.int .u32), .sc (.int .u32), .sc (.int .u32), .sc (.int .u32), .sc (.int .u32), .sc (.int .u32), .sc (.int .u32), .sc (.int .u32), .sc (.int .u32), .sc (.int .u32), .sc (.int .u32), .sc (.int .u32), .sc (.int .u32), .sc (.int .u32), .sc (.int .u32), .sc (.int .u32), .sc (.int .u32), .sc (.int .u32), .sc (.int .u32), .sc (.int .u32), .sc (.int .u32), .sc (.int .u32), .sc (.int .u32), .sc (.int .u32), .sc (.int .u32), .sc (.int .u32), .sc (.int .u32), .sc (.int .u32), .sc (.int .u32), .sc (.int .u32), .sc (.int .u32), .sc (.int .u32), .sc (.int .u32), .sc (.int .u32), .sc (.int .u32), .sc (.int .u32), .sc (.int .u32), .sc (.int .u32), .sc (.int .u32), .sc (.int .u32), .sc (.int .u32), .sc (.int .u32)], 256, false⟩,
  some ⟨.other, [.sc (.any)], 8, false⟩,
  some ⟨.other, [.sc (.any)], 8, false⟩,
  some ⟨.other, [.sc (.any)], 8, false⟩,
  some ⟨.other, [.sc (.any)], 8, false⟩,
  some ⟨.other, [.sc (.any)], 8, false⟩,
  some ⟨.other, [.sc (.any)], 8, false⟩,
  some ⟨.other, [.sc (.any)], 8, false⟩,
  some ⟨.other, [.sc (.any)], 8, false⟩,
  some ⟨.other, [.sc (.any)], 8, false⟩,
  some ⟨.struct [(0, 17), (1, 17), (2, 17), (3, 9)], [.sc (.any), .sc (.any), .sc (.any), .sc (.str)], 40, false⟩,
  some ⟨.struct [(0, 17), (1, 17), (2, 17), (3, 9)], [.sc (.any), .sc (.any), .sc (.any), .sc (.str)], 40, false⟩,
  some ⟨.array 0 16, [], 0, false⟩,
  none,
  none,
  some ⟨.other, [.sc (.any)], 8, false⟩,
  some ⟨.sc (.int .u8), [.sc (.int .u8)], 1, false⟩,
  some ⟨.sc (.int .u8), [.sc (.int .u8)], 1, false⟩,
  some ⟨.other, [.sc (.any)], 8, false⟩,
  some ⟨.sc (.int .i32), [.sc (.int .i32)], 4, false⟩,
  some ⟨.sc (.int .i32), [.sc (.int .i32)], 4, false⟩,
  some ⟨.struct [(0, 12), (1, 12), (2, 102), (3, 135), (4, 5), (5, 5), (6, 136), (7, 137), (8, 113), (9, 138), (10, 139)], [.sc (.int .u64), .sc (.int .u64), .sc (.int .u32), .sc (.int .u8), .sc (.int .u8), .sc (.int .u8), .sc (.int .u8), .sc (.any), .sc (.any), .sc (.int .i32), .sc (.int .i32)], 48, false⟩,
  some ⟨.struct [(0, 12), (1, 12), (2, 102), (3, 135), (4, 5), (5, 5), (6, 136), (7, 137), (8, 113), (9, 138), (10, 139)], [.sc (.int .u64), .sc (.int .u64), .sc (.int .u32), .sc (.int .u8), .sc (.int .u8), .sc (.int .u8), .sc (.int .u8), .sc (.any), .sc (.any), .sc (.int .i32), .sc (.int .i32)], 48, false⟩]
noncomputable def fnTab : List (Nat × Func) := [
  (2, Try.f2),
  (3, Try.f3),
  (4, Try.f4),
  (5, Try.f5),
  (6, Try.f6),
  (7, Try.f7),
  (8, Try.f8),
  (9, Try.f9),
  (10, Try.f10),
  (11, Try.f11),
  (12, Try.f12),
  (13, Try.f13),
  (14, Try.f14),
  (15, Try.f15),
  (16, Try.f16),
  (17, Try.f17),
  (18, Try.f18),
  (19, Try.f19),
  (20, Try.f20),
  (21, Try.f21),
  (22, Try.f22),
  (23, Try.f23),
  (24, Try.f24),
  (25, Try.f25),
  (26, Try.f26),
  (27, Try.f27),
  (28, Try.f28),
  (29, Try.f29),
  (30, Try.f30),
  (31, Try.f31),
  (32, Try.f32),
  (33, Try.f33),
  (34, Try.f34),
  (35, Try.f35),
  (36, Try.f36),
  (37, Try.f37),
  (38, Try.f38),
  (39, Try.f39),
  (40, Try.f40),
  (41, Try.f41),
  (42, Try.f42),
  (43, Try.f43),
  (44, Try.f44),
  (45, Try.f45),
  (46, Try.f46),
  (47, Try.f47),
  (48, Try.f48),
  (49, Try.f49),
  (50, Try.f50),
  (51, Try.f51),
  (52, Try.f52),
  (53, Try.f53),
  (54, Try.f54),
  (55, Try.f55),
  (56, Try.f56),
  (57, Try.f57),
  (58, Try.f58),
  (59, Try.f59),
  (60, Try.f60),
  (61, Try.f61),
  (62, Try.f62),
  (63, Try.f63),
  (64, Try.f64),
  (65, Try.f65),
  (66, Try.f66),
  (67, Try.f67),
  (68, Try.f68),
  (69, Try.f69),
  (70, Try.f70),
  (71, Try.f71),
  (72, Try.f72),
  (73, Try.f73),
  (74, Try.f74),
  (75, Try.f75),
  (76, Try.f76),
  (77, Try.f77),
  (78, Try.f78),
  (79, Try.f79),
  (80, Try.f80),
  (81, Try.f81),
  (82, Try.f82),
  (83, Try.f83),
  (84, Try.f84),
  (85, Try.f85),
  (86, Try.f86),
  (87, Try.f87),
  (88, Try.f88),
  (89, Try.f89),
  (90, Try.f90),
  (91, Try.f91),
  (92, Try.f92),
  (93, Try.f93),
  (94, Try.f94),
  (95, Try.f95),
  (96, Try.f96),
  (99, Try.f99),
  (100, Try.f100)]
theorem fns_ok : FnsOk Try.prog fnTab := by
  unfold fnTab
  exact ⟨⟨Try.func2, by kernel_rfl, by kernel_rfl⟩, ⟨Try.func3, by kernel_rfl, by kernel_rfl⟩, ⟨Try.func4, by kernel_rfl, by kernel_rfl⟩, ⟨Try.func5, by kernel_rfl, by kernel_rfl⟩, ⟨Try.func6, by kernel_rfl, by kernel_rfl⟩, ⟨Try.func7, by kernel_rfl, by kernel_rfl⟩, ⟨Try.func8, by kernel_rfl, by kernel_rfl⟩, ⟨Try.func9, by kernel_rfl, by kernel_rfl⟩, ⟨Try.func10, by kernel_rfl, by kernel_rfl⟩, ⟨Try.func11, by kernel_rfl, by kernel_rfl⟩, ⟨Try.func12, by kernel_rfl, by kernel_rfl⟩, ⟨Try.func13, by kernel_rfl, by kernel_rfl⟩, ⟨Try.func14, by kernel_rfl, by kernel_rfl⟩, ⟨Try.func15, by kernel_rfl, by kernel_rfl⟩, ⟨Try.func16, by kernel_rfl, by kernel_rfl⟩, ⟨Try.func17, by kernel_rfl, by kernel_rfl⟩, ⟨Try.func18, by kernel_rfl, by kernel_rfl⟩, ⟨Try.func19, by kernel_rfl, by kernel_rfl⟩, ⟨Try.func20, by kernel_rfl, by kernel_rfl⟩, ⟨Try.func21, by kernel_rfl, by kernel_rfl⟩, ⟨Try.func22, by kernel_rfl, by kernel_rfl⟩, ⟨Try.func23, by kernel_rfl, by kernel_rfl⟩, ⟨Try.func24, by kernel_rfl, by kernel_rfl⟩, ⟨Try.func25, by kernel_rfl, by kernel_rfl⟩, ⟨Try.func26, by kernel_rfl, by kernel_rfl⟩, ⟨Try.func27, by kernel_rfl, by kernel_rfl⟩, ⟨Try.func28, by kernel_rfl, by kernel_rfl⟩, ⟨Try.func29, by kernel_rfl, by kernel_rfl⟩, ⟨Try.func30, by kernel_rfl, by kernel_rfl⟩, ⟨Try.func31, by kernel_rfl, by kernel_rfl⟩, ⟨Try.func32, by kernel_rfl, by kernel_rfl⟩, ⟨Try.func33, by kernel_rfl, by kernel_rfl⟩, ⟨Try.func34, by kernel_rfl, by kernel_rfl⟩, ⟨Try.func35, by kernel_rfl, by kernel_rfl⟩, ⟨Try.func36, by kernel_rfl, by kernel_rfl⟩, ⟨Try.func37, by kernel_rfl, by kernel_rfl⟩, ⟨Try.func38, by kernel_rfl, by kernel_rfl⟩, ⟨Try.func39, by kernel_rfl, by kernel_rfl⟩, ⟨Try.func40, by kernel_rfl, by kernel_rfl⟩, ⟨Try.func41, by kernel_rfl, by kernel_rfl⟩, ⟨Try.func42, by kernel_rfl, by kernel_rfl⟩, ⟨Try.func43, by kernel_rfl, by kernel_rfl⟩, ⟨Try.func44, by kernel_rfl, by kernel_rfl⟩, ⟨Try.func45, by kernel_rfl, by kernel_rfl⟩, ⟨Try.func46, by kernel_rfl, by kernel_rfl⟩, ⟨Try.func47, by kernel_rfl, by kernel_rfl⟩, ⟨Try.func48, by kernel_rfl, by kernel_rfl⟩, ⟨Try.func49, by kernel_rfl, by kernel_rfl⟩, ⟨Try.func50, by kernel_rfl, by kernel_rfl⟩, ⟨Try.func51, by kernel_rfl, by kernel_rfl⟩, ⟨Try.func52, by kernel_rfl, by kernel_rfl⟩, ⟨Try.func53, by kernel_rfl, by kernel_rfl⟩, ⟨Try.func54, by kernel_rfl, by kernel_rfl⟩, ⟨Try.func55, by kernel_rfl, by kernel_rfl⟩, ⟨Try.func56, by kernel_rfl, by kernel_rfl⟩, ⟨Try.func57, by kernel_rfl, by kernel_rfl⟩, ⟨Try.func58, by kernel_rfl, by kernel_rfl⟩, ⟨Try.func59, by kernel_rfl, by kernel_rfl⟩, ⟨Try.func60, by kernel_rfl, by kernel_rfl⟩, ⟨Try.func61, by kernel_rfl, by kernel_rfl⟩, ⟨Try.func62, by kernel_rfl, by kernel_rfl⟩, ⟨Try.func63, by kernel_rfl, by kernel_rfl⟩, ⟨Try.func64, by kernel_rfl, by kernel_rfl⟩, ⟨Try.func65, by kernel_rfl, by kernel_rfl⟩, ⟨Try.func66, by kernel_rfl, by kernel_rfl⟩, ⟨Try.func67, by kernel_rfl, by kernel_rfl⟩, ⟨Try.func68, by kernel_rfl, by kernel_rfl⟩, ⟨Try.func69, by kernel_rfl, by kernel_rfl⟩, ⟨Try.func70, by kernel_rfl, by kernel_rfl⟩, ⟨Try.func71, by kernel_rfl, by kernel_rfl⟩, ⟨Try.func72, by kernel_rfl, by kernel_rfl⟩, ⟨Try.func73, by kernel_rfl, by kernel_rfl⟩, ⟨Try.func74, by kernel_rfl, by kernel_rfl⟩, ⟨Try.func75, by kernel_rfl, by kernel_rfl⟩, ⟨Try.func76, by kernel_rfl, by kernel_rfl⟩, ⟨Try.func77, by kernel_rfl, by kernel_rfl⟩, ⟨Try.func78, by kernel_rfl, by kernel_rfl⟩, ⟨Try.func79, by kernel_rfl, by kernel_rfl⟩, ⟨Try.func80, by kernel_rfl, by kernel_rfl⟩, ⟨Try.func81, by kernel_rfl, by kernel_rfl⟩, ⟨Try.func82, by kernel_rfl, by kernel_rfl⟩, ⟨Try.func83, by kernel_rfl, by kernel_rfl⟩, ⟨Try.func84, by kernel_rfl, by kernel_rfl⟩, ⟨Try.func85, by kernel_rfl, by kernel_rfl⟩, ⟨Try.func86, by kernel_rfl, by kernel_rfl⟩, ⟨Try.func87, by kernel_rfl, by kernel_rfl⟩, ⟨Try.func88, by kernel_rfl, by kernel_rfl⟩, ⟨Try.func89, by kernel_rfl, by kernel_rfl⟩, ⟨Try.func90, by kernel_rfl, by kernel_rfl⟩, ⟨Try.func91, by kernel_rfl, by kernel_rfl⟩, ⟨Try.func92, by kernel_rfl, by kernel_rfl⟩, ⟨Try.func93, by kernel_rfl, by kernel_rfl⟩, ⟨Try.func94, by kernel_rfl, by kernel_rfl⟩, ⟨Try.func95, by kernel_rfl, by kernel_rfl⟩, ⟨Try.func96, by kernel_rfl, by kernel_rfl⟩, ⟨Try.func99, by kernel_rfl, by kernel_rfl⟩, ⟨Try.func100, by kernel_rfl, by kernel_rfl⟩, trivial⟩

def CX : Ctx := ⟨tabFn tyTab, fun f => lookF f fnTab, sigTab tyTab fnTab [], fun _ _ => true, fun _ _ => false⟩
def prims : FuncId → Option (List Arg → R3 Ret) := fun f => cond (Nat.beq f 36) (some primJoin) none
def strings_Join : Nat → T → T → (T → An) → An
  | 0, _, _, _ => .bad
  | m + 1, x0, x1, k0 => cond (decide ((joinB x0.rows x1).size ≤ maxCells)) (k0 (.s (joinB x0.rows x1))) .bad
def strings_Join_a : List Arg := [.one (.fz [.sc .str] []), .one (.sc .str (.l []))]
def strings_Join_w (m : Nat) (vs : List T) (k : Ret → An) : An := strings_Join m (vs.headD dflt) (vs.tail.headD dflt) (fun z0 => k ⟨[.one (.sc .str z0)], [[none], [none]]⟩)
theorem strings_Join_eq (m : Nat) : ∀ vs k, callK CX prims m 36 (fArgs strings_Join_a vs) k = strings_Join_w m vs k := by
  intro vs k
  cases m with
  | zero => rfl
  | succ m =>
    refine Eq.trans (b := (primJoin (fArgs strings_Join_a vs)).bind k) (by kernel_rfl) ?_
    refine Eq.trans (b := (cond (decide ((joinB (vs.headD dflt).rows (vs.tail.headD dflt)).size ≤ maxCells)) (R3.ok ⟨[.one (.sc .str (.s (joinB (vs.headD dflt).rows (vs.tail.headD dflt))))], [[none], [none]]⟩) .bad).bind k) (by kernel_rfl) ?_
    rw [cond_bind]; rfl
end
end Go.Proofs.Ytkocbeamfmfgiaa

namespace Go.Proofs.Ytkocbeamfmfgiaa
open Go Go.E Go.Proofs

/-! loop.example/g00244/laws.szPair -/
noncomputable def laws_szPair : Nat → T → T → T → (T → An) → An
  | 0, _, _, _, _ => .bad
  | m + 1, x0, x1, x2, k0 =>
    cond (decide ((IntKind.i64.wrap (x2.int - (x0.str.size : Int))) < 0))
    (k0 (T.i (-1)))
    (cond (decide ((IntKind.i64.wrap ((IntKind.i64.wrap (x2.int - (x0.str.size : Int))) - (x1.str.size : Int))) < 0))
    (k0 (T.i (-1)))
    (k0 (T.i (IntKind.i64.wrap ((IntKind.i64.wrap (x2.int - (x0.str.size : Int))) - (x1.str.size : Int))))))
noncomputable def laws_szPair_a : List Arg := [.agg [.sc (.str) (.l []), .sc (.str) (.l [])], .one (.sc (.int .i64) (.l []))]
noncomputable def laws_szPair_w (m : Nat) (vs : List T) (k : Ret → An) : An := laws_szPair m (vs.headD dflt) (vs.tail.headD dflt) (vs.tail.tail.headD dflt) (fun z0 => k ⟨[.one (.sc (.int .i64) z0)], [[none, none], [none]]⟩)
theorem laws_szPair_cf (m : Nat) : callK CX prims m = (callK CX prims m) := by
  rfl
noncomputable def laws_szPair_c : Code := (Try.f34.body).getD .skip
noncomputable def laws_szPair_fi : Fi := ⟨34, 2, 20, 16⟩
theorem laws_szPair_eq (m : Nat) : ∀ vs k, callK CX prims m 34 (fArgs laws_szPair_a vs) k = laws_szPair_w m vs k := by
  cases m with
  | zero => exact fun vs k => rfl
  | succ m => exact fun vs k => Eq.trans (b := bodyK CX (callK CX prims m) (loopK CX (callK CX prims m) laws_szPair_fi laws_szPair_c m) 34 Try.f34 laws_szPair_c (fArgs laws_szPair_a vs) k) (by kernel_rfl) ((bodyK_congr (laws_szPair_cf m) rfl 34 Try.f34 laws_szPair_c (fArgs laws_szPair_a vs) k).trans (by kernel_rfl))

/-! loop.example/g00244/laws.szPairS -/
noncomputable def laws_szPairS_L0_0 (m : Nat) : Nat → T → T → T → (T → An) → (T → An) → An
  | 0, _, _, _, _, _ => .bad
  | n + 1, x0, x1, x2, k0, k1 =>
    cond (decide (x2.int < (x0.rows.length : Int)))
    (cond (decide (0 ≤ x2.int ∧ x2.int < (x0.rows.length : Int)))
    (laws_szPair m ((x0.rows.getD (Int.toNat x2.int) []).getD 0 dflt) ((x0.rows.getD (Int.toNat x2.int) []).getD 1 dflt) x1
    (fun y0 => cond (decide (y0.int < 0))
    (k0 (T.i (-1)))
    (laws_szPairS_L0_0 m n x0 y0 (T.i (IntKind.i64.wrap (x2.int + 1))) k0 k1)))
    (.bad))
    (k1 x1)
noncomputable def laws_szPairS_s0_0 : Pack := ⟨[(0, .one ⟨.sn [], .sl [.sc (.str), .sc (.str)], .l []⟩), (1, .one ⟨.sc, .sc (.int .i64), .l []⟩), (5, .one ⟨.sc, .sc (.int .i64), .l []⟩)], []⟩
noncomputable def laws_szPairS_e0_0 : Pack := ⟨[(4, .one ⟨.sc, .sc (.int .i64), .l []⟩)], []⟩
noncomputable def laws_szPairS_e0_1 : Pack := ⟨[(1, .one ⟨.sc, .sc (.int .i64), .l []⟩)], []⟩
noncomputable def laws_szPairS_L0_0w (m n : Nat) (vs : List T) (k : Ctl → Pack → An) : An := laws_szPairS_L0_0 m n (vs.headD dflt) (vs.tail.headD dflt) (vs.tail.tail.headD dflt) (fun z0 => k .ret (fPack laws_szPairS_e0_0 [z0])) (fun z0 => k (.exit 0) (fPack laws_szPairS_e0_1 [z0]))
noncomputable def laws_szPairS : Nat → T → T → (T → An) → An
  | 0, _, _, _ => .bad
  | m + 1, x0, x1, k0 =>
    cond (decide ((IntKind.i64.wrap (x1.int - (x0.rows.length : Int))) < 0))
    (k0 (T.i (-1)))
    (laws_szPairS_L0_0 m m (T.l x0.rows) (T.i (IntKind.i64.wrap (x1.int - (x0.rows.length : Int)))) (T.i 0)
    (fun y1 => k0 y1)
    (fun y2 => k0 y2))
noncomputable def laws_szPairS_a : List Arg := [.one (.fz [.sc (.str), .sc (.str)] []), .one (.sc (.int .i64) (.l []))]
noncomputable def laws_szPairS_w (m : Nat) (vs : List T) (k : Ret → An) : An := laws_szPairS m (vs.headD dflt) (vs.tail.headD dflt) (fun z0 => k ⟨[.one (.sc (.int .i64) z0)], [[none], [none]]⟩)
theorem laws_szPairS_cf (m : Nat) : callK CX prims m = (patC 34 laws_szPair_a (laws_szPair_w m) (callK CX prims m)) := by
  rw [← patC_eq (fun vs k => laws_szPair_eq m vs k)]
noncomputable def laws_szPairS_c : Code := (Try.f9.body).getD .skip
noncomputable def laws_szPairS_fi : Fi := ⟨9, 2, 27, 16⟩
theorem laws_szPairS_lf (m : Nat) : ∀ n, (∀ vs k, loopK CX (callK CX prims m) laws_szPairS_fi laws_szPairS_c n [0, 1, 0, 1, 1, 1] (fPack laws_szPairS_s0_0 vs) k = laws_szPairS_L0_0w m n vs k) ∧ ((loopK CX (callK CX prims m) laws_szPairS_fi laws_szPairS_c n) = (patL [0, 1, 0, 1, 1, 1] laws_szPairS_s0_0 (laws_szPairS_L0_0w m n) (loopK CX (callK CX prims m) laws_szPairS_fi laws_szPairS_c n))) := by
  intro n
  have hl : ∀ n, (∀ vs k, loopK CX (callK CX prims m) laws_szPairS_fi laws_szPairS_c n [0, 1, 0, 1, 1, 1] (fPack laws_szPairS_s0_0 vs) k = laws_szPairS_L0_0w m n vs k) → ((loopK CX (callK CX prims m) laws_szPairS_fi laws_szPairS_c n) = (patL [0, 1, 0, 1, 1, 1] laws_szPairS_s0_0 (laws_szPairS_L0_0w m n) (loopK CX (callK CX prims m) laws_szPairS_fi laws_szPairS_c n))) := by
    intro n h0
    rw [← patL_eq h0]
  induction n with
  | zero => exact ⟨fun vs k => rfl, hl 0 (fun vs k => rfl)⟩
  | succ n ihn =>
    have hn := ihn.2
    have h0 : ∀ vs k, loopK CX (callK CX prims m) laws_szPairS_fi laws_szPairS_c (n + 1) [0, 1, 0, 1, 1, 1] (fPack laws_szPairS_s0_0 vs) k = laws_szPairS_L0_0w m (n + 1) vs k := fun vs k =>
      (stepL_congr (laws_szPairS_cf m) hn [0, 1, 0, 1, 1, 1] _ _).trans (by kernel_rfl)
    exact ⟨h0, hl (n + 1) h0⟩
theorem laws_szPairS_eq (m : Nat) : ∀ vs k, callK CX prims m 9 (fArgs laws_szPairS_a vs) k = laws_szPairS_w m vs k := by
  cases m with
  | zero => exact fun vs k => rfl
  | succ m => exact fun vs k => Eq.trans (b := bodyK CX (callK CX prims m) (loopK CX (callK CX prims m) laws_szPairS_fi laws_szPairS_c m) 9 Try.f9 laws_szPairS_c (fArgs laws_szPairS_a vs) k) (by kernel_rfl) ((bodyK_congr (laws_szPairS_cf m) ((laws_szPairS_lf m m).2) 9 Try.f9 laws_szPairS_c (fArgs laws_szPairS_a vs) k).trans (by kernel_rfl))

/-! loop.example/g00244/laws.toPair -/
noncomputable def laws_toPair : Nat → T → T → (T → T → An) → An
  | 0, _, _, _ => .bad
  | m + 1, x0, x1, k0 =>
    k0 x0 x1
noncomputable def laws_toPair_a : List Arg := [.agg [.sc (.str) (.l []), .sc (.str) (.l [])]]
noncomputable def laws_toPair_w (m : Nat) (vs : List T) (k : Ret → An) : An := laws_toPair m (vs.headD dflt) (vs.tail.headD dflt) (fun z0 z1 => k ⟨[.agg [.sc (.str) z0, .sc (.str) z1]], [[none, none]]⟩)
theorem laws_toPair_cf (m : Nat) : callK CX prims m = (callK CX prims m) := by
  rfl
noncomputable def laws_toPair_c : Code := (Try.f35.body).getD .skip
noncomputable def laws_toPair_fi : Fi := ⟨35, 1, 11, 4⟩
theorem laws_toPair_eq (m : Nat) : ∀ vs k, callK CX prims m 35 (fArgs laws_toPair_a vs) k = laws_toPair_w m vs k := by
  cases m with
  | zero => exact fun vs k => rfl
  | succ m => exact fun vs k => Eq.trans (b := bodyK CX (callK CX prims m) (loopK CX (callK CX prims m) laws_toPair_fi laws_toPair_c m) 35 Try.f35 laws_toPair_c (fArgs laws_toPair_a vs) k) (by kernel_rfl) ((bodyK_congr (laws_toPair_cf m) rfl 35 Try.f35 laws_toPair_c (fArgs laws_toPair_a vs) k).trans (by kernel_rfl))

/-! loop.example/g00244/laws.toPairS -/
noncomputable def laws_toPairS_L0_0 (m : Nat) : Nat → T → T → T → (T → An) → An
  | 0, _, _, _, _ => .bad
  | n + 1, x0, x1, x2, k0 =>
    cond (decide (x1.int < (x0.rows.length : Int)))
    (cond (decide (0 ≤ x1.int ∧ x1.int < (x0.rows.length : Int)))
    (laws_toPair m ((x0.rows.getD (Int.toNat x1.int) []).getD 0 dflt) ((x0.rows.getD (Int.toNat x1.int) []).getD 1 dflt)
    (fun y0 y1 => cond (decide (0 ≤ x1.int ∧ x1.int < (x2.rows.length : Int)))
    (cond (decide ((Int.toNat x1.int) < x2.rows.length))
    (laws_toPairS_L0_0 m n x0 (T.i (IntKind.i64.wrap (x1.int + 1))) (T.l (x2.rows.set (Int.toNat x1.int) (((x2.rows.getD (Int.toNat x1.int) []).set 0 y0).set 1 y1))) k0)
    (.bad))
    (.bad)))
    (.bad))
    (k0 (T.l x2.rows))
noncomputable def laws_toPairS_s0_0 : Pack := ⟨[(0, .one ⟨.sn [], .sl [.sc (.str), .sc (.str)], .l []⟩), (3, .one ⟨.al [1000000, 0] 0, .sl [.sc (.str), .sc (.str)], .l []⟩), (4, .one ⟨.sc, .sc (.int .i64), .l []⟩)], [([1000000, 0], .row [.sc (.str), .sc (.str)] [.F, .F] [])]⟩
noncomputable def laws_toPairS_e0_0 : Pack := ⟨[(3, .one ⟨.al [1000000, 0] 0, .sl [.sc (.str), .sc (.str)], .l []⟩)], [([1000000, 0], .row [.sc (.str), .sc (.str)] [.F, .F] [])]⟩
noncomputable def laws_toPairS_L0_0w (m n : Nat) (vs : List T) (k : Ctl → Pack → An) : An := laws_toPairS_L0_0 m n (vs.headD dflt) (vs.tail.headD dflt) (vs.tail.tail.headD dflt) (fun z0 => k (.exit 0) (fPack laws_toPairS_e0_0 [z0]))
noncomputable def laws_toPairS : Nat → T → (T → An) → An
  | 0, _, _ => .bad
  | m + 1, x0, k0 =>
    cond (decide (0 ≤ (x0.rows.length : Int) ∧ (x0.rows.length : Int) ≤ (x0.rows.length : Int)))
    (cond (decide ((x0.rows.length : Int) * ((32 : Nat) : Int) ≤ (maxCells : Int)))
    (laws_toPairS_L0_0 m m (T.l x0.rows) (T.i 0) (T.l (List.replicate (Int.toNat (x0.rows.length : Int)) [(T.s (⟨#[]⟩ : ByteArray)), (T.s (⟨#[]⟩ : ByteArray))]))
    (fun y2 => k0 (T.l y2.rows)))
    (.bad))
    (.bad)
noncomputable def laws_toPairS_a : List Arg := [.one (.fz [.sc (.str), .sc (.str)] [])]
noncomputable def laws_toPairS_w (m : Nat) (vs : List T) (k : Ret → An) : An := laws_toPairS m (vs.headD dflt) (fun z0 => k ⟨[.one (.own [1000000, 0] [.sc (.str), .sc (.str)] [.F, .F] z0.rows)], [[none]]⟩)
theorem laws_toPairS_cf (m : Nat) : callK CX prims m = (patC 35 laws_toPair_a (laws_toPair_w m) (callK CX prims m)) := by
  rw [← patC_eq (fun vs k => laws_toPair_eq m vs k)]
noncomputable def laws_toPairS_c : Code := (Try.f11.body).getD .skip
noncomputable def laws_toPairS_fi : Fi := ⟨11, 1, 23, 4⟩
theorem laws_toPairS_lf (m : Nat) : ∀ n, (∀ vs k, loopK CX (callK CX prims m) laws_toPairS_fi laws_toPairS_c n [0, 1, 0, 1, 1] (fPack laws_toPairS_s0_0 vs) k = laws_toPairS_L0_0w m n vs k) ∧ ((loopK CX (callK CX prims m) laws_toPairS_fi laws_toPairS_c n) = (patL [0, 1, 0, 1, 1] laws_toPairS_s0_0 (laws_toPairS_L0_0w m n) (loopK CX (callK CX prims m) laws_toPairS_fi laws_toPairS_c n))) := by
  intro n
  have hl : ∀ n, (∀ vs k, loopK CX (callK CX prims m) laws_toPairS_fi laws_toPairS_c n [0, 1, 0, 1, 1] (fPack laws_toPairS_s0_0 vs) k = laws_toPairS_L0_0w m n vs k) → ((loopK CX (callK CX prims m) laws_toPairS_fi laws_toPairS_c n) = (patL [0, 1, 0, 1, 1] laws_toPairS_s0_0 (laws_toPairS_L0_0w m n) (loopK CX (callK CX prims m) laws_toPairS_fi laws_toPairS_c n))) := by
    intro n h0
    rw [← patL_eq h0]
  induction n with
  | zero => exact ⟨fun vs k => rfl, hl 0 (fun vs k => rfl)⟩
  | succ n ihn =>
    have hn := ihn.2
    have h0 : ∀ vs k, loopK CX (callK CX prims m) laws_toPairS_fi laws_toPairS_c (n + 1) [0, 1, 0, 1, 1] (fPack laws_toPairS_s0_0 vs) k = laws_toPairS_L0_0w m (n + 1) vs k := fun vs k =>
      (stepL_congr (laws_toPairS_cf m) hn [0, 1, 0, 1, 1] _ _).trans (by kernel_rfl)
    exact ⟨h0, hl (n + 1) h0⟩
theorem laws_toPairS_eq (m : Nat) : ∀ vs k, callK CX prims m 11 (fArgs laws_toPairS_a vs) k = laws_toPairS_w m vs k := by
  cases m with
  | zero => exact fun vs k => rfl
  | succ m => exact fun vs k => Eq.trans (b := bodyK CX (callK CX prims m) (loopK CX (callK CX prims m) laws_toPairS_fi laws_toPairS_c m) 11 Try.f11 laws_toPairS_c (fArgs laws_toPairS_a vs) k) (by kernel_rfl) ((bodyK_congr (laws_toPairS_cf m) ((laws_toPairS_lf m m).2) 11 Try.f11 laws_toPairS_c (fArgs laws_toPairS_a vs) k).trans (by kernel_rfl))

/-! loop.example/g00244/spec.PairsText -/
noncomputable def spec_PairsText_L0_0 (m : Nat) : Nat → T → T → T → (T → An) → An
  | 0, _, _, _, _ => .bad
  | n + 1, x0, x1, x2, k0 =>
    cond (decide (x2.int < (x0.rows.length : Int)))
    (cond (decide (x2.int > 0))
    (cond (decide (x1.str.size + (⟨#[32]⟩ : ByteArray).size < 9223372036854775808))
    (cond (decide (0 ≤ x2.int ∧ x2.int < (x0.rows.length : Int)))
    (cond (decide ((x1.str ++ (⟨#[32]⟩ : ByteArray)).size + ((x0.rows.getD (Int.toNat x2.int) []).getD 0 dflt).str.size < 9223372036854775808))
    (cond (decide (((x1.str ++ (⟨#[32]⟩ : ByteArray)) ++ ((x0.rows.getD (Int.toNat x2.int) []).getD 0 dflt).str).size + (⟨#[61]⟩ : ByteArray).size < 9223372036854775808))
    (cond (decide (0 ≤ x2.int ∧ x2.int < (x0.rows.length : Int)))
    (cond (decide ((((x1.str ++ (⟨#[32]⟩ : ByteArray)) ++ ((x0.rows.getD (Int.toNat x2.int) []).getD 0 dflt).str) ++ (⟨#[61]⟩ : ByteArray)).size + (((x0.rows.getD (Int.toNat x2.int) []).drop 1).getD 0 dflt).str.size < 9223372036854775808))
    (spec_PairsText_L0_0 m n x0 (T.s ((((x1.str ++ (⟨#[32]⟩ : ByteArray)) ++ ((x0.rows.getD (Int.toNat x2.int) []).getD 0 dflt).str) ++ (⟨#[61]⟩ : ByteArray)) ++ (((x0.rows.getD (Int.toNat x2.int) []).drop 1).getD 0 dflt).str)) (T.i (IntKind.i64.wrap (x2.int + 1))) k0)
    (.bad))
    (.bad))
    (.bad))
    (.bad))
    (.bad))
    (.bad))
    (cond (decide (0 ≤ x2.int ∧ x2.int < (x0.rows.length : Int)))
    (cond (decide (x1.str.size + ((x0.rows.getD (Int.toNat x2.int) []).getD 0 dflt).str.size < 9223372036854775808))
    (cond (decide ((x1.str ++ ((x0.rows.getD (Int.toNat x2.int) []).getD 0 dflt).str).size + (⟨#[61]⟩ : ByteArray).size < 9223372036854775808))
    (cond (decide (0 ≤ x2.int ∧ x2.int < (x0.rows.length : Int)))
    (cond (decide (((x1.str ++ ((x0.rows.getD (Int.toNat x2.int) []).getD 0 dflt).str) ++ (⟨#[61]⟩ : ByteArray)).size + (((x0.rows.getD (Int.toNat x2.int) []).drop 1).getD 0 dflt).str.size < 9223372036854775808))
    (spec_PairsText_L0_0 m n x0 (T.s (((x1.str ++ ((x0.rows.getD (Int.toNat x2.int) []).getD 0 dflt).str) ++ (⟨#[61]⟩ : ByteArray)) ++ (((x0.rows.getD (Int.toNat x2.int) []).drop 1).getD 0 dflt).str)) (T.i (IntKind.i64.wrap (x2.int + 1))) k0)
    (.bad))
    (.bad))
    (.bad))
    (.bad))
    (.bad)))
    (k0 x1)
noncomputable def spec_PairsText_s0_0 : Pack := ⟨[(0, .one ⟨.sn [], .sl [.sc (.str), .sc (.str)], .l []⟩), (3, .one ⟨.sc, .sc (.str), .l []⟩), (4, .one ⟨.sc, .sc (.int .i64), .l []⟩)], []⟩
noncomputable def spec_PairsText_e0_0 : Pack := ⟨[(3, .one ⟨.sc, .sc (.str), .l []⟩)], []⟩
noncomputable def spec_PairsText_L0_0w (m n : Nat) (vs : List T) (k : Ctl → Pack → An) : An := spec_PairsText_L0_0 m n (vs.headD dflt) (vs.tail.headD dflt) (vs.tail.tail.headD dflt) (fun z0 => k (.exit 0) (fPack spec_PairsText_e0_0 [z0]))
noncomputable def spec_PairsText : Nat → T → (T → An) → An
  | 0, _, _ => .bad
  | m + 1, x0, k0 =>
    cond ((x0.rows.length : Int) == 0)
    (k0 (T.s (⟨#[101, 109, 112, 116, 121]⟩ : ByteArray)))
    (spec_PairsText_L0_0 m m (T.l x0.rows) (T.s (⟨#[]⟩ : ByteArray)) (T.i 0)
    (fun y0 => k0 y0))
noncomputable def spec_PairsText_a : List Arg := [.one (.fz [.sc (.str), .sc (.str)] [])]
noncomputable def spec_PairsText_w (m : Nat) (vs : List T) (k : Ret → An) : An := spec_PairsText m (vs.headD dflt) (fun z0 => k ⟨[.one (.sc (.str) z0)], [[none]]⟩)
theorem spec_PairsText_cf (m : Nat) : callK CX prims m = (callK CX prims m) := by
  rfl
noncomputable def spec_PairsText_c : Code := (Try.f10.body).getD .skip
noncomputable def spec_PairsText_fi : Fi := ⟨10, 1, 33, 4⟩
theorem spec_PairsText_lf (m : Nat) : ∀ n, (∀ vs k, loopK CX (callK CX prims m) spec_PairsText_fi spec_PairsText_c n [0, 1, 0, 1, 1, 1] (fPack spec_PairsText_s0_0 vs) k = spec_PairsText_L0_0w m n vs k) ∧ ((loopK CX (callK CX prims m) spec_PairsText_fi spec_PairsText_c n) = (patL [0, 1, 0, 1, 1, 1] spec_PairsText_s0_0 (spec_PairsText_L0_0w m n) (loopK CX (callK CX prims m) spec_PairsText_fi spec_PairsText_c n))) := by
  intro n
  have hl : ∀ n, (∀ vs k, loopK CX (callK CX prims m) spec_PairsText_fi spec_PairsText_c n [0, 1, 0, 1, 1, 1] (fPack spec_PairsText_s0_0 vs) k = spec_PairsText_L0_0w m n vs k) → ((loopK CX (callK CX prims m) spec_PairsText_fi spec_PairsText_c n) = (patL [0, 1, 0, 1, 1, 1] spec_PairsText_s0_0 (spec_PairsText_L0_0w m n) (loopK CX (callK CX prims m) spec_PairsText_fi spec_PairsText_c n))) := by
    intro n h0
    rw [← patL_eq h0]
  induction n with
  | zero => exact ⟨fun vs k => rfl, hl 0 (fun vs k => rfl)⟩
  | succ n ihn =>
    have hn := ihn.2
    have h0 : ∀ vs k, loopK CX (callK CX prims m) spec_PairsText_fi spec_PairsText_c (n + 1) [0, 1, 0, 1, 1, 1] (fPack spec_PairsText_s0_0 vs) k = spec_PairsText_L0_0w m (n + 1) vs k := fun vs k =>
      (stepL_congr (spec_PairsText_cf m) hn [0, 1, 0, 1, 1, 1] _ _).trans (by kernel_rfl)
    exact ⟨h0, hl (n + 1) h0⟩
theorem spec_PairsText_eq (m : Nat) : ∀ vs k, callK CX prims m 10 (fArgs spec_PairsText_a vs) k = spec_PairsText_w m vs k := by
  cases m with
  | zero => exact fun vs k => rfl
  | succ m => exact fun vs k => Eq.trans (b := bodyK CX (callK CX prims m) (loopK CX (callK CX prims m) spec_PairsText_fi spec_PairsText_c m) 10 Try.f10 spec_PairsText_c (fArgs spec_PairsText_a vs) k) (by kernel_rfl) ((bodyK_congr (spec_PairsText_cf m) ((spec_PairsText_lf m m).2) 10 Try.f10 spec_PairsText_c (fArgs spec_PairsText_a vs) k).trans (by kernel_rfl))

/-! loop.example/g00244/impl.PairsText -/
noncomputable def impl_PairsText_L0_0 (m : Nat) : Nat → T → T → T → T → (T → An) → An
  | 0, _, _, _, _, _ => .bad
  | n + 1, x0, x1, x2, x3, k0 =>
    cond (decide (x2.int < x1.int))
    (cond (decide (0 ≤ x2.int ∧ x2.int < (x0.rows.length : Int)))
    (cond (decide (((x0.rows.getD (Int.toNat x2.int) []).getD 0 dflt).str.size + (⟨#[61]⟩ : ByteArray).size < 9223372036854775808))
    (cond (decide ((((x0.rows.getD (Int.toNat x2.int) []).getD 0 dflt).str ++ (⟨#[61]⟩ : ByteArray)).size + ((x0.rows.getD (Int.toNat x2.int) []).getD 1 dflt).str.size < 9223372036854775808))
    (cond (decide ((x3.rows.length + 1) * 1 ≤ maxRow))
    (impl_PairsText_L0_0 m n x0 x1 (T.i (IntKind.i64.wrap (x2.int + 1))) (T.l (x3.rows ++ [[(T.s ((((x0.rows.getD (Int.toNat x2.int) []).getD 0 dflt).str ++ (⟨#[61]⟩ : ByteArray)) ++ ((x0.rows.getD (Int.toNat x2.int) []).getD 1 dflt).str))]])) k0)
    (.bad))
    (.bad))
    (.bad))
    (.bad))
    (k0 (T.l x3.rows))
noncomputable def impl_PairsText_s0_0 : Pack := ⟨[(3, .one ⟨.al [1000000, 0] 0, .sl [.sc (.str)], .l []⟩), (9, .one ⟨.sn [], .sl [.sc (.str), .sc (.str)], .l []⟩), (10, .one ⟨.sc, .sc (.int .i64), .l []⟩), (11, .one ⟨.sc, .sc (.int .i64), .l []⟩)], [([1000000, 0], .row [.sc (.str)] [.F] [])]⟩
noncomputable def impl_PairsText_e0_0 : Pack := ⟨[(3, .one ⟨.al [1000000, 0] 0, .sl [.sc (.str)], .l []⟩)], [([1000000, 0], .row [.sc (.str)] [.F] [])]⟩
noncomputable def impl_PairsText_L0_0w (m n : Nat) (vs : List T) (k : Ctl → Pack → An) : An := impl_PairsText_L0_0 m n (vs.headD dflt) (vs.tail.headD dflt) (vs.tail.tail.headD dflt) (vs.tail.tail.tail.headD dflt) (fun z0 => k (.exit 0) (fPack impl_PairsText_e0_0 [z0]))
noncomputable def impl_PairsText : Nat → T → (T → An) → An
  | 0, _, _ => .bad
  | m + 1, x0, k0 =>
    cond ((x0.rows.length : Int) == 0)
    (k0 (T.s (⟨#[101, 109, 112, 116, 121]⟩ : ByteArray)))
    (impl_PairsText_L0_0 m m (T.l x0.rows) (T.i (x0.rows.length : Int)) (T.i 0) (T.l [])
    (fun y0 => strings_Join m (T.l y0.rows) (T.s (⟨#[32]⟩ : ByteArray))
    (fun y1 => k0 y1)))
noncomputable def impl_PairsText_a : List Arg := [.one (.fz [.sc (.str), .sc (.str)] [])]
noncomputable def impl_PairsText_w (m : Nat) (vs : List T) (k : Ret → An) : An := impl_PairsText m (vs.headD dflt) (fun z0 => k ⟨[.one (.sc (.str) z0)], [[none]]⟩)
theorem impl_PairsText_cf (m : Nat) : callK CX prims m = (patC 36 strings_Join_a (strings_Join_w m) (callK CX prims m)) := by
  rw [← patC_eq (fun vs k => strings_Join_eq m vs k)]
noncomputable def impl_PairsText_c : Code := (Try.f12.body).getD .skip
noncomputable def impl_PairsText_fi : Fi := ⟨12, 1, 27, 4⟩
theorem impl_PairsText_lf (m : Nat) : ∀ n, (∀ vs k, loopK CX (callK CX prims m) impl_PairsText_fi impl_PairsText_c n [0, 1, 0, 1, 1, 1] (fPack impl_PairsText_s0_0 vs) k = impl_PairsText_L0_0w m n vs k) ∧ ((loopK CX (callK CX prims m) impl_PairsText_fi impl_PairsText_c n) = (patL [0, 1, 0, 1, 1, 1] impl_PairsText_s0_0 (impl_PairsText_L0_0w m n) (loopK CX (callK CX prims m) impl_PairsText_fi impl_PairsText_c n))) := by
  intro n
  have hl : ∀ n, (∀ vs k, loopK CX (callK CX prims m) impl_PairsText_fi impl_PairsText_c n [0, 1, 0, 1, 1, 1] (fPack impl_PairsText_s0_0 vs) k = impl_PairsText_L0_0w m n vs k) → ((loopK CX (callK CX prims m) impl_PairsText_fi impl_PairsText_c n) = (patL [0, 1, 0, 1, 1, 1] impl_PairsText_s0_0 (impl_PairsText_L0_0w m n) (loopK CX (callK CX prims m) impl_PairsText_fi impl_PairsText_c n))) := by
    intro n h0
    rw [← patL_eq h0]
  induction n with
  | zero => exact ⟨fun vs k => rfl, hl 0 (fun vs k => rfl)⟩
  | succ n ihn =>
    have hn := ihn.2
    have h0 : ∀ vs k, loopK CX (callK CX prims m) impl_PairsText_fi impl_PairsText_c (n + 1) [0, 1, 0, 1, 1, 1] (fPack impl_PairsText_s0_0 vs) k = impl_PairsText_L0_0w m (n + 1) vs k := fun vs k =>
      (stepL_congr (impl_PairsText_cf m) hn [0, 1, 0, 1, 1, 1] _ _).trans (by kernel_rfl)
    exact ⟨h0, hl (n + 1) h0⟩
theorem impl_PairsText_eq (m : Nat) : ∀ vs k, callK CX prims m 12 (fArgs impl_PairsText_a vs) k = impl_PairsText_w m vs k := by
  cases m with
  | zero => exact fun vs k => rfl
  | succ m => exact fun vs k => Eq.trans (b := bodyK CX (callK CX prims m) (loopK CX (callK CX prims m) impl_PairsText_fi impl_PairsText_c m) 12 Try.f12 impl_PairsText_c (fArgs impl_PairsText_a vs) k) (by kernel_rfl) ((bodyK_congr (impl_PairsText_cf m) ((impl_PairsText_lf m m).2) 12 Try.f12 impl_PairsText_c (fArgs impl_PairsText_a vs) k).trans (by kernel_rfl))

/-! loop.example/g00244/laws.eqPair -/
noncomputable def laws_eqPair : Nat → T → T → T → T → (T → An) → An
  | 0, _, _, _, _, _ => .bad
  | m + 1, x0, x1, x2, x3, k0 =>
    cond (!(x0.str.toList == x2.str.toList))
    (k0 (T.b false))
    (cond (!(x1.str.toList == x3.str.toList))
    (k0 (T.b false))
    (k0 (T.b true)))
noncomputable def laws_eqPair_a : List Arg := [.agg [.sc (.str) (.l []), .sc (.str) (.l [])], .agg [.sc (.str) (.l []), .sc (.str) (.l [])]]
noncomputable def laws_eqPair_w (m : Nat) (vs : List T) (k : Ret → An) : An := laws_eqPair m (vs.headD dflt) (vs.tail.headD dflt) (vs.tail.tail.headD dflt) (vs.tail.tail.tail.headD dflt) (fun z0 => k ⟨[.one (.sc (.bool) z0)], [[none, none], [none, none]]⟩)
theorem laws_eqPair_cf (m : Nat) : callK CX prims m = (callK CX prims m) := by
  rfl
noncomputable def laws_eqPair_c : Code := (Try.f37.body).getD .skip
noncomputable def laws_eqPair_fi : Fi := ⟨37, 2, 15, 16⟩
theorem laws_eqPair_eq (m : Nat) : ∀ vs k, callK CX prims m 37 (fArgs laws_eqPair_a vs) k = laws_eqPair_w m vs k := by
  cases m with
  | zero => exact fun vs k => rfl
  | succ m => exact fun vs k => Eq.trans (b := bodyK CX (callK CX prims m) (loopK CX (callK CX prims m) laws_eqPair_fi laws_eqPair_c m) 37 Try.f37 laws_eqPair_c (fArgs laws_eqPair_a vs) k) (by kernel_rfl) ((bodyK_congr (laws_eqPair_cf m) rfl 37 Try.f37 laws_eqPair_c (fArgs laws_eqPair_a vs) k).trans (by kernel_rfl))

/-! loop.example/g00244/laws.eqPairS -/
noncomputable def laws_eqPairS_L0_0 (m : Nat) : Nat → T → T → T → (T → An) → An → An
  | 0, _, _, _, _, _ => .bad
  | n + 1, x0, x1, x2, k0, k1 =>
    cond (decide (x2.int < (x0.rows.length : Int)))
    (cond (decide (0 ≤ x2.int ∧ x2.int < (x0.rows.length : Int)))
    (cond (decide (0 ≤ x2.int ∧ x2.int < (x1.rows.length : Int)))
    (laws_eqPair m ((x0.rows.getD (Int.toNat x2.int) []).getD 0 dflt) ((x0.rows.getD (Int.toNat x2.int) []).getD 1 dflt) ((x1.rows.getD (Int.toNat x2.int) []).getD 0 dflt) ((x1.rows.getD (Int.toNat x2.int) []).getD 1 dflt)
    (fun y0 => cond (!y0.bool)
    (k0 (T.b false))
    (laws_eqPairS_L0_0 m n x0 x1 (T.i (IntKind.i64.wrap (x2.int + 1))) k0 k1)))
    (.bad))
    (.bad))
    (k1 )
noncomputable def laws_eqPairS_s0_0 : Pack := ⟨[(0, .one ⟨.sn [], .sl [.sc (.str), .sc (.str)], .l []⟩), (1, .one ⟨.sn [], .sl [.sc (.str), .sc (.str)], .l []⟩), (5, .one ⟨.sc, .sc (.int .i64), .l []⟩)], []⟩
noncomputable def laws_eqPairS_e0_0 : Pack := ⟨[(4, .one ⟨.sc, .sc (.bool), .l []⟩)], []⟩
noncomputable def laws_eqPairS_e0_1 : Pack := ⟨[], []⟩
noncomputable def laws_eqPairS_L0_0w (m n : Nat) (vs : List T) (k : Ctl → Pack → An) : An := laws_eqPairS_L0_0 m n (vs.headD dflt) (vs.tail.headD dflt) (vs.tail.tail.headD dflt) (fun z0 => k .ret (fPack laws_eqPairS_e0_0 [z0])) (k (.exit 0) (fPack laws_eqPairS_e0_1 []))
noncomputable def laws_eqPairS : Nat → T → T → (T → An) → An
  | 0, _, _, _ => .bad
  | m + 1, x0, x1, k0 =>
    cond ((x0.rows.length : Int) != (x1.rows.length : Int))
    (k0 (T.b false))
    (laws_eqPairS_L0_0 m m (T.l x0.rows) (T.l x1.rows) (T.i 0)
    (fun y1 => k0 y1)
    (k0 (T.b true)))
noncomputable def laws_eqPairS_a : List Arg := [.one (.fz [.sc (.str), .sc (.str)] []), .one (.fz [.sc (.str), .sc (.str)] [])]
noncomputable def laws_eqPairS_w (m : Nat) (vs : List T) (k : Ret → An) : An := laws_eqPairS m (vs.headD dflt) (vs.tail.headD dflt) (fun z0 => k ⟨[.one (.sc (.bool) z0)], [[none], [none]]⟩)
theorem laws_eqPairS_cf (m : Nat) : callK CX prims m = (patC 37 laws_eqPair_a (laws_eqPair_w m) (callK CX prims m)) := by
  rw [← patC_eq (fun vs k => laws_eqPair_eq m vs k)]
noncomputable def laws_eqPairS_c : Code := (Try.f13.body).getD .skip
noncomputable def laws_eqPairS_fi : Fi := ⟨13, 2, 27, 16⟩
theorem laws_eqPairS_lf (m : Nat) : ∀ n, (∀ vs k, loopK CX (callK CX prims m) laws_eqPairS_fi laws_eqPairS_c n [0, 1, 0, 1, 1] (fPack laws_eqPairS_s0_0 vs) k = laws_eqPairS_L0_0w m n vs k) ∧ ((loopK CX (callK CX prims m) laws_eqPairS_fi laws_eqPairS_c n) = (patL [0, 1, 0, 1, 1] laws_eqPairS_s0_0 (laws_eqPairS_L0_0w m n) (loopK CX (callK CX prims m) laws_eqPairS_fi laws_eqPairS_c n))) := by
  intro n
  have hl : ∀ n, (∀ vs k, loopK CX (callK CX prims m) laws_eqPairS_fi laws_eqPairS_c n [0, 1, 0, 1, 1] (fPack laws_eqPairS_s0_0 vs) k = laws_eqPairS_L0_0w m n vs k) → ((loopK CX (callK CX prims m) laws_eqPairS_fi laws_eqPairS_c n) = (patL [0, 1, 0, 1, 1] laws_eqPairS_s0_0 (laws_eqPairS_L0_0w m n) (loopK CX (callK CX prims m) laws_eqPairS_fi laws_eqPairS_c n))) := by
    intro n h0
    rw [← patL_eq h0]
  induction n with
  | zero => exact ⟨fun vs k => rfl, hl 0 (fun vs k => rfl)⟩
  | succ n ihn =>
    have hn := ihn.2
    have h0 : ∀ vs k, loopK CX (callK CX prims m) laws_eqPairS_fi laws_eqPairS_c (n + 1) [0, 1, 0, 1, 1] (fPack laws_eqPairS_s0_0 vs) k = laws_eqPairS_L0_0w m (n + 1) vs k := fun vs k =>
      (stepL_congr (laws_eqPairS_cf m) hn [0, 1, 0, 1, 1] _ _).trans (by kernel_rfl)
    exact ⟨h0, hl (n + 1) h0⟩
theorem laws_eqPairS_eq (m : Nat) : ∀ vs k, callK CX prims m 13 (fArgs laws_eqPairS_a vs) k = laws_eqPairS_w m vs k := by
  cases m with
  | zero => exact fun vs k => rfl
  | succ m => exact fun vs k => Eq.trans (b := bodyK CX (callK CX prims m) (loopK CX (callK CX prims m) laws_eqPairS_fi laws_eqPairS_c m) 13 Try.f13 laws_eqPairS_c (fArgs laws_eqPairS_a vs) k) (by kernel_rfl) ((bodyK_congr (laws_eqPairS_cf m) ((laws_eqPairS_lf m m).2) 13 Try.f13 laws_eqPairS_c (fArgs laws_eqPairS_a vs) k).trans (by kernel_rfl))

/-! loop.example/g00244/laws.FnExactPairsText -/
noncomputable def laws_FnExactPairsText : Nat → T → (T → An) → An
  | 0, _, _ => .bad
  | m + 1, x0, k0 =>
    laws_szPairS m (T.l x0.rows) (T.i 1048576)
    (fun y0 => cond (decide (y0.int < 0))
    (k0 (T.b true))
    (laws_toPairS m (T.l x0.rows)
    (fun y1 => spec_PairsText m (T.l y1.rows)
    (fun y2 => laws_toPairS m (T.l x0.rows)
    (fun y3 => impl_PairsText m (T.l y3.rows)
    (fun y4 => cond (!(y4.str.toList == y2.str.toList))
    (k0 (T.b false))
    (laws_toPairS m (T.l x0.rows)
    (fun y5 => laws_eqPairS m (T.l y3.rows) (T.l y5.rows)
    (fun y6 => cond (!y6.bool)
    (k0 (T.b false))
    (k0 (T.b true)))))))))))
noncomputable def laws_FnExactPairsText_a : List Arg := [.one (.fz [.sc (.str), .sc (.str)] [])]
noncomputable def laws_FnExactPairsText_w (m : Nat) (vs : List T) (k : Ret → An) : An := laws_FnExactPairsText m (vs.headD dflt) (fun z0 => k ⟨[.one (.sc (.bool) z0)], [[none]]⟩)
theorem laws_FnExactPairsText_cf (m : Nat) : callK CX prims m = (patC 9 laws_szPairS_a (laws_szPairS_w m) (patC 11 laws_toPairS_a (laws_toPairS_w m) (patC 10 spec_PairsText_a (spec_PairsText_w m) (patC 12 impl_PairsText_a (impl_PairsText_w m) (patC 13 laws_eqPairS_a (laws_eqPairS_w m) (callK CX prims m)))))) := by
  rw [← patC_eq (fun vs k => laws_eqPairS_eq m vs k), ← patC_eq (fun vs k => impl_PairsText_eq m vs k), ← patC_eq (fun vs k => spec_PairsText_eq m vs k), ← patC_eq (fun vs k => laws_toPairS_eq m vs k), ← patC_eq (fun vs k => laws_szPairS_eq m vs k)]
noncomputable def laws_FnExactPairsText_c : Code := (Try.f3.body).getD .skip
noncomputable def laws_FnExactPairsText_fi : Fi := ⟨3, 1, 27, 4⟩
theorem laws_FnExactPairsText_eq (m : Nat) : ∀ vs k, callK CX prims m 3 (fArgs laws_FnExactPairsText_a vs) k = laws_FnExactPairsText_w m vs k := by
  cases m with
  | zero => exact fun vs k => rfl
  | succ m => exact fun vs k => Eq.trans (b := bodyK CX (callK CX prims m) (loopK CX (callK CX prims m) laws_FnExactPairsText_fi laws_FnExactPairsText_c m) 3 Try.f3 laws_FnExactPairsText_c (fArgs laws_FnExactPairsText_a vs) k) (by kernel_rfl) ((bodyK_congr (laws_FnExactPairsText_cf m) rfl 3 Try.f3 laws_FnExactPairsText_c (fArgs laws_FnExactPairsText_a vs) k).trans (by kernel_rfl))

/-! loop.example/g00244/laws.szOp -/
noncomputable def laws_szOp : Nat → T → T → T → T → (T → An) → An
  | 0, _, _, _, _, _ => .bad
  | m + 1, x0, x1, x2, x3, k0 =>
    cond (decide ((IntKind.i64.wrap (x3.int - (x1.str.size : Int))) < 0))
    (k0 (T.i (-1)))
    (cond (decide ((IntKind.i64.wrap ((IntKind.i64.wrap (x3.int - (x1.str.size : Int))) - (x2.str.size : Int))) < 0))
    (k0 (T.i (-1)))
    (k0 (T.i (IntKind.i64.wrap ((IntKind.i64.wrap (x3.int - (x1.str.size : Int))) - (x2.str.size : Int))))))
noncomputable def laws_szOp_a : List Arg := [.agg [.sc (.int .i64) (.l []), .sc (.str) (.l []), .sc (.str) (.l [])], .one (.sc (.int .i64) (.l []))]
noncomputable def laws_szOp_w (m : Nat) (vs : List T) (k : Ret → An) : An := laws_szOp m (vs.headD dflt) (vs.tail.headD dflt) (vs.tail.tail.headD dflt) (vs.tail.tail.tail.headD dflt) (fun z0 => k ⟨[.one (.sc (.int .i64) z0)], [[none, none, none], [none]]⟩)
theorem laws_szOp_cf (m : Nat) : callK CX prims m = (callK CX prims m) := by
  rfl
noncomputable def laws_szOp_c : Code := (Try.f40.body).getD .skip
noncomputable def laws_szOp_fi : Fi := ⟨40, 2, 20, 16⟩
theorem laws_szOp_eq (m : Nat) : ∀ vs k, callK CX prims m 40 (fArgs laws_szOp_a vs) k = laws_szOp_w m vs k := by
  cases m with
  | zero => exact fun vs k => rfl
  | succ m => exact fun vs k => Eq.trans (b := bodyK CX (callK CX prims m) (loopK CX (callK CX prims m) laws_szOp_fi laws_szOp_c m) 40 Try.f40 laws_szOp_c (fArgs laws_szOp_a vs) k) (by kernel_rfl) ((bodyK_congr (laws_szOp_cf m) rfl 40 Try.f40 laws_szOp_c (fArgs laws_szOp_a vs) k).trans (by kernel_rfl))

/-! loop.example/g00244/laws.szOpS -/
noncomputable def laws_szOpS_L0_0 (m : Nat) : Nat → T → T → T → (T → An) → (T → An) → An
  | 0, _, _, _, _, _ => .bad
  | n + 1, x0, x1, x2, k0, k1 =>
    cond (decide (x2.int < (x0.rows.length : Int)))
    (cond (decide (0 ≤ x2.int ∧ x2.int < (x0.rows.length : Int)))
    (laws_szOp m ((x0.rows.getD (Int.toNat x2.int) []).getD 0 dflt) ((x0.rows.getD (Int.toNat x2.int) []).getD 1 dflt) ((x0.rows.getD (Int.toNat x2.int) []).getD 2 dflt) x1
    (fun y0 => cond (decide (y0.int < 0))
    (k0 (T.i (-1)))
    (laws_szOpS_L0_0 m n x0 y0 (T.i (IntKind.i64.wrap (x2.int + 1))) k0 k1)))
    (.bad))
    (k1 x1)
noncomputable def laws_szOpS_s0_0 : Pack := ⟨[(0, .one ⟨.sn [], .sl [.sc (.int .i64), .sc (.str), .sc (.str)], .l []⟩), (1, .one ⟨.sc, .sc (.int .i64), .l []⟩), (5, .one ⟨.sc, .sc (.int .i64), .l []⟩)], []⟩
noncomputable def laws_szOpS_e0_0 : Pack := ⟨[(4, .one ⟨.sc, .sc (.int .i64), .l []⟩)], []⟩
noncomputable def laws_szOpS_e0_1 : Pack := ⟨[(1, .one ⟨.sc, .sc (.int .i64), .l []⟩)], []⟩
noncomputable def laws_szOpS_L0_0w (m n : Nat) (vs : List T) (k : Ctl → Pack → An) : An := laws_szOpS_L0_0 m n (vs.headD dflt) (vs.tail.headD dflt) (vs.tail.tail.headD dflt) (fun z0 => k .ret (fPack laws_szOpS_e0_0 [z0])) (fun z0 => k (.exit 0) (fPack laws_szOpS_e0_1 [z0]))
noncomputable def laws_szOpS : Nat → T → T → (T → An) → An
  | 0, _, _, _ => .bad
  | m + 1, x0, x1, k0 =>
    cond (decide ((IntKind.i64.wrap (x1.int - (x0.rows.length : Int))) < 0))
    (k0 (T.i (-1)))
    (laws_szOpS_L0_0 m m (T.l x0.rows) (T.i (IntKind.i64.wrap (x1.int - (x0.rows.length : Int)))) (T.i 0)
    (fun y1 => k0 y1)
    (fun y2 => k0 y2))
noncomputable def laws_szOpS_a : List Arg := [.one (.fz [.sc (.int .i64), .sc (.str), .sc (.str)] []), .one (.sc (.int .i64) (.l []))]
noncomputable def laws_szOpS_w (m : Nat) (vs : List T) (k : Ret → An) : An := laws_szOpS m (vs.headD dflt) (vs.tail.headD dflt) (fun z0 => k ⟨[.one (.sc (.int .i64) z0)], [[none], [none]]⟩)
theorem laws_szOpS_cf (m : Nat) : callK CX prims m = (patC 40 laws_szOp_a (laws_szOp_w m) (callK CX prims m)) := by
  rw [← patC_eq (fun vs k => laws_szOp_eq m vs k)]
noncomputable def laws_szOpS_c : Code := (Try.f16.body).getD .skip
noncomputable def laws_szOpS_fi : Fi := ⟨16, 2, 27, 16⟩
theorem laws_szOpS_lf (m : Nat) : ∀ n, (∀ vs k, loopK CX (callK CX prims m) laws_szOpS_fi laws_szOpS_c n [0, 1, 0, 1, 1, 1] (fPack laws_szOpS_s0_0 vs) k = laws_szOpS_L0_0w m n vs k) ∧ ((loopK CX (callK CX prims m) laws_szOpS_fi laws_szOpS_c n) = (patL [0, 1, 0, 1, 1, 1] laws_szOpS_s0_0 (laws_szOpS_L0_0w m n) (loopK CX (callK CX prims m) laws_szOpS_fi laws_szOpS_c n))) := by
  intro n
  have hl : ∀ n, (∀ vs k, loopK CX (callK CX prims m) laws_szOpS_fi laws_szOpS_c n [0, 1, 0, 1, 1, 1] (fPack laws_szOpS_s0_0 vs) k = laws_szOpS_L0_0w m n vs k) → ((loopK CX (callK CX prims m) laws_szOpS_fi laws_szOpS_c n) = (patL [0, 1, 0, 1, 1, 1] laws_szOpS_s0_0 (laws_szOpS_L0_0w m n) (loopK CX (callK CX prims m) laws_szOpS_fi laws_szOpS_c n))) := by
    intro n h0
    rw [← patL_eq h0]
  induction n with
  | zero => exact ⟨fun vs k => rfl, hl 0 (fun vs k => rfl)⟩
  | succ n ihn =>
    have hn := ihn.2
    have h0 : ∀ vs k, loopK CX (callK CX prims m) laws_szOpS_fi laws_szOpS_c (n + 1) [0, 1, 0, 1, 1, 1] (fPack laws_szOpS_s0_0 vs) k = laws_szOpS_L0_0w m (n + 1) vs k := fun vs k =>
      (stepL_congr (laws_szOpS_cf m) hn [0, 1, 0, 1, 1, 1] _ _).trans (by kernel_rfl)
    exact ⟨h0, hl (n + 1) h0⟩
theorem laws_szOpS_eq (m : Nat) : ∀ vs k, callK CX prims m 16 (fArgs laws_szOpS_a vs) k = laws_szOpS_w m vs k := by
  cases m with
  | zero => exact fun vs k => rfl
  | succ m => exact fun vs k => Eq.trans (b := bodyK CX (callK CX prims m) (loopK CX (callK CX prims m) laws_szOpS_fi laws_szOpS_c m) 16 Try.f16 laws_szOpS_c (fArgs laws_szOpS_a vs) k) (by kernel_rfl) ((bodyK_congr (laws_szOpS_cf m) ((laws_szOpS_lf m m).2) 16 Try.f16 laws_szOpS_c (fArgs laws_szOpS_a vs) k).trans (by kernel_rfl))

/-! loop.example/g00244/laws.toOp -/
noncomputable def laws_toOp : Nat → T → T → T → (T → T → T → An) → An
  | 0, _, _, _, _ => .bad
  | m + 1, x0, x1, x2, k0 =>
    k0 x0 x1 x2
noncomputable def laws_toOp_a : List Arg := [.agg [.sc (.int .i64) (.l []), .sc (.str) (.l []), .sc (.str) (.l [])]]
noncomputable def laws_toOp_w (m : Nat) (vs : List T) (k : Ret → An) : An := laws_toOp m (vs.headD dflt) (vs.tail.headD dflt) (vs.tail.tail.headD dflt) (fun z0 z1 z2 => k ⟨[.agg [.sc (.int .i64) z0, .sc (.str) z1, .sc (.str) z2]], [[none, none, none]]⟩)
theorem laws_toOp_cf (m : Nat) : callK CX prims m = (callK CX prims m) := by
  rfl
noncomputable def laws_toOp_c : Code := (Try.f43.body).getD .skip
noncomputable def laws_toOp_fi : Fi := ⟨43, 1, 14, 4⟩
theorem laws_toOp_eq (m : Nat) : ∀ vs k, callK CX prims m 43 (fArgs laws_toOp_a vs) k = laws_toOp_w m vs k := by
  cases m with
  | zero => exact fun vs k => rfl
  | succ m => exact fun vs k => Eq.trans (b := bodyK CX (callK CX prims m) (loopK CX (callK CX prims m) laws_toOp_fi laws_toOp_c m) 43 Try.f43 laws_toOp_c (fArgs laws_toOp_a vs) k) (by kernel_rfl) ((bodyK_congr (laws_toOp_cf m) rfl 43 Try.f43 laws_toOp_c (fArgs laws_toOp_a vs) k).trans (by kernel_rfl))

/-! loop.example/g00244/laws.toOpS -/
noncomputable def laws_toOpS_L0_0 (m : Nat) : Nat → T → T → T → (T → An) → An
  | 0, _, _, _, _ => .bad
  | n + 1, x0, x1, x2, k0 =>
    cond (decide (x1.int < (x0.rows.length : Int)))
    (cond (decide (0 ≤ x1.int ∧ x1.int < (x0.rows.length : Int)))
    (laws_toOp m ((x0.rows.getD (Int.toNat x1.int) []).getD 0 dflt) ((x0.rows.getD (Int.toNat x1.int) []).getD 1 dflt) ((x0.rows.getD (Int.toNat x1.int) []).getD 2 dflt)
    (fun y0 y1 y2 => cond (decide (0 ≤ x1.int ∧ x1.int < (x2.rows.length : Int)))
    (cond (decide ((Int.toNat x1.int) < x2.rows.length))
    (laws_toOpS_L0_0 m n x0 (T.i (IntKind.i64.wrap (x1.int + 1))) (T.l (x2.rows.set (Int.toNat x1.int) ((((x2.rows.getD (Int.toNat x1.int) []).set 0 y0).set 1 y1).set 2 y2))) k0)
    (.bad))
    (.bad)))
    (.bad))
    (k0 (T.l x2.rows))
noncomputable def laws_toOpS_s0_0 : Pack := ⟨[(0, .one ⟨.sn [], .sl [.sc (.int .i64), .sc (.str), .sc (.str)], .l []⟩), (3, .one ⟨.al [1000000, 0] 0, .sl [.sc (.int .i64), .sc (.str), .sc (.str)], .l []⟩), (4, .one ⟨.sc, .sc (.int .i64), .l []⟩)], [([1000000, 0], .row [.sc (.int .i64), .sc (.str), .sc (.str)] [.F, .F, .F] [])]⟩
noncomputable def laws_toOpS_e0_0 : Pack := ⟨[(3, .one ⟨.al [1000000, 0] 0, .sl [.sc (.int .i64), .sc (.str), .sc (.str)], .l []⟩)], [([1000000, 0], .row [.sc (.int .i64), .sc (.str), .sc (.str)] [.F, .F, .F] [])]⟩
noncomputable def laws_toOpS_L0_0w (m n : Nat) (vs : List T) (k : Ctl → Pack → An) : An := laws_toOpS_L0_0 m n (vs.headD dflt) (vs.tail.headD dflt) (vs.tail.tail.headD dflt) (fun z0 => k (.exit 0) (fPack laws_toOpS_e0_0 [z0]))
noncomputable def laws_toOpS : Nat → T → (T → An) → An
  | 0, _, _ => .bad
  | m + 1, x0, k0 =>
    cond (decide (0 ≤ (x0.rows.length : Int) ∧ (x0.rows.length : Int) ≤ (x0.rows.length : Int)))
    (cond (decide ((x0.rows.length : Int) * ((40 : Nat) : Int) ≤ (maxCells : Int)))
    (laws_toOpS_L0_0 m m (T.l x0.rows) (T.i 0) (T.l (List.replicate (Int.toNat (x0.rows.length : Int)) [(T.i 0), (T.s (⟨#[]⟩ : ByteArray)), (T.s (⟨#[]⟩ : ByteArray))]))
    (fun y3 => k0 (T.l y3.rows)))
    (.bad))
    (.bad)
noncomputable def laws_toOpS_a : List Arg := [.one (.fz [.sc (.int .i64), .sc (.str), .sc (.str)] [])]
noncomputable def laws_toOpS_w (m : Nat) (vs : List T) (k : Ret → An) : An := laws_toOpS m (vs.headD dflt) (fun z0 => k ⟨[.one (.own [1000000, 0] [.sc (.int .i64), .sc (.str), .sc (.str)] [.F, .F, .F] z0.rows)], [[none]]⟩)
theorem laws_toOpS_cf (m : Nat) : callK CX prims m = (patC 43 laws_toOp_a (laws_toOp_w m) (callK CX prims m)) := by
  rw [← patC_eq (fun vs k => laws_toOp_eq m vs k)]
noncomputable def laws_toOpS_c : Code := (Try.f18.body).getD .skip
noncomputable def laws_toOpS_fi : Fi := ⟨18, 1, 23, 4⟩
theorem laws_toOpS_lf (m : Nat) : ∀ n, (∀ vs k, loopK CX (callK CX prims m) laws_toOpS_fi laws_toOpS_c n [0, 1, 0, 1, 1] (fPack laws_toOpS_s0_0 vs) k = laws_toOpS_L0_0w m n vs k) ∧ ((loopK CX (callK CX prims m) laws_toOpS_fi laws_toOpS_c n) = (patL [0, 1, 0, 1, 1] laws_toOpS_s0_0 (laws_toOpS_L0_0w m n) (loopK CX (callK CX prims m) laws_toOpS_fi laws_toOpS_c n))) := by
  intro n
  have hl : ∀ n, (∀ vs k, loopK CX (callK CX prims m) laws_toOpS_fi laws_toOpS_c n [0, 1, 0, 1, 1] (fPack laws_toOpS_s0_0 vs) k = laws_toOpS_L0_0w m n vs k) → ((loopK CX (callK CX prims m) laws_toOpS_fi laws_toOpS_c n) = (patL [0, 1, 0, 1, 1] laws_toOpS_s0_0 (laws_toOpS_L0_0w m n) (loopK CX (callK CX prims m) laws_toOpS_fi laws_toOpS_c n))) := by
    intro n h0
    rw [← patL_eq h0]
  induction n with
  | zero => exact ⟨fun vs k => rfl, hl 0 (fun vs k => rfl)⟩
  | succ n ihn =>
    have hn := ihn.2
    have h0 : ∀ vs k, loopK CX (callK CX prims m) laws_toOpS_fi laws_toOpS_c (n + 1) [0, 1, 0, 1, 1] (fPack laws_toOpS_s0_0 vs) k = laws_toOpS_L0_0w m (n + 1) vs k := fun vs k =>
      (stepL_congr (laws_toOpS_cf m) hn [0, 1, 0, 1, 1] _ _).trans (by kernel_rfl)
    exact ⟨h0, hl (n + 1) h0⟩
theorem laws_toOpS_eq (m : Nat) : ∀ vs k, callK CX prims m 18 (fArgs laws_toOpS_a vs) k = laws_toOpS_w m vs k := by
  cases m with
  | zero => exact fun vs k => rfl
  | succ m => exact fun vs k => Eq.trans (b := bodyK CX (callK CX prims m) (loopK CX (callK CX prims m) laws_toOpS_fi laws_toOpS_c m) 18 Try.f18 laws_toOpS_c (fArgs laws_toOpS_a vs) k) (by kernel_rfl) ((bodyK_congr (laws_toOpS_cf m) ((laws_toOpS_lf m m).2) 18 Try.f18 laws_toOpS_c (fArgs laws_toOpS_a vs) k).trans (by kernel_rfl))

/-! loop.example/g00244/spec.l1In -/
noncomputable def spec_l1In : Nat → T → T → T → (T → An) → An
  | 0, _, _, _, _ => .bad
  | m + 1, x0, x1, x2, k0 =>
    cond ((decide (x0.int ≥ x1.int)) == true)
    (k0 (T.b (decide (x0.int ≤ x2.int))))
    (k0 (T.b false))
noncomputable def spec_l1In_a : List Arg := [.one (.sc (.int .i64) (.l [])), .one (.sc (.int .i64) (.l [])), .one (.sc (.int .i64) (.l []))]
noncomputable def spec_l1In_w (m : Nat) (vs : List T) (k : Ret → An) : An := spec_l1In m (vs.headD dflt) (vs.tail.headD dflt) (vs.tail.tail.headD dflt) (fun z0 => k ⟨[.one (.sc (.bool) z0)], [[none], [none], [none]]⟩)
theorem spec_l1In_cf (m : Nat) : callK CX prims m = (callK CX prims m) := by
  rfl
noncomputable def spec_l1In_c : Code := (Try.f53.body).getD .skip
noncomputable def spec_l1In_fi : Fi := ⟨53, 3, 15, 64⟩
theorem spec_l1In_eq (m : Nat) : ∀ vs k, callK CX prims m 53 (fArgs spec_l1In_a vs) k = spec_l1In_w m vs k := by
  cases m with
  | zero => exact fun vs k => rfl
  | succ m => exact fun vs k => Eq.trans (b := bodyK CX (callK CX prims m) (loopK CX (callK CX prims m) spec_l1In_fi spec_l1In_c m) 53 Try.f53 spec_l1In_c (fArgs spec_l1In_a vs) k) (by kernel_rfl) ((bodyK_congr (spec_l1In_cf m) rfl 53 Try.f53 spec_l1In_c (fArgs spec_l1In_a vs) k).trans (by kernel_rfl))

/-! loop.example/g00244/spec.KeyOk -/
noncomputable def spec_KeyOk_L0_0 (m : Nat) : Nat → T → T → (T → An) → (T → An) → An
  | 0, _, _, _, _ => .bad
  | n + 1, x0, x1, k0, k1 =>
    cond (decide (x1.int < (x0.str.size : Int)))
    (cond (decide (0 ≤ x1.int ∧ x1.int < (x0.str.size : Int)))
    (spec_l1In m (T.i (IntKind.i64.wrap ((x0.str.data.toList.getD (Int.toNat x1.int) 0).toNat : Int))) (T.i 97) (T.i 122)
    (fun y0 => cond ((!y0.bool) == true)
    (cond (decide (0 ≤ x1.int ∧ x1.int < (x0.str.size : Int)))
    (spec_l1In m (T.i (IntKind.i64.wrap ((x0.str.data.toList.getD (Int.toNat x1.int) 0).toNat : Int))) (T.i 48) (T.i 57)
    (fun y1 => cond (!y1.bool)
    (k0 (T.b false))
    (spec_KeyOk_L0_0 m n x0 (T.i (IntKind.i64.wrap (x1.int + 1))) k0 k1)))
    (.bad))
    (spec_KeyOk_L0_0 m n x0 (T.i (IntKind.i64.wrap (x1.int + 1))) k0 k1)))
    (.bad))
    (k1 x0)
noncomputable def spec_KeyOk_s0_0 : Pack := ⟨[(0, .one ⟨.sc, .sc (.str), .l []⟩), (3, .one ⟨.sc, .sc (.int .i64), .l []⟩)], []⟩
noncomputable def spec_KeyOk_e0_0 : Pack := ⟨[(2, .one ⟨.sc, .sc (.bool), .l []⟩)], []⟩
noncomputable def spec_KeyOk_e0_1 : Pack := ⟨[(0, .one ⟨.sc, .sc (.str), .l []⟩)], []⟩
noncomputable def spec_KeyOk_L0_0w (m n : Nat) (vs : List T) (k : Ctl → Pack → An) : An := spec_KeyOk_L0_0 m n (vs.headD dflt) (vs.tail.headD dflt) (fun z0 => k .ret (fPack spec_KeyOk_e0_0 [z0])) (fun z0 => k (.exit 0) (fPack spec_KeyOk_e0_1 [z0]))
noncomputable def spec_KeyOk : Nat → T → (T → An) → An
  | 0, _, _ => .bad
  | m + 1, x0, k0 =>
    spec_KeyOk_L0_0 m m x0 (T.i 0)
    (fun y2 => k0 y2)
    (fun y3 => spec_l1In m (T.i (y3.str.size : Int)) (T.i 1) (T.i 12)
    (fun y4 => k0 y4))
noncomputable def spec_KeyOk_a : List Arg := [.one (.sc (.str) (.l []))]
noncomputable def spec_KeyOk_w (m : Nat) (vs : List T) (k : Ret → An) : An := spec_KeyOk m (vs.headD dflt) (fun z0 => k ⟨[.one (.sc (.bool) z0)], [[none]]⟩)
theorem spec_KeyOk_cf (m : Nat) : callK CX prims m = (patC 53 spec_l1In_a (spec_l1In_w m) (callK CX prims m)) := by
  rw [← patC_eq (fun vs k => spec_l1In_eq m vs k)]
noncomputable def spec_KeyOk_c : Code := (Try.f87.body).getD .skip
noncomputable def spec_KeyOk_fi : Fi := ⟨87, 1, 27, 4⟩
theorem spec_KeyOk_lf (m : Nat) : ∀ n, (∀ vs k, loopK CX (callK CX prims m) spec_KeyOk_fi spec_KeyOk_c n [0, 1, 0, 1] (fPack spec_KeyOk_s0_0 vs) k = spec_KeyOk_L0_0w m n vs k) ∧ ((loopK CX (callK CX prims m) spec_KeyOk_fi spec_KeyOk_c n) = (patL [0, 1, 0, 1] spec_KeyOk_s0_0 (spec_KeyOk_L0_0w m n) (loopK CX (callK CX prims m) spec_KeyOk_fi spec_KeyOk_c n))) := by
  intro n
  have hl : ∀ n, (∀ vs k, loopK CX (callK CX prims m) spec_KeyOk_fi spec_KeyOk_c n [0, 1, 0, 1] (fPack spec_KeyOk_s0_0 vs) k = spec_KeyOk_L0_0w m n vs k) → ((loopK CX (callK CX prims m) spec_KeyOk_fi spec_KeyOk_c n) = (patL [0, 1, 0, 1] spec_KeyOk_s0_0 (spec_KeyOk_L0_0w m n) (loopK CX (callK CX prims m) spec_KeyOk_fi spec_KeyOk_c n))) := by
    intro n h0
    rw [← patL_eq h0]
  induction n with
  | zero => exact ⟨fun vs k => rfl, hl 0 (fun vs k => rfl)⟩
  | succ n ihn =>
    have hn := ihn.2
    have h0 : ∀ vs k, loopK CX (callK CX prims m) spec_KeyOk_fi spec_KeyOk_c (n + 1) [0, 1, 0, 1] (fPack spec_KeyOk_s0_0 vs) k = spec_KeyOk_L0_0w m (n + 1) vs k := fun vs k =>
      (stepL_congr (spec_KeyOk_cf m) hn [0, 1, 0, 1] _ _).trans (by kernel_rfl)
    exact ⟨h0, hl (n + 1) h0⟩
theorem spec_KeyOk_eq (m : Nat) : ∀ vs k, callK CX prims m 87 (fArgs spec_KeyOk_a vs) k = spec_KeyOk_w m vs k := by
  cases m with
  | zero => exact fun vs k => rfl
  | succ m => exact fun vs k => Eq.trans (b := bodyK CX (callK CX prims m) (loopK CX (callK CX prims m) spec_KeyOk_fi spec_KeyOk_c m) 87 Try.f87 spec_KeyOk_c (fArgs spec_KeyOk_a vs) k) (by kernel_rfl) ((bodyK_congr (spec_KeyOk_cf m) ((spec_KeyOk_lf m m).2) 87 Try.f87 spec_KeyOk_c (fArgs spec_KeyOk_a vs) k).trans (by kernel_rfl))

/-! loop.example/g00244/spec.l7Op -/
noncomputable def spec_l7Op : Nat → T → T → T → (T → An) → An
  | 0, _, _, _, _ => .bad
  | m + 1, x0, x1, x2, k0 =>
    spec_l1In m x0 (T.i 1) (T.i 3)
    (fun y0 => cond ((!y0.bool) == false)
    (cond ((x0.int == 2) == true)
    (cond (!(x2.str.toList == (⟨#[]⟩ : ByteArray).toList))
    (k0 (T.b false))
    (spec_KeyOk m x1
    (fun y1 => cond (y1.bool == true)
    (k0 (T.b (decide ((x2.str.size : Int) ≤ 20))))
    (k0 (T.b false)))))
    (spec_KeyOk m x1
    (fun y2 => cond (y2.bool == true)
    (k0 (T.b (decide ((x2.str.size : Int) ≤ 20))))
    (k0 (T.b false)))))
    (k0 (T.b false)))
noncomputable def spec_l7Op_a : List Arg := [.agg [.sc (.int .i64) (.l []), .sc (.str) (.l []), .sc (.str) (.l [])]]
noncomputable def spec_l7Op_w (m : Nat) (vs : List T) (k : Ret → An) : An := spec_l7Op m (vs.headD dflt) (vs.tail.headD dflt) (vs.tail.tail.headD dflt) (fun z0 => k ⟨[.one (.sc (.bool) z0)], [[none, none, none]]⟩)
theorem spec_l7Op_cf (m : Nat) : callK CX prims m = (patC 53 spec_l1In_a (spec_l1In_w m) (patC 87 spec_KeyOk_a (spec_KeyOk_w m) (callK CX prims m))) := by
  rw [← patC_eq (fun vs k => spec_KeyOk_eq m vs k), ← patC_eq (fun vs k => spec_l1In_eq m vs k)]
noncomputable def spec_l7Op_c : Code := (Try.f65.body).getD .skip
noncomputable def spec_l7Op_fi : Fi := ⟨65, 1, 26, 4⟩
theorem spec_l7Op_eq (m : Nat) : ∀ vs k, callK CX prims m 65 (fArgs spec_l7Op_a vs) k = spec_l7Op_w m vs k := by
  cases m with
  | zero => exact fun vs k => rfl
  | succ m => exact fun vs k => Eq.trans (b := bodyK CX (callK CX prims m) (loopK CX (callK CX prims m) spec_l7Op_fi spec_l7Op_c m) 65 Try.f65 spec_l7Op_c (fArgs spec_l7Op_a vs) k) (by kernel_rfl) ((bodyK_congr (spec_l7Op_cf m) rfl 65 Try.f65 spec_l7Op_c (fArgs spec_l7Op_a vs) k).trans (by kernel_rfl))

/-! loop.example/g00244/spec.OpsOk -/
noncomputable def spec_OpsOk_L0_0 (m : Nat) : Nat → T → T → (T → An) → (T → An) → An
  | 0, _, _, _, _ => .bad
  | n + 1, x0, x1, k0, k1 =>
    cond (decide (x1.int < (x0.rows.length : Int)))
    (cond (decide (0 ≤ x1.int ∧ x1.int < (x0.rows.length : Int)))
    (spec_l7Op m ((x0.rows.getD (Int.toNat x1.int) []).getD 0 dflt) ((x0.rows.getD (Int.toNat x1.int) []).getD 1 dflt) ((x0.rows.getD (Int.toNat x1.int) []).getD 2 dflt)
    (fun y0 => cond ((!y0.bool) == false)
    (cond ((decide (x1.int > 0)) == true)
    (cond (decide (0 ≤ (IntKind.i64.wrap (x1.int - 1)) ∧ (IntKind.i64.wrap (x1.int - 1)) < (x0.rows.length : Int)))
    (cond (decide (0 ≤ x1.int ∧ x1.int < (x0.rows.length : Int)))
    (cond (!(Op.bytesLess (((x0.rows.getD (Int.toNat (IntKind.i64.wrap (x1.int - 1))) []).drop 1).getD 0 dflt).str.toList (((x0.rows.getD (Int.toNat x1.int) []).drop 1).getD 0 dflt).str.toList))
    (k0 (T.b false))
    (spec_OpsOk_L0_0 m n x0 (T.i (IntKind.i64.wrap (x1.int + 1))) k0 k1))
    (.bad))
    (.bad))
    (spec_OpsOk_L0_0 m n x0 (T.i (IntKind.i64.wrap (x1.int + 1))) k0 k1))
    (k0 (T.b false))))
    (.bad))
    (k1 x0)
noncomputable def spec_OpsOk_s0_0 : Pack := ⟨[(0, .one ⟨.sn [], .sl [.sc (.int .i64), .sc (.str), .sc (.str)], .l []⟩), (3, .one ⟨.sc, .sc (.int .i64), .l []⟩)], []⟩
noncomputable def spec_OpsOk_e0_0 : Pack := ⟨[(2, .one ⟨.sc, .sc (.bool), .l []⟩)], []⟩
noncomputable def spec_OpsOk_e0_1 : Pack := ⟨[(0, .one ⟨.sn [], .sl [.sc (.int .i64), .sc (.str), .sc (.str)], .l []⟩)], []⟩
noncomputable def spec_OpsOk_L0_0w (m n : Nat) (vs : List T) (k : Ctl → Pack → An) : An := spec_OpsOk_L0_0 m n (vs.headD dflt) (vs.tail.headD dflt) (fun z0 => k .ret (fPack spec_OpsOk_e0_0 [z0])) (fun z0 => k (.exit 0) (fPack spec_OpsOk_e0_1 [z0]))
noncomputable def spec_OpsOk : Nat → T → (T → An) → An
  | 0, _, _ => .bad
  | m + 1, x0, k0 =>
    spec_OpsOk_L0_0 m m (T.l x0.rows) (T.i 0)
    (fun y1 => k0 y1)
    (fun y2 => spec_l1In m (T.i (y2.rows.length : Int)) (T.i 1) (T.i 8)
    (fun y3 => k0 y3))
noncomputable def spec_OpsOk_a : List Arg := [.one (.fz [.sc (.int .i64), .sc (.str), .sc (.str)] [])]
noncomputable def spec_OpsOk_w (m : Nat) (vs : List T) (k : Ret → An) : An := spec_OpsOk m (vs.headD dflt) (fun z0 => k ⟨[.one (.sc (.bool) z0)], [[none]]⟩)
theorem spec_OpsOk_cf (m : Nat) : callK CX prims m = (patC 65 spec_l7Op_a (spec_l7Op_w m) (patC 53 spec_l1In_a (spec_l1In_w m) (callK CX prims m))) := by
  rw [← patC_eq (fun vs k => spec_l1In_eq m vs k), ← patC_eq (fun vs k => spec_l7Op_eq m vs k)]
noncomputable def spec_OpsOk_c : Code := (Try.f41.body).getD .skip
noncomputable def spec_OpsOk_fi : Fi := ⟨41, 1, 37, 4⟩
theorem spec_OpsOk_lf (m : Nat) : ∀ n, (∀ vs k, loopK CX (callK CX prims m) spec_OpsOk_fi spec_OpsOk_c n [0, 1, 0, 1] (fPack spec_OpsOk_s0_0 vs) k = spec_OpsOk_L0_0w m n vs k) ∧ ((loopK CX (callK CX prims m) spec_OpsOk_fi spec_OpsOk_c n) = (patL [0, 1, 0, 1] spec_OpsOk_s0_0 (spec_OpsOk_L0_0w m n) (loopK CX (callK CX prims m) spec_OpsOk_fi spec_OpsOk_c n))) := by
  intro n
  have hl : ∀ n, (∀ vs k, loopK CX (callK CX prims m) spec_OpsOk_fi spec_OpsOk_c n [0, 1, 0, 1] (fPack spec_OpsOk_s0_0 vs) k = spec_OpsOk_L0_0w m n vs k) → ((loopK CX (callK CX prims m) spec_OpsOk_fi spec_OpsOk_c n) = (patL [0, 1, 0, 1] spec_OpsOk_s0_0 (spec_OpsOk_L0_0w m n) (loopK CX (callK CX prims m) spec_OpsOk_fi spec_OpsOk_c n))) := by
    intro n h0
    rw [← patL_eq h0]
  induction n with
  | zero => exact ⟨fun vs k => rfl, hl 0 (fun vs k => rfl)⟩
  | succ n ihn =>
    have hn := ihn.2
    have h0 : ∀ vs k, loopK CX (callK CX prims m) spec_OpsOk_fi spec_OpsOk_c (n + 1) [0, 1, 0, 1] (fPack spec_OpsOk_s0_0 vs) k = spec_OpsOk_L0_0w m (n + 1) vs k := fun vs k =>
      (stepL_congr (spec_OpsOk_cf m) hn [0, 1, 0, 1] _ _).trans (by kernel_rfl)
    exact ⟨h0, hl (n + 1) h0⟩
theorem spec_OpsOk_eq (m : Nat) : ∀ vs k, callK CX prims m 41 (fArgs spec_OpsOk_a vs) k = spec_OpsOk_w m vs k := by
  cases m with
  | zero => exact fun vs k => rfl
  | succ m => exact fun vs k => Eq.trans (b := bodyK CX (callK CX prims m) (loopK CX (callK CX prims m) spec_OpsOk_fi spec_OpsOk_c m) 41 Try.f41 spec_OpsOk_c (fArgs spec_OpsOk_a vs) k) (by kernel_rfl) ((bodyK_congr (spec_OpsOk_cf m) ((spec_OpsOk_lf m m).2) 41 Try.f41 spec_OpsOk_c (fArgs spec_OpsOk_a vs) k).trans (by kernel_rfl))

/-! loop.example/g00244/spec.l18Plain -/
noncomputable def spec_l18Plain_L0_0 (m : Nat) : Nat → T → T → (T → An) → (T → An) → An
  | 0, _, _, _, _ => .bad
  | n + 1, x0, x1, k0, k1 =>
    cond (decide (x1.int < (x0.str.size : Int)))
    (cond (decide (0 ≤ x1.int ∧ x1.int < (x0.str.size : Int)))
    (spec_l1In m (T.i (IntKind.i64.wrap ((x0.str.data.toList.getD (Int.toNat x1.int) 0).toNat : Int))) (T.i 97) (T.i 122)
    (fun y0 => cond ((!y0.bool) == true)
    (cond (decide (0 ≤ x1.int ∧ x1.int < (x0.str.size : Int)))
    (spec_l1In m (T.i (IntKind.i64.wrap ((x0.str.data.toList.getD (Int.toNat x1.int) 0).toNat : Int))) (T.i 48) (T.i 57)
    (fun y1 => cond (!y1.bool)
    (k0 (T.b false))
    (spec_l18Plain_L0_0 m n x0 (T.i (IntKind.i64.wrap (x1.int + 1))) k0 k1)))
    (.bad))
    (spec_l18Plain_L0_0 m n x0 (T.i (IntKind.i64.wrap (x1.int + 1))) k0 k1)))
    (.bad))
    (k1 x0)
noncomputable def spec_l18Plain_s0_0 : Pack := ⟨[(0, .one ⟨.sc, .sc (.str), .l []⟩), (3, .one ⟨.sc, .sc (.int .i64), .l []⟩)], []⟩
noncomputable def spec_l18Plain_e0_0 : Pack := ⟨[(2, .one ⟨.sc, .sc (.bool), .l []⟩)], []⟩
noncomputable def spec_l18Plain_e0_1 : Pack := ⟨[(0, .one ⟨.sc, .sc (.str), .l []⟩)], []⟩
noncomputable def spec_l18Plain_L0_0w (m n : Nat) (vs : List T) (k : Ctl → Pack → An) : An := spec_l18Plain_L0_0 m n (vs.headD dflt) (vs.tail.headD dflt) (fun z0 => k .ret (fPack spec_l18Plain_e0_0 [z0])) (fun z0 => k (.exit 0) (fPack spec_l18Plain_e0_1 [z0]))
noncomputable def spec_l18Plain : Nat → T → (T → An) → An
  | 0, _, _ => .bad
  | m + 1, x0, k0 =>
    spec_l18Plain_L0_0 m m x0 (T.i 0)
    (fun y2 => k0 y2)
    (fun y3 => k0 (T.b (decide ((y3.str.size : Int) ≤ 20))))
noncomputable def spec_l18Plain_a : List Arg := [.one (.sc (.str) (.l []))]
noncomputable def spec_l18Plain_w (m : Nat) (vs : List T) (k : Ret → An) : An := spec_l18Plain m (vs.headD dflt) (fun z0 => k ⟨[.one (.sc (.bool) z0)], [[none]]⟩)
theorem spec_l18Plain_cf (m : Nat) : callK CX prims m = (patC 53 spec_l1In_a (spec_l1In_w m) (callK CX prims m)) := by
  rw [← patC_eq (fun vs k => spec_l1In_eq m vs k)]
noncomputable def spec_l18Plain_c : Code := (Try.f42.body).getD .skip
noncomputable def spec_l18Plain_fi : Fi := ⟨42, 1, 27, 4⟩
theorem spec_l18Plain_lf (m : Nat) : ∀ n, (∀ vs k, loopK CX (callK CX prims m) spec_l18Plain_fi spec_l18Plain_c n [0, 1, 0, 1] (fPack spec_l18Plain_s0_0 vs) k = spec_l18Plain_L0_0w m n vs k) ∧ ((loopK CX (callK CX prims m) spec_l18Plain_fi spec_l18Plain_c n) = (patL [0, 1, 0, 1] spec_l18Plain_s0_0 (spec_l18Plain_L0_0w m n) (loopK CX (callK CX prims m) spec_l18Plain_fi spec_l18Plain_c n))) := by
  intro n
  have hl : ∀ n, (∀ vs k, loopK CX (callK CX prims m) spec_l18Plain_fi spec_l18Plain_c n [0, 1, 0, 1] (fPack spec_l18Plain_s0_0 vs) k = spec_l18Plain_L0_0w m n vs k) → ((loopK CX (callK CX prims m) spec_l18Plain_fi spec_l18Plain_c n) = (patL [0, 1, 0, 1] spec_l18Plain_s0_0 (spec_l18Plain_L0_0w m n) (loopK CX (callK CX prims m) spec_l18Plain_fi spec_l18Plain_c n))) := by
    intro n h0
    rw [← patL_eq h0]
  induction n with
  | zero => exact ⟨fun vs k => rfl, hl 0 (fun vs k => rfl)⟩
  | succ n ihn =>
    have hn := ihn.2
    have h0 : ∀ vs k, loopK CX (callK CX prims m) spec_l18Plain_fi spec_l18Plain_c (n + 1) [0, 1, 0, 1] (fPack spec_l18Plain_s0_0 vs) k = spec_l18Plain_L0_0w m (n + 1) vs k := fun vs k =>
      (stepL_congr (spec_l18Plain_cf m) hn [0, 1, 0, 1] _ _).trans (by kernel_rfl)
    exact ⟨h0, hl (n + 1) h0⟩
theorem spec_l18Plain_eq (m : Nat) : ∀ vs k, callK CX prims m 42 (fArgs spec_l18Plain_a vs) k = spec_l18Plain_w m vs k := by
  cases m with
  | zero => exact fun vs k => rfl
  | succ m => exact fun vs k => Eq.trans (b := bodyK CX (callK CX prims m) (loopK CX (callK CX prims m) spec_l18Plain_fi spec_l18Plain_c m) 42 Try.f42 spec_l18Plain_c (fArgs spec_l18Plain_a vs) k) (by kernel_rfl) ((bodyK_congr (spec_l18Plain_cf m) ((spec_l18Plain_lf m m).2) 42 Try.f42 spec_l18Plain_c (fArgs spec_l18Plain_a vs) k).trans (by kernel_rfl))

/-! loop.example/g00244/spec.OpsText -/
noncomputable def spec_OpsText_L0_0 (m : Nat) : Nat → T → T → T → (T → An) → (T → An) → An
  | 0, _, _, _, _, _ => .bad
  | n + 1, x0, x1, x2, k0, k1 =>
    cond (decide (x2.int < (x0.rows.length : Int)))
    (cond (decide (x2.int > 0))
    (cond (decide (x1.str.size + (⟨#[32]⟩ : ByteArray).size < 9223372036854775808))
    (cond (decide (0 ≤ x2.int ∧ x2.int < (x0.rows.length : Int)))
    (spec_l18Plain m (((x0.rows.getD (Int.toNat x2.int) []).drop 2).getD 0 dflt)
    (fun y1 => cond (!y1.bool)
    (k0 (T.s (⟨#[]⟩ : ByteArray)))
    (cond (decide (0 ≤ x2.int ∧ x2.int < (x0.rows.length : Int)))
    (cond (((x0.rows.getD (Int.toNat x2.int) []).getD 0 dflt).int == 1)
    (cond (decide (0 ≤ x2.int ∧ x2.int < (x0.rows.length : Int)))
    (cond (decide ((x1.str ++ (⟨#[32]⟩ : ByteArray)).size + (((x0.rows.getD (Int.toNat x2.int) []).drop 1).getD 0 dflt).str.size < 9223372036854775808))
    (cond (decide (((x1.str ++ (⟨#[32]⟩ : ByteArray)) ++ (((x0.rows.getD (Int.toNat x2.int) []).drop 1).getD 0 dflt).str).size + (⟨#[61]⟩ : ByteArray).size < 9223372036854775808))
    (cond (decide (0 ≤ x2.int ∧ x2.int < (x0.rows.length : Int)))
    (cond (decide ((((x1.str ++ (⟨#[32]⟩ : ByteArray)) ++ (((x0.rows.getD (Int.toNat x2.int) []).drop 1).getD 0 dflt).str) ++ (⟨#[61]⟩ : ByteArray)).size + (((x0.rows.getD (Int.toNat x2.int) []).drop 2).getD 0 dflt).str.size < 9223372036854775808))
    (spec_OpsText_L0_0 m n x0 (T.s ((((x1.str ++ (⟨#[32]⟩ : ByteArray)) ++ (((x0.rows.getD (Int.toNat x2.int) []).drop 1).getD 0 dflt).str) ++ (⟨#[61]⟩ : ByteArray)) ++ (((x0.rows.getD (Int.toNat x2.int) []).drop 2).getD 0 dflt).str)) (T.i (IntKind.i64.wrap (x2.int + 1))) k0 k1)
    (.bad))
    (.bad))
    (.bad))
    (.bad))
    (.bad))
    (cond (((x0.rows.getD (Int.toNat x2.int) []).getD 0 dflt).int == 2)
    (cond (decide ((x1.str ++ (⟨#[32]⟩ : ByteArray)).size + (⟨#[45]⟩ : ByteArray).size < 9223372036854775808))
    (cond (decide (0 ≤ x2.int ∧ x2.int < (x0.rows.length : Int)))
    (cond (decide (((x1.str ++ (⟨#[32]⟩ : ByteArray)) ++ (⟨#[45]⟩ : ByteArray)).size + (((x0.rows.getD (Int.toNat x2.int) []).drop 1).getD 0 dflt).str.size < 9223372036854775808))
    (spec_OpsText_L0_0 m n x0 (T.s (((x1.str ++ (⟨#[32]⟩ : ByteArray)) ++ (⟨#[45]⟩ : ByteArray)) ++ (((x0.rows.getD (Int.toNat x2.int) []).drop 1).getD 0 dflt).str)) (T.i (IntKind.i64.wrap (x2.int + 1))) k0 k1)
    (.bad))
    (.bad))
    (.bad))
    (cond (decide (0 ≤ x2.int ∧ x2.int < (x0.rows.length : Int)))
    (cond (decide ((x1.str ++ (⟨#[32]⟩ : ByteArray)).size + (((x0.rows.getD (Int.toNat x2.int) []).drop 1).getD 0 dflt).str.size < 9223372036854775808))
    (cond (decide (((x1.str ++ (⟨#[32]⟩ : ByteArray)) ++ (((x0.rows.getD (Int.toNat x2.int) []).drop 1).getD 0 dflt).str).size + (⟨#[63]⟩ : ByteArray).size < 9223372036854775808))
    (cond (decide (0 ≤ x2.int ∧ x2.int < (x0.rows.length : Int)))
    (cond (decide ((((x1.str ++ (⟨#[32]⟩ : ByteArray)) ++ (((x0.rows.getD (Int.toNat x2.int) []).drop 1).getD 0 dflt).str) ++ (⟨#[63]⟩ : ByteArray)).size + (((x0.rows.getD (Int.toNat x2.int) []).drop 2).getD 0 dflt).str.size < 9223372036854775808))
    (spec_OpsText_L0_0 m n x0 (T.s ((((x1.str ++ (⟨#[32]⟩ : ByteArray)) ++ (((x0.rows.getD (Int.toNat x2.int) []).drop 1).getD 0 dflt).str) ++ (⟨#[63]⟩ : ByteArray)) ++ (((x0.rows.getD (Int.toNat x2.int) []).drop 2).getD 0 dflt).str)) (T.i (IntKind.i64.wrap (x2.int + 1))) k0 k1)
    (.bad))
    (.bad))
    (.bad))
    (.bad))
    (.bad))))
    (.bad))))
    (.bad))
    (.bad))
    (cond (decide (0 ≤ x2.int ∧ x2.int < (x0.rows.length : Int)))
    (spec_l18Plain m (((x0.rows.getD (Int.toNat x2.int) []).drop 2).getD 0 dflt)
    (fun y2 => cond (!y2.bool)
    (k0 (T.s (⟨#[]⟩ : ByteArray)))
    (cond (decide (0 ≤ x2.int ∧ x2.int < (x0.rows.length : Int)))
    (cond (((x0.rows.getD (Int.toNat x2.int) []).getD 0 dflt).int == 1)
    (cond (decide (0 ≤ x2.int ∧ x2.int < (x0.rows.length : Int)))
    (cond (decide (x1.str.size + (((x0.rows.getD (Int.toNat x2.int) []).drop 1).getD 0 dflt).str.size < 9223372036854775808))
    (cond (decide ((x1.str ++ (((x0.rows.getD (Int.toNat x2.int) []).drop 1).getD 0 dflt).str).size + (⟨#[61]⟩ : ByteArray).size < 9223372036854775808))
    (cond (decide (0 ≤ x2.int ∧ x2.int < (x0.rows.length : Int)))
    (cond (decide (((x1.str ++ (((x0.rows.getD (Int.toNat x2.int) []).drop 1).getD 0 dflt).str) ++ (⟨#[61]⟩ : ByteArray)).size + (((x0.rows.getD (Int.toNat x2.int) []).drop 2).getD 0 dflt).str.size < 9223372036854775808))
    (spec_OpsText_L0_0 m n x0 (T.s (((x1.str ++ (((x0.rows.getD (Int.toNat x2.int) []).drop 1).getD 0 dflt).str) ++ (⟨#[61]⟩ : ByteArray)) ++ (((x0.rows.getD (Int.toNat x2.int) []).drop 2).getD 0 dflt).str)) (T.i (IntKind.i64.wrap (x2.int + 1))) k0 k1)
    (.bad))
    (.bad))
    (.bad))
    (.bad))
    (.bad))
    (cond (((x0.rows.getD (Int.toNat x2.int) []).getD 0 dflt).int == 2)
    (cond (decide (x1.str.size + (⟨#[45]⟩ : ByteArray).size < 9223372036854775808))
    (cond (decide (0 ≤ x2.int ∧ x2.int < (x0.rows.length : Int)))
    (cond (decide ((x1.str ++ (⟨#[45]⟩ : ByteArray)).size + (((x0.rows.getD (Int.toNat x2.int) []).drop 1).getD 0 dflt).str.size < 9223372036854775808))
    (spec_OpsText_L0_0 m n x0 (T.s ((x1.str ++ (⟨#[45]⟩ : ByteArray)) ++ (((x0.rows.getD (Int.toNat x2.int) []).drop 1).getD 0 dflt).str)) (T.i (IntKind.i64.wrap (x2.int + 1))) k0 k1)
    (.bad))
    (.bad))
    (.bad))
    (cond (decide (0 ≤ x2.int ∧ x2.int < (x0.rows.length : Int)))
    (cond (decide (x1.str.size + (((x0.rows.getD (Int.toNat x2.int) []).drop 1).getD 0 dflt).str.size < 9223372036854775808))
    (cond (decide ((x1.str ++ (((x0.rows.getD (Int.toNat x2.int) []).drop 1).getD 0 dflt).str).size + (⟨#[63]⟩ : ByteArray).size < 9223372036854775808))
    (cond (decide (0 ≤ x2.int ∧ x2.int < (x0.rows.length : Int)))
    (cond (decide (((x1.str ++ (((x0.rows.getD (Int.toNat x2.int) []).drop 1).getD 0 dflt).str) ++ (⟨#[63]⟩ : ByteArray)).size + (((x0.rows.getD (Int.toNat x2.int) []).drop 2).getD 0 dflt).str.size < 9223372036854775808))
    (spec_OpsText_L0_0 m n x0 (T.s (((x1.str ++ (((x0.rows.getD (Int.toNat x2.int) []).drop 1).getD 0 dflt).str) ++ (⟨#[63]⟩ : ByteArray)) ++ (((x0.rows.getD (Int.toNat x2.int) []).drop 2).getD 0 dflt).str)) (T.i (IntKind.i64.wrap (x2.int + 1))) k0 k1)
    (.bad))
    (.bad))
    (.bad))
    (.bad))
    (.bad))))
    (.bad))))
    (.bad)))
    (k1 x1)
noncomputable def spec_OpsText_s0_0 : Pack := ⟨[(0, .one ⟨.sn [], .sl [.sc (.int .i64), .sc (.str), .sc (.str)], .l []⟩), (3, .one ⟨.sc, .sc (.str), .l []⟩), (4, .one ⟨.sc, .sc (.int .i64), .l []⟩)], []⟩
noncomputable def spec_OpsText_e0_0 : Pack := ⟨[(2, .one ⟨.sc, .sc (.str), .l []⟩)], []⟩
noncomputable def spec_OpsText_e0_1 : Pack := ⟨[(3, .one ⟨.sc, .sc (.str), .l []⟩)], []⟩
noncomputable def spec_OpsText_L0_0w (m n : Nat) (vs : List T) (k : Ctl → Pack → An) : An := spec_OpsText_L0_0 m n (vs.headD dflt) (vs.tail.headD dflt) (vs.tail.tail.headD dflt) (fun z0 => k .ret (fPack spec_OpsText_e0_0 [z0])) (fun z0 => k (.exit 0) (fPack spec_OpsText_e0_1 [z0]))
noncomputable def spec_OpsText : Nat → T → (T → An) → An
  | 0, _, _ => .bad
  | m + 1, x0, k0 =>
    spec_OpsOk m (T.l x0.rows)
    (fun y0 => cond (!y0.bool)
    (k0 (T.s (⟨#[]⟩ : ByteArray)))
    (spec_OpsText_L0_0 m m (T.l x0.rows) (T.s (⟨#[]⟩ : ByteArray)) (T.i 0)
    (fun y3 => k0 y3)
    (fun y4 => k0 y4)))
noncomputable def spec_OpsText_a : List Arg := [.one (.fz [.sc (.int .i64), .sc (.str), .sc (.str)] [])]
noncomputable def spec_OpsText_w (m : Nat) (vs : List T) (k : Ret → An) : An := spec_OpsText m (vs.headD dflt) (fun z0 => k ⟨[.one (.sc (.str) z0)], [[none]]⟩)
theorem spec_OpsText_cf (m : Nat) : callK CX prims m = (patC 41 spec_OpsOk_a (spec_OpsOk_w m) (patC 42 spec_l18Plain_a (spec_l18Plain_w m) (callK CX prims m))) := by
  rw [← patC_eq (fun vs k => spec_l18Plain_eq m vs k), ← patC_eq (fun vs k => spec_OpsOk_eq m vs k)]
noncomputable def spec_OpsText_c : Code := (Try.f17.body).getD .skip
noncomputable def spec_OpsText_fi : Fi := ⟨17, 1, 72, 4⟩
theorem spec_OpsText_lf (m : Nat) : ∀ n, (∀ vs k, loopK CX (callK CX prims m) spec_OpsText_fi spec_OpsText_c n [0, 1, 0, 1, 1, 1] (fPack spec_OpsText_s0_0 vs) k = spec_OpsText_L0_0w m n vs k) ∧ ((loopK CX (callK CX prims m) spec_OpsText_fi spec_OpsText_c n) = (patL [0, 1, 0, 1, 1, 1] spec_OpsText_s0_0 (spec_OpsText_L0_0w m n) (loopK CX (callK CX prims m) spec_OpsText_fi spec_OpsText_c n))) := by
  intro n
  have hl : ∀ n, (∀ vs k, loopK CX (callK CX prims m) spec_OpsText_fi spec_OpsText_c n [0, 1, 0, 1, 1, 1] (fPack spec_OpsText_s0_0 vs) k = spec_OpsText_L0_0w m n vs k) → ((loopK CX (callK CX prims m) spec_OpsText_fi spec_OpsText_c n) = (patL [0, 1, 0, 1, 1, 1] spec_OpsText_s0_0 (spec_OpsText_L0_0w m n) (loopK CX (callK CX prims m) spec_OpsText_fi spec_OpsText_c n))) := by
    intro n h0
    rw [← patL_eq h0]
  induction n with
  | zero => exact ⟨fun vs k => rfl, hl 0 (fun vs k => rfl)⟩
  | succ n ihn =>
    have hn := ihn.2
    have h0 : ∀ vs k, loopK CX (callK CX prims m) spec_OpsText_fi spec_OpsText_c (n + 1) [0, 1, 0, 1, 1, 1] (fPack spec_OpsText_s0_0 vs) k = spec_OpsText_L0_0w m (n + 1) vs k := fun vs k =>
      (stepL_congr (spec_OpsText_cf m) hn [0, 1, 0, 1, 1, 1] _ _).trans (by kernel_rfl)
    exact ⟨h0, hl (n + 1) h0⟩
theorem spec_OpsText_eq (m : Nat) : ∀ vs k, callK CX prims m 17 (fArgs spec_OpsText_a vs) k = spec_OpsText_w m vs k := by
  cases m with
  | zero => exact fun vs k => rfl
  | succ m => exact fun vs k => Eq.trans (b := bodyK CX (callK CX prims m) (loopK CX (callK CX prims m) spec_OpsText_fi spec_OpsText_c m) 17 Try.f17 spec_OpsText_c (fArgs spec_OpsText_a vs) k) (by kernel_rfl) ((bodyK_congr (spec_OpsText_cf m) ((spec_OpsText_lf m m).2) 17 Try.f17 spec_OpsText_c (fArgs spec_OpsText_a vs) k).trans (by kernel_rfl))

/-! loop.example/g00244/impl.inRange -/
noncomputable def impl_inRange : Nat → T → T → T → (T → An) → An
  | 0, _, _, _, _ => .bad
  | m + 1, x0, x1, x2, k0 =>
    cond ((decide (x0.int ≥ x1.int)) == true)
    (k0 (T.b (decide (x0.int ≤ x2.int))))
    (k0 (T.b false))
noncomputable def impl_inRange_a : List Arg := [.one (.sc (.int .i64) (.l [])), .one (.sc (.int .i64) (.l [])), .one (.sc (.int .i64) (.l []))]
noncomputable def impl_inRange_w (m : Nat) (vs : List T) (k : Ret → An) : An := impl_inRange m (vs.headD dflt) (vs.tail.headD dflt) (vs.tail.tail.headD dflt) (fun z0 => k ⟨[.one (.sc (.bool) z0)], [[none], [none], [none]]⟩)
theorem impl_inRange_cf (m : Nat) : callK CX prims m = (callK CX prims m) := by
  rfl
noncomputable def impl_inRange_c : Code := (Try.f54.body).getD .skip
noncomputable def impl_inRange_fi : Fi := ⟨54, 3, 15, 64⟩
theorem impl_inRange_eq (m : Nat) : ∀ vs k, callK CX prims m 54 (fArgs impl_inRange_a vs) k = impl_inRange_w m vs k := by
  cases m with
  | zero => exact fun vs k => rfl
  | succ m => exact fun vs k => Eq.trans (b := bodyK CX (callK CX prims m) (loopK CX (callK CX prims m) impl_inRange_fi impl_inRange_c m) 54 Try.f54 impl_inRange_c (fArgs impl_inRange_a vs) k) (by kernel_rfl) ((bodyK_congr (impl_inRange_cf m) rfl 54 Try.f54 impl_inRange_c (fArgs impl_inRange_a vs) k).trans (by kernel_rfl))

/-! loop.example/g00244/impl.isKeyByte -/
noncomputable def impl_isKeyByte : Nat → T → (T → An) → An
  | 0, _, _ => .bad
  | m + 1, x0, k0 =>
    cond ((decide (x0.int ≥ 97)) == true)
    (cond ((decide (x0.int ≤ 122)) == false)
    (cond ((decide (x0.int ≥ 48)) == true)
    (k0 (T.b (decide (x0.int ≤ 57))))
    (k0 (T.b false)))
    (k0 (T.b true)))
    (cond ((decide (x0.int ≥ 48)) == true)
    (k0 (T.b (decide (x0.int ≤ 57))))
    (k0 (T.b false)))
noncomputable def impl_isKeyByte_a : List Arg := [.one (.sc (.int .u8) (.l []))]
noncomputable def impl_isKeyByte_w (m : Nat) (vs : List T) (k : Ret → An) : An := impl_isKeyByte m (vs.headD dflt) (fun z0 => k ⟨[.one (.sc (.bool) z0)], [[none]]⟩)
theorem impl_isKeyByte_cf (m : Nat) : callK CX prims m = (callK CX prims m) := by
  rfl
noncomputable def impl_isKeyByte_c : Code := (Try.f67.body).getD .skip
noncomputable def impl_isKeyByte_fi : Fi := ⟨67, 1, 17, 4⟩
theorem impl_isKeyByte_eq (m : Nat) : ∀ vs k, callK CX prims m 67 (fArgs impl_isKeyByte_a vs) k = impl_isKeyByte_w m vs k := by
  cases m with
  | zero => exact fun vs k => rfl
  | succ m => exact fun vs k => Eq.trans (b := bodyK CX (callK CX prims m) (loopK CX (callK CX prims m) impl_isKeyByte_fi impl_isKeyByte_c m) 67 Try.f67 impl_isKeyByte_c (fArgs impl_isKeyByte_a vs) k) (by kernel_rfl) ((bodyK_congr (impl_isKeyByte_cf m) rfl 67 Try.f67 impl_isKeyByte_c (fArgs impl_isKeyByte_a vs) k).trans (by kernel_rfl))

/-! loop.example/g00244/impl.isWord -/
noncomputable def impl_isWord_L0_0 (m : Nat) : Nat → T → T → (T → An) → An → An
  | 0, _, _, _, _ => .bad
  | n + 1, x0, x1, k0, k1 =>
    cond (decide (x1.int < (x0.str.size : Int)))
    (cond (decide (0 ≤ x1.int ∧ x1.int < (x0.str.size : Int)))
    (impl_isKeyByte m (T.i ((x0.str.data.toList.getD (Int.toNat x1.int) 0).toNat : Int))
    (fun y0 => cond (!y0.bool)
    (k0 (T.b false))
    (impl_isWord_L0_0 m n x0 (T.i (IntKind.i64.wrap (x1.int + 1))) k0 k1)))
    (.bad))
    (k1 )
noncomputable def impl_isWord_s0_0 : Pack := ⟨[(0, .one ⟨.sc, .sc (.str), .l []⟩), (3, .one ⟨.sc, .sc (.int .i64), .l []⟩)], []⟩
noncomputable def impl_isWord_e0_0 : Pack := ⟨[(2, .one ⟨.sc, .sc (.bool), .l []⟩)], []⟩
noncomputable def impl_isWord_e0_1 : Pack := ⟨[], []⟩
noncomputable def impl_isWord_L0_0w (m n : Nat) (vs : List T) (k : Ctl → Pack → An) : An := impl_isWord_L0_0 m n (vs.headD dflt) (vs.tail.headD dflt) (fun z0 => k .ret (fPack impl_isWord_e0_0 [z0])) (k (.exit 0) (fPack impl_isWord_e0_1 []))
noncomputable def impl_isWord : Nat → T → (T → An) → An
  | 0, _, _ => .bad
  | m + 1, x0, k0 =>
    impl_isWord_L0_0 m m x0 (T.i 0)
    (fun y1 => k0 y1)
    (k0 (T.b true))
noncomputable def impl_isWord_a : List Arg := [.one (.sc (.str) (.l []))]
noncomputable def impl_isWord_w (m : Nat) (vs : List T) (k : Ret → An) : An := impl_isWord m (vs.headD dflt) (fun z0 => k ⟨[.one (.sc (.bool) z0)], [[none]]⟩)
theorem impl_isWord_cf (m : Nat) : callK CX prims m = (patC 67 impl_isKeyByte_a (impl_isKeyByte_w m) (callK CX prims m)) := by
  rw [← patC_eq (fun vs k => impl_isKeyByte_eq m vs k)]
noncomputable def impl_isWord_c : Code := (Try.f45.body).getD .skip
noncomputable def impl_isWord_fi : Fi := ⟨45, 1, 15, 4⟩
theorem impl_isWord_lf (m : Nat) : ∀ n, (∀ vs k, loopK CX (callK CX prims m) impl_isWord_fi impl_isWord_c n [0, 1, 0, 1] (fPack impl_isWord_s0_0 vs) k = impl_isWord_L0_0w m n vs k) ∧ ((loopK CX (callK CX prims m) impl_isWord_fi impl_isWord_c n) = (patL [0, 1, 0, 1] impl_isWord_s0_0 (impl_isWord_L0_0w m n) (loopK CX (callK CX prims m) impl_isWord_fi impl_isWord_c n))) := by
  intro n
  have hl : ∀ n, (∀ vs k, loopK CX (callK CX prims m) impl_isWord_fi impl_isWord_c n [0, 1, 0, 1] (fPack impl_isWord_s0_0 vs) k = impl_isWord_L0_0w m n vs k) → ((loopK CX (callK CX prims m) impl_isWord_fi impl_isWord_c n) = (patL [0, 1, 0, 1] impl_isWord_s0_0 (impl_isWord_L0_0w m n) (loopK CX (callK CX prims m) impl_isWord_fi impl_isWord_c n))) := by
    intro n h0
    rw [← patL_eq h0]
  induction n with
  | zero => exact ⟨fun vs k => rfl, hl 0 (fun vs k => rfl)⟩
  | succ n ihn =>
    have hn := ihn.2
    have h0 : ∀ vs k, loopK CX (callK CX prims m) impl_isWord_fi impl_isWord_c (n + 1) [0, 1, 0, 1] (fPack impl_isWord_s0_0 vs) k = impl_isWord_L0_0w m (n + 1) vs k := fun vs k =>
      (stepL_congr (impl_isWord_cf m) hn [0, 1, 0, 1] _ _).trans (by kernel_rfl)
    exact ⟨h0, hl (n + 1) h0⟩
theorem impl_isWord_eq (m : Nat) : ∀ vs k, callK CX prims m 45 (fArgs impl_isWord_a vs) k = impl_isWord_w m vs k := by
  cases m with
  | zero => exact fun vs k => rfl
  | succ m => exact fun vs k => Eq.trans (b := bodyK CX (callK CX prims m) (loopK CX (callK CX prims m) impl_isWord_fi impl_isWord_c m) 45 Try.f45 impl_isWord_c (fArgs impl_isWord_a vs) k) (by kernel_rfl) ((bodyK_congr (impl_isWord_cf m) ((impl_isWord_lf m m).2) 45 Try.f45 impl_isWord_c (fArgs impl_isWord_a vs) k).trans (by kernel_rfl))

/-! loop.example/g00244/impl.KeyOk -/
noncomputable def impl_KeyOk : Nat → T → (T → An) → An
  | 0, _, _ => .bad
  | m + 1, x0, k0 =>
    impl_inRange m (T.i (x0.str.size : Int)) (T.i 1) (T.i 12)
    (fun y0 => cond (y0.bool == true)
    (impl_isWord m x0
    (fun y1 => k0 y1))
    (k0 (T.b false)))
noncomputable def impl_KeyOk_a : List Arg := [.one (.sc (.str) (.l []))]
noncomputable def impl_KeyOk_w (m : Nat) (vs : List T) (k : Ret → An) : An := impl_KeyOk m (vs.headD dflt) (fun z0 => k ⟨[.one (.sc (.bool) z0)], [[none]]⟩)
theorem impl_KeyOk_cf (m : Nat) : callK CX prims m = (patC 54 impl_inRange_a (impl_inRange_w m) (patC 45 impl_isWord_a (impl_isWord_w m) (callK CX prims m))) := by
  rw [← patC_eq (fun vs k => impl_isWord_eq m vs k), ← patC_eq (fun vs k => impl_inRange_eq m vs k)]
noncomputable def impl_KeyOk_c : Code := (Try.f88.body).getD .skip
noncomputable def impl_KeyOk_fi : Fi := ⟨88, 1, 10, 4⟩
theorem impl_KeyOk_eq (m : Nat) : ∀ vs k, callK CX prims m 88 (fArgs impl_KeyOk_a vs) k = impl_KeyOk_w m vs k := by
  cases m with
  | zero => exact fun vs k => rfl
  | succ m => exact fun vs k => Eq.trans (b := bodyK CX (callK CX prims m) (loopK CX (callK CX prims m) impl_KeyOk_fi impl_KeyOk_c m) 88 Try.f88 impl_KeyOk_c (fArgs impl_KeyOk_a vs) k) (by kernel_rfl) ((bodyK_congr (impl_KeyOk_cf m) rfl 88 Try.f88 impl_KeyOk_c (fArgs impl_KeyOk_a vs) k).trans (by kernel_rfl))

/-! loop.example/g00244/impl.opOk -/
noncomputable def impl_opOk : Nat → T → T → T → (T → An) → An
  | 0, _, _, _, _ => .bad
  | m + 1, x0, x1, x2, k0 =>
    cond (x0.int == 1)
    (cond (x0.int == 1)
    (impl_KeyOk m x1
    (fun y0 => cond (y0.bool == true)
    (k0 (T.b (decide ((x2.str.size : Int) ≤ 20))))
    (k0 (T.b false))))
    (cond (x0.int == 2)
    (impl_KeyOk m x1
    (fun y1 => cond (y1.bool == true)
    (k0 (T.b (x2.str.toList == (⟨#[]⟩ : ByteArray).toList)))
    (k0 (T.b false))))
    (k0 (T.b false))))
    (cond (x0.int == 3)
    (impl_KeyOk m x1
    (fun y2 => cond (y2.bool == true)
    (k0 (T.b (decide ((x2.str.size : Int) ≤ 20))))
    (k0 (T.b false))))
    (cond (x0.int == 2)
    (impl_KeyOk m x1
    (fun y3 => cond (y3.bool == true)
    (k0 (T.b (x2.str.toList == (⟨#[]⟩ : ByteArray).toList)))
    (k0 (T.b false))))
    (k0 (T.b false))))
noncomputable def impl_opOk_a : List Arg := [.agg [.sc (.int .i64) (.l []), .sc (.str) (.l []), .sc (.str) (.l [])]]
noncomputable def impl_opOk_w (m : Nat) (vs : List T) (k : Ret → An) : An := impl_opOk m (vs.headD dflt) (vs.tail.headD dflt) (vs.tail.tail.headD dflt) (fun z0 => k ⟨[.one (.sc (.bool) z0)], [[none, none, none]]⟩)
theorem impl_opOk_cf (m : Nat) : callK CX prims m = (patC 88 impl_KeyOk_a (impl_KeyOk_w m) (callK CX prims m)) := by
  rw [← patC_eq (fun vs k => impl_KeyOk_eq m vs k)]
noncomputable def impl_opOk_c : Code := (Try.f66.body).getD .skip
noncomputable def impl_opOk_fi : Fi := ⟨66, 1, 27, 4⟩
theorem impl_opOk_eq (m : Nat) : ∀ vs k, callK CX prims m 66 (fArgs impl_opOk_a vs) k = impl_opOk_w m vs k := by
  cases m with
  | zero => exact fun vs k => rfl
  | succ m => exact fun vs k => Eq.trans (b := bodyK CX (callK CX prims m) (loopK CX (callK CX prims m) impl_opOk_fi impl_opOk_c m) 66 Try.f66 impl_opOk_c (fArgs impl_opOk_a vs) k) (by kernel_rfl) ((bodyK_congr (impl_opOk_cf m) rfl 66 Try.f66 impl_opOk_c (fArgs impl_opOk_a vs) k).trans (by kernel_rfl))

/-! loop.example/g00244/impl.OpsOk -/
noncomputable def impl_OpsOk_L0_0 (m : Nat) : Nat → T → T → T → T → (T → An) → (T → An) → An
  | 0, _, _, _, _, _, _ => .bad
  | n + 1, x0, x1, x2, x3, k0, k1 =>
    cond (decide (x3.int < x2.int))
    (cond (decide (0 ≤ x3.int ∧ x3.int < (x1.rows.length : Int)))
    (impl_opOk m ((x1.rows.getD (Int.toNat x3.int) []).getD 0 dflt) ((x1.rows.getD (Int.toNat x3.int) []).getD 1 dflt) ((x1.rows.getD (Int.toNat x3.int) []).getD 2 dflt)
    (fun y0 => cond ((!y0.bool) == false)
    (cond ((decide (x3.int > 0)) == true)
    (cond (decide (0 ≤ (IntKind.i64.wrap (x3.int - 1)) ∧ (IntKind.i64.wrap (x3.int - 1)) < (x0.rows.length : Int)))
    (cond ((Op.bytesLess ((x1.rows.getD (Int.toNat x3.int) []).getD 1 dflt).str.toList (((x0.rows.getD (Int.toNat (IntKind.i64.wrap (x3.int - 1))) []).drop 1).getD 0 dflt).str.toList) || (((x1.rows.getD (Int.toNat x3.int) []).getD 1 dflt).str.toList == (((x0.rows.getD (Int.toNat (IntKind.i64.wrap (x3.int - 1))) []).drop 1).getD 0 dflt).str.toList))
    (k0 (T.b false))
    (impl_OpsOk_L0_0 m n x0 x1 x2 (T.i (IntKind.i64.wrap (x3.int + 1))) k0 k1))
    (.bad))
    (impl_OpsOk_L0_0 m n x0 x1 x2 (T.i (IntKind.i64.wrap (x3.int + 1))) k0 k1))
    (k0 (T.b false))))
    (.bad))
    (k1 x0)
noncomputable def impl_OpsOk_s0_0 : Pack := ⟨[(0, .one ⟨.sn [], .sl [.sc (.int .i64), .sc (.str), .sc (.str)], .l []⟩), (5, .one ⟨.sn [], .sl [.sc (.int .i64), .sc (.str), .sc (.str)], .l []⟩), (6, .one ⟨.sc, .sc (.int .i64), .l []⟩), (7, .one ⟨.sc, .sc (.int .i64), .l []⟩)], []⟩
noncomputable def impl_OpsOk_e0_0 : Pack := ⟨[(2, .one ⟨.sc, .sc (.bool), .l []⟩)], []⟩
noncomputable def impl_OpsOk_e0_1 : Pack := ⟨[(0, .one ⟨.sn [], .sl [.sc (.int .i64), .sc (.str), .sc (.str)], .l []⟩)], []⟩
noncomputable def impl_OpsOk_L0_0w (m n : Nat) (vs : List T) (k : Ctl → Pack → An) : An := impl_OpsOk_L0_0 m n (vs.headD dflt) (vs.tail.headD dflt) (vs.tail.tail.headD dflt) (vs.tail.tail.tail.headD dflt) (fun z0 => k .ret (fPack impl_OpsOk_e0_0 [z0])) (fun z0 => k (.exit 0) (fPack impl_OpsOk_e0_1 [z0]))
noncomputable def impl_OpsOk : Nat → T → (T → An) → An
  | 0, _, _ => .bad
  | m + 1, x0, k0 =>
    impl_OpsOk_L0_0 m m (T.l x0.rows) (T.l x0.rows) (T.i (x0.rows.length : Int)) (T.i 0)
    (fun y1 => k0 y1)
    (fun y2 => impl_inRange m (T.i (y2.rows.length : Int)) (T.i 1) (T.i 8)
    (fun y3 => k0 y3))
noncomputable def impl_OpsOk_a : List Arg := [.one (.fz [.sc (.int .i64), .sc (.str), .sc (.str)] [])]
noncomputable def impl_OpsOk_w (m : Nat) (vs : List T) (k : Ret → An) : An := impl_OpsOk m (vs.headD dflt) (fun z0 => k ⟨[.one (.sc (.bool) z0)], [[none]]⟩)
theorem impl_OpsOk_cf (m : Nat) : callK CX prims m = (patC 66 impl_opOk_a (impl_opOk_w m) (patC 54 impl_inRange_a (impl_inRange_w m) (callK CX prims m))) := by
  rw [← patC_eq (fun vs k => impl_inRange_eq m vs k), ← patC_eq (fun vs k => impl_opOk_eq m vs k)]
noncomputable def impl_OpsOk_c : Code := (Try.f44.body).getD .skip
noncomputable def impl_OpsOk_fi : Fi := ⟨44, 1, 34, 4⟩
theorem impl_OpsOk_lf (m : Nat) : ∀ n, (∀ vs k, loopK CX (callK CX prims m) impl_OpsOk_fi impl_OpsOk_c n [0, 1, 0, 1] (fPack impl_OpsOk_s0_0 vs) k = impl_OpsOk_L0_0w m n vs k) ∧ ((loopK CX (callK CX prims m) impl_OpsOk_fi impl_OpsOk_c n) = (patL [0, 1, 0, 1] impl_OpsOk_s0_0 (impl_OpsOk_L0_0w m n) (loopK CX (callK CX prims m) impl_OpsOk_fi impl_OpsOk_c n))) := by
  intro n
  have hl : ∀ n, (∀ vs k, loopK CX (callK CX prims m) impl_OpsOk_fi impl_OpsOk_c n [0, 1, 0, 1] (fPack impl_OpsOk_s0_0 vs) k = impl_OpsOk_L0_0w m n vs k) → ((loopK CX (callK CX prims m) impl_OpsOk_fi impl_OpsOk_c n) = (patL [0, 1, 0, 1] impl_OpsOk_s0_0 (impl_OpsOk_L0_0w m n) (loopK CX (callK CX prims m) impl_OpsOk_fi impl_OpsOk_c n))) := by
    intro n h0
    rw [← patL_eq h0]
  induction n with
  | zero => exact ⟨fun vs k => rfl, hl 0 (fun vs k => rfl)⟩
  | succ n ihn =>
    have hn := ihn.2
    have h0 : ∀ vs k, loopK CX (callK CX prims m) impl_OpsOk_fi impl_OpsOk_c (n + 1) [0, 1, 0, 1] (fPack impl_OpsOk_s0_0 vs) k = impl_OpsOk_L0_0w m (n + 1) vs k := fun vs k =>
      (stepL_congr (impl_OpsOk_cf m) hn [0, 1, 0, 1] _ _).trans (by kernel_rfl)
    exact ⟨h0, hl (n + 1) h0⟩
theorem impl_OpsOk_eq (m : Nat) : ∀ vs k, callK CX prims m 44 (fArgs impl_OpsOk_a vs) k = impl_OpsOk_w m vs k := by
  cases m with
  | zero => exact fun vs k => rfl
  | succ m => exact fun vs k => Eq.trans (b := bodyK CX (callK CX prims m) (loopK CX (callK CX prims m) impl_OpsOk_fi impl_OpsOk_c m) 44 Try.f44 impl_OpsOk_c (fArgs impl_OpsOk_a vs) k) (by kernel_rfl) ((bodyK_congr (impl_OpsOk_cf m) ((impl_OpsOk_lf m m).2) 44 Try.f44 impl_OpsOk_c (fArgs impl_OpsOk_a vs) k).trans (by kernel_rfl))

/-! loop.example/g00244/impl.OpsText -/
noncomputable def impl_OpsText_L0_0 (m : Nat) : Nat → T → T → T → T → (T → An) → (T → An) → An
  | 0, _, _, _, _, _, _ => .bad
  | n + 1, x0, x1, x2, x3, k0, k1 =>
    cond (decide (x2.int < x1.int))
    (cond (decide (0 ≤ x2.int ∧ x2.int < (x0.rows.length : Int)))
    (impl_isWord m ((x0.rows.getD (Int.toNat x2.int) []).getD 2 dflt)
    (fun y1 => cond (!y1.bool)
    (k0 (T.s (⟨#[]⟩ : ByteArray)))
    (cond (((x0.rows.getD (Int.toNat x2.int) []).getD 0 dflt).int == 1)
    (cond (decide (((x0.rows.getD (Int.toNat x2.int) []).getD 1 dflt).str.size + (⟨#[61]⟩ : ByteArray).size < 9223372036854775808))
    (cond (decide ((((x0.rows.getD (Int.toNat x2.int) []).getD 1 dflt).str ++ (⟨#[61]⟩ : ByteArray)).size + ((x0.rows.getD (Int.toNat x2.int) []).getD 2 dflt).str.size < 9223372036854775808))
    (cond (decide ((x3.rows.length + 1) * 1 ≤ maxRow))
    (impl_OpsText_L0_0 m n x0 x1 (T.i (IntKind.i64.wrap (x2.int + 1))) (T.l (x3.rows ++ [[(T.s ((((x0.rows.getD (Int.toNat x2.int) []).getD 1 dflt).str ++ (⟨#[61]⟩ : ByteArray)) ++ ((x0.rows.getD (Int.toNat x2.int) []).getD 2 dflt).str))]])) k0 k1)
    (.bad))
    (.bad))
    (.bad))
    (cond (((x0.rows.getD (Int.toNat x2.int) []).getD 0 dflt).int == 2)
    (cond (decide ((⟨#[45]⟩ : ByteArray).size + ((x0.rows.getD (Int.toNat x2.int) []).getD 1 dflt).str.size < 9223372036854775808))
    (cond (decide ((x3.rows.length + 1) * 1 ≤ maxRow))
    (impl_OpsText_L0_0 m n x0 x1 (T.i (IntKind.i64.wrap (x2.int + 1))) (T.l (x3.rows ++ [[(T.s ((⟨#[45]⟩ : ByteArray) ++ ((x0.rows.getD (Int.toNat x2.int) []).getD 1 dflt).str))]])) k0 k1)
    (.bad))
    (.bad))
    (cond (decide (((x0.rows.getD (Int.toNat x2.int) []).getD 1 dflt).str.size + (⟨#[63]⟩ : ByteArray).size < 9223372036854775808))
    (cond (decide ((((x0.rows.getD (Int.toNat x2.int) []).getD 1 dflt).str ++ (⟨#[63]⟩ : ByteArray)).size + ((x0.rows.getD (Int.toNat x2.int) []).getD 2 dflt).str.size < 9223372036854775808))
    (cond (decide ((x3.rows.length + 1) * 1 ≤ maxRow))
    (impl_OpsText_L0_0 m n x0 x1 (T.i (IntKind.i64.wrap (x2.int + 1))) (T.l (x3.rows ++ [[(T.s ((((x0.rows.getD (Int.toNat x2.int) []).getD 1 dflt).str ++ (⟨#[63]⟩ : ByteArray)) ++ ((x0.rows.getD (Int.toNat x2.int) []).getD 2 dflt).str))]])) k0 k1)
    (.bad))
    (.bad))
    (.bad))))))
    (.bad))
    (k1 (T.l x3.rows))
noncomputable def impl_OpsText_s0_0 : Pack := ⟨[(3, .one ⟨.al [1000000, 0] 0, .sl [.sc (.str)], .l []⟩), (9, .one ⟨.sn [], .sl [.sc (.int .i64), .sc (.str), .sc (.str)], .l []⟩), (10, .one ⟨.sc, .sc (.int .i64), .l []⟩), (11, .one ⟨.sc, .sc (.int .i64), .l []⟩)], [([1000000, 0], .row [.sc (.str)] [.F] [])]⟩
noncomputable def impl_OpsText_e0_0 : Pack := ⟨[(2, .one ⟨.sc, .sc (.str), .l []⟩)], []⟩
noncomputable def impl_OpsText_e0_1 : Pack := ⟨[(3, .one ⟨.al [1000000, 0] 0, .sl [.sc (.str)], .l []⟩)], [([1000000, 0], .row [.sc (.str)] [.F] [])]⟩
noncomputable def impl_OpsText_L0_0w (m n : Nat) (vs : List T) (k : Ctl → Pack → An) : An := impl_OpsText_L0_0 m n (vs.headD dflt) (vs.tail.headD dflt) (vs.tail.tail.headD dflt) (vs.tail.tail.tail.headD dflt) (fun z0 => k .ret (fPack impl_OpsText_e0_0 [z0])) (fun z0 => k (.exit 0) (fPack impl_OpsText_e0_1 [z0]))
noncomputable def impl_OpsText : Nat → T → (T → An) → An
  | 0, _, _ => .bad
  | m + 1, x0, k0 =>
    impl_OpsOk m (T.l x0.rows)
    (fun y0 => cond (!y0.bool)
    (k0 (T.s (⟨#[]⟩ : ByteArray)))
    (impl_OpsText_L0_0 m m (T.l x0.rows) (T.i (x0.rows.length : Int)) (T.i 0) (T.l [])
    (fun y2 => k0 y2)
    (fun y3 => strings_Join m (T.l y3.rows) (T.s (⟨#[32]⟩ : ByteArray))
    (fun y4 => k0 y4))))
noncomputable def impl_OpsText_a : List Arg := [.one (.fz [.sc (.int .i64), .sc (.str), .sc (.str)] [])]
noncomputable def impl_OpsText_w (m : Nat) (vs : List T) (k : Ret → An) : An := impl_OpsText m (vs.headD dflt) (fun z0 => k ⟨[.one (.sc (.str) z0)], [[none]]⟩)
theorem impl_OpsText_cf (m : Nat) : callK CX prims m = (patC 44 impl_OpsOk_a (impl_OpsOk_w m) (patC 45 impl_isWord_a (impl_isWord_w m) (patC 36 strings_Join_a (strings_Join_w m) (callK CX prims m)))) := by
  rw [← patC_eq (fun vs k => strings_Join_eq m vs k), ← patC_eq (fun vs k => impl_isWord_eq m vs k), ← patC_eq (fun vs k => impl_OpsOk_eq m vs k)]
noncomputable def impl_OpsText_c : Code := (Try.f19.body).getD .skip
noncomputable def impl_OpsText_fi : Fi := ⟨19, 1, 52, 4⟩
theorem impl_OpsText_lf (m : Nat) : ∀ n, (∀ vs k, loopK CX (callK CX prims m) impl_OpsText_fi impl_OpsText_c n [0, 1, 0, 1, 1, 1] (fPack impl_OpsText_s0_0 vs) k = impl_OpsText_L0_0w m n vs k) ∧ ((loopK CX (callK CX prims m) impl_OpsText_fi impl_OpsText_c n) = (patL [0, 1, 0, 1, 1, 1] impl_OpsText_s0_0 (impl_OpsText_L0_0w m n) (loopK CX (callK CX prims m) impl_OpsText_fi impl_OpsText_c n))) := by
  intro n
  have hl : ∀ n, (∀ vs k, loopK CX (callK CX prims m) impl_OpsText_fi impl_OpsText_c n [0, 1, 0, 1, 1, 1] (fPack impl_OpsText_s0_0 vs) k = impl_OpsText_L0_0w m n vs k) → ((loopK CX (callK CX prims m) impl_OpsText_fi impl_OpsText_c n) = (patL [0, 1, 0, 1, 1, 1] impl_OpsText_s0_0 (impl_OpsText_L0_0w m n) (loopK CX (callK CX prims m) impl_OpsText_fi impl_OpsText_c n))) := by
    intro n h0
    rw [← patL_eq h0]
  induction n with
  | zero => exact ⟨fun vs k => rfl, hl 0 (fun vs k => rfl)⟩
  | succ n ihn =>
    have hn := ihn.2
    have h0 : ∀ vs k, loopK CX (callK CX prims m) impl_OpsText_fi impl_OpsText_c (n + 1) [0, 1, 0, 1, 1, 1] (fPack impl_OpsText_s0_0 vs) k = impl_OpsText_L0_0w m (n + 1) vs k := fun vs k =>
      (stepL_congr (impl_OpsText_cf m) hn [0, 1, 0, 1, 1, 1] _ _).trans (by kernel_rfl)
    exact ⟨h0, hl (n + 1) h0⟩
theorem impl_OpsText_eq (m : Nat) : ∀ vs k, callK CX prims m 19 (fArgs impl_OpsText_a vs) k = impl_OpsText_w m vs k := by
  cases m with
  | zero => exact fun vs k => rfl
  | succ m => exact fun vs k => Eq.trans (b := bodyK CX (callK CX prims m) (loopK CX (callK CX prims m) impl_OpsText_fi impl_OpsText_c m) 19 Try.f19 impl_OpsText_c (fArgs impl_OpsText_a vs) k) (by kernel_rfl) ((bodyK_congr (impl_OpsText_cf m) ((impl_OpsText_lf m m).2) 19 Try.f19 impl_OpsText_c (fArgs impl_OpsText_a vs) k).trans (by kernel_rfl))

/-! loop.example/g00244/laws.eqOp -/
noncomputable def laws_eqOp : Nat → T → T → T → T → T → T → (T → An) → An
  | 0, _, _, _, _, _, _, _ => .bad
  | m + 1, x0, x1, x2, x3, x4, x5, k0 =>
    cond (x0.int != x3.int)
    (k0 (T.b false))
    (cond (!(x1.str.toList == x4.str.toList))
    (k0 (T.b false))
    (cond (!(x2.str.toList == x5.str.toList))
    (k0 (T.b false))
    (k0 (T.b true))))
noncomputable def laws_eqOp_a : List Arg := [.agg [.sc (.int .i64) (.l []), .sc (.str) (.l []), .sc (.str) (.l [])], .agg [.sc (.int .i64) (.l []), .sc (.str) (.l []), .sc (.str) (.l [])]]
noncomputable def laws_eqOp_w (m : Nat) (vs : List T) (k : Ret → An) : An := laws_eqOp m (vs.headD dflt) (vs.tail.headD dflt) (vs.tail.tail.headD dflt) (vs.tail.tail.tail.headD dflt) (vs.tail.tail.tail.tail.headD dflt) (vs.tail.tail.tail.tail.tail.headD dflt) (fun z0 => k ⟨[.one (.sc (.bool) z0)], [[none, none, none], [none, none, none]]⟩)
theorem laws_eqOp_cf (m : Nat) : callK CX prims m = (callK CX prims m) := by
  rfl
noncomputable def laws_eqOp_c : Code := (Try.f46.body).getD .skip
noncomputable def laws_eqOp_fi : Fi := ⟨46, 2, 20, 16⟩
theorem laws_eqOp_eq (m : Nat) : ∀ vs k, callK CX prims m 46 (fArgs laws_eqOp_a vs) k = laws_eqOp_w m vs k := by
  cases m with
  | zero => exact fun vs k => rfl
  | succ m => exact fun vs k => Eq.trans (b := bodyK CX (callK CX prims m) (loopK CX (callK CX prims m) laws_eqOp_fi laws_eqOp_c m) 46 Try.f46 laws_eqOp_c (fArgs laws_eqOp_a vs) k) (by kernel_rfl) ((bodyK_congr (laws_eqOp_cf m) rfl 46 Try.f46 laws_eqOp_c (fArgs laws_eqOp_a vs) k).trans (by kernel_rfl))

/-! loop.example/g00244/laws.eqOpS -/
noncomputable def laws_eqOpS_L0_0 (m : Nat) : Nat → T → T → T → (T → An) → An → An
  | 0, _, _, _, _, _ => .bad
  | n + 1, x0, x1, x2, k0, k1 =>
    cond (decide (x2.int < (x0.rows.length : Int)))
    (cond (decide (0 ≤ x2.int ∧ x2.int < (x0.rows.length : Int)))
    (cond (decide (0 ≤ x2.int ∧ x2.int < (x1.rows.length : Int)))
    (laws_eqOp m ((x0.rows.getD (Int.toNat x2.int) []).getD 0 dflt) ((x0.rows.getD (Int.toNat x2.int) []).getD 1 dflt) ((x0.rows.getD (Int.toNat x2.int) []).getD 2 dflt) ((x1.rows.getD (Int.toNat x2.int) []).getD 0 dflt) ((x1.rows.getD (Int.toNat x2.int) []).getD 1 dflt) ((x1.rows.getD (Int.toNat x2.int) []).getD 2 dflt)
    (fun y0 => cond (!y0.bool)
    (k0 (T.b false))
    (laws_eqOpS_L0_0 m n x0 x1 (T.i (IntKind.i64.wrap (x2.int + 1))) k0 k1)))
    (.bad))
    (.bad))
    (k1 )
noncomputable def laws_eqOpS_s0_0 : Pack := ⟨[(0, .one ⟨.sn [], .sl [.sc (.int .i64), .sc (.str), .sc (.str)], .l []⟩), (1, .one ⟨.sn [], .sl [.sc (.int .i64), .sc (.str), .sc (.str)], .l []⟩), (5, .one ⟨.sc, .sc (.int .i64), .l []⟩)], []⟩
noncomputable def laws_eqOpS_e0_0 : Pack := ⟨[(4, .one ⟨.sc, .sc (.bool), .l []⟩)], []⟩
noncomputable def laws_eqOpS_e0_1 : Pack := ⟨[], []⟩
noncomputable def laws_eqOpS_L0_0w (m n : Nat) (vs : List T) (k : Ctl → Pack → An) : An := laws_eqOpS_L0_0 m n (vs.headD dflt) (vs.tail.headD dflt) (vs.tail.tail.headD dflt) (fun z0 => k .ret (fPack laws_eqOpS_e0_0 [z0])) (k (.exit 0) (fPack laws_eqOpS_e0_1 []))
noncomputable def laws_eqOpS : Nat → T → T → (T → An) → An
  | 0, _, _, _ => .bad
  | m + 1, x0, x1, k0 =>
    cond ((x0.rows.length : Int) != (x1.rows.length : Int))
    (k0 (T.b false))
    (laws_eqOpS_L0_0 m m (T.l x0.rows) (T.l x1.rows) (T.i 0)
    (fun y1 => k0 y1)
    (k0 (T.b true)))
noncomputable def laws_eqOpS_a : List Arg := [.one (.fz [.sc (.int .i64), .sc (.str), .sc (.str)] []), .one (.fz [.sc (.int .i64), .sc (.str), .sc (.str)] [])]
noncomputable def laws_eqOpS_w (m : Nat) (vs : List T) (k : Ret → An) : An := laws_eqOpS m (vs.headD dflt) (vs.tail.headD dflt) (fun z0 => k ⟨[.one (.sc (.bool) z0)], [[none], [none]]⟩)
theorem laws_eqOpS_cf (m : Nat) : callK CX prims m = (patC 46 laws_eqOp_a (laws_eqOp_w m) (callK CX prims m)) := by
  rw [← patC_eq (fun vs k => laws_eqOp_eq m vs k)]
noncomputable def laws_eqOpS_c : Code := (Try.f20.body).getD .skip
noncomputable def laws_eqOpS_fi : Fi := ⟨20, 2, 27, 16⟩
theorem laws_eqOpS_lf (m : Nat) : ∀ n, (∀ vs k, loopK CX (callK CX prims m) laws_eqOpS_fi laws_eqOpS_c n [0, 1, 0, 1, 1] (fPack laws_eqOpS_s0_0 vs) k = laws_eqOpS_L0_0w m n vs k) ∧ ((loopK CX (callK CX prims m) laws_eqOpS_fi laws_eqOpS_c n) = (patL [0, 1, 0, 1, 1] laws_eqOpS_s0_0 (laws_eqOpS_L0_0w m n) (loopK CX (callK CX prims m) laws_eqOpS_fi laws_eqOpS_c n))) := by
  intro n
  have hl : ∀ n, (∀ vs k, loopK CX (callK CX prims m) laws_eqOpS_fi laws_eqOpS_c n [0, 1, 0, 1, 1] (fPack laws_eqOpS_s0_0 vs) k = laws_eqOpS_L0_0w m n vs k) → ((loopK CX (callK CX prims m) laws_eqOpS_fi laws_eqOpS_c n) = (patL [0, 1, 0, 1, 1] laws_eqOpS_s0_0 (laws_eqOpS_L0_0w m n) (loopK CX (callK CX prims m) laws_eqOpS_fi laws_eqOpS_c n))) := by
    intro n h0
    rw [← patL_eq h0]
  induction n with
  | zero => exact ⟨fun vs k => rfl, hl 0 (fun vs k => rfl)⟩
  | succ n ihn =>
    have hn := ihn.2
    have h0 : ∀ vs k, loopK CX (callK CX prims m) laws_eqOpS_fi laws_eqOpS_c (n + 1) [0, 1, 0, 1, 1] (fPack laws_eqOpS_s0_0 vs) k = laws_eqOpS_L0_0w m (n + 1) vs k := fun vs k =>
      (stepL_congr (laws_eqOpS_cf m) hn [0, 1, 0, 1, 1] _ _).trans (by kernel_rfl)
    exact ⟨h0, hl (n + 1) h0⟩
theorem laws_eqOpS_eq (m : Nat) : ∀ vs k, callK CX prims m 20 (fArgs laws_eqOpS_a vs) k = laws_eqOpS_w m vs k := by
  cases m with
  | zero => exact fun vs k => rfl
  | succ m => exact fun vs k => Eq.trans (b := bodyK CX (callK CX prims m) (loopK CX (callK CX prims m) laws_eqOpS_fi laws_eqOpS_c m) 20 Try.f20 laws_eqOpS_c (fArgs laws_eqOpS_a vs) k) (by kernel_rfl) ((bodyK_congr (laws_eqOpS_cf m) ((laws_eqOpS_lf m m).2) 20 Try.f20 laws_eqOpS_c (fArgs laws_eqOpS_a vs) k).trans (by kernel_rfl))

/-! loop.example/g00244/laws.FnExactOpsText -/
noncomputable def laws_FnExactOpsText : Nat → T → (T → An) → An
  | 0, _, _ => .bad
  | m + 1, x0, k0 =>
    laws_szOpS m (T.l x0.rows) (T.i 1048576)
    (fun y0 => cond (decide (y0.int < 0))
    (k0 (T.b true))
    (laws_toOpS m (T.l x0.rows)
    (fun y1 => spec_OpsText m (T.l y1.rows)
    (fun y2 => laws_toOpS m (T.l x0.rows)
    (fun y3 => impl_OpsText m (T.l y3.rows)
    (fun y4 => cond (!(y4.str.toList == y2.str.toList))
    (k0 (T.b false))
    (laws_toOpS m (T.l x0.rows)
    (fun y5 => laws_eqOpS m (T.l y3.rows) (T.l y5.rows)
    (fun y6 => cond (!y6.bool)
    (k0 (T.b false))
    (k0 (T.b true)))))))))))
noncomputable def laws_FnExactOpsText_a : List Arg := [.one (.fz [.sc (.int .i64), .sc (.str), .sc (.str)] [])]
noncomputable def laws_FnExactOpsText_w (m : Nat) (vs : List T) (k : Ret → An) : An := laws_FnExactOpsText m (vs.headD dflt) (fun z0 => k ⟨[.one (.sc (.bool) z0)], [[none]]⟩)
theorem laws_FnExactOpsText_cf (m : Nat) : callK CX prims m = (patC 16 laws_szOpS_a (laws_szOpS_w m) (patC 18 laws_toOpS_a (laws_toOpS_w m) (patC 17 spec_OpsText_a (spec_OpsText_w m) (patC 19 impl_OpsText_a (impl_OpsText_w m) (patC 20 laws_eqOpS_a (laws_eqOpS_w m) (callK CX prims m)))))) := by
  rw [← patC_eq (fun vs k => laws_eqOpS_eq m vs k), ← patC_eq (fun vs k => impl_OpsText_eq m vs k), ← patC_eq (fun vs k => spec_OpsText_eq m vs k), ← patC_eq (fun vs k => laws_toOpS_eq m vs k), ← patC_eq (fun vs k => laws_szOpS_eq m vs k)]
noncomputable def laws_FnExactOpsText_c : Code := (Try.f5.body).getD .skip
noncomputable def laws_FnExactOpsText_fi : Fi := ⟨5, 1, 27, 4⟩
theorem laws_FnExactOpsText_eq (m : Nat) : ∀ vs k, callK CX prims m 5 (fArgs laws_FnExactOpsText_a vs) k = laws_FnExactOpsText_w m vs k := by
  cases m with
  | zero => exact fun vs k => rfl
  | succ m => exact fun vs k => Eq.trans (b := bodyK CX (callK CX prims m) (loopK CX (callK CX prims m) laws_FnExactOpsText_fi laws_FnExactOpsText_c m) 5 Try.f5 laws_FnExactOpsText_c (fArgs laws_FnExactOpsText_a vs) k) (by kernel_rfl) ((bodyK_congr (laws_FnExactOpsText_cf m) rfl 5 Try.f5 laws_FnExactOpsText_c (fArgs laws_FnExactOpsText_a vs) k).trans (by kernel_rfl))

end Go.Proofs.Ytkocbeamfmfgiaa

namespace Go.Proofs.Ytkocbeamfmfgiaa
open Go Go.E Go.Proofs
abbrev BA := ByteArray
/-! pairs -/
def rP (p : BA × BA) : List T := [.s p.1, .s p.2]
def szP (p : BA × BA) : Nat := p.1.size + p.2.size
def szPs (ps : List (BA × BA)) : Nat := ps.length + (ps.map szP).sum
theorem le_sum {n : Nat} : ∀ {l : List Nat}, n ∈ l → n ≤ l.sum
  | a :: l, h => by
    rw [List.sum_cons]
    rcases List.mem_cons.1 h with rfl | h
    · omega
    · have := le_sum h; omega
theorem szPair_ok {m : Nat} (hm : 1 ≤ m) (a b : BA) (l : Int) (h : (a.size : Int) + b.size ≤ l) (hl : l ≤ 1048576) (k : T → An) :
    laws_szPair m (.s a) (.s b) (.i l) k = k (.i (l - (a.size + b.size : Nat))) := by
  obtain ⟨m, rfl⟩ : ∃ m', m = m' + 1 := ⟨m - 1, by omega⟩
  have w1 : IntKind.i64.wrap (l - (a.size : Int)) = l - a.size := wrap_i64 (by omega) (by omega)
  have w2 : IntKind.i64.wrap (l - (a.size : Int) - b.size) = l - a.size - b.size := wrap_i64 (by omega) (by omega)
  simp only [laws_szPair, T.int_i, T.str_s, w1, w2]
  rw [dec_f (by omega), dec_f (by omega)]
  congr 2; omega
theorem szPairS_loop (m : Nat) (hm : 1 ≤ m) : ∀ (post pre : List (BA × BA)) (l : Int), ((post.map szP).sum : Int) ≤ l → l ≤ 1048576 → pre.length + post.length ≤ 1048576 →
    ∀ n, post.length < n → ∀ k0 k1, laws_szPairS_L0_0 m n (.l ((pre ++ post).map rP)) (.i l) (.i pre.length) k0 k1 = k1 (.i (l - (post.map szP).sum))
  | [], pre, l, h, hl, hs, n, hn, k0, k1 => by
    obtain ⟨n, rfl⟩ : ∃ m', n = m' + 1 := ⟨n - 1, by omega⟩
    simp only [laws_szPairS_L0_0, T.int_i, T.rows_l]
    rw [dec_f (by simp)]
    simp
  | x :: post, pre, l, h, hl, hs, n, hn, k0, k1 => by
    obtain ⟨n, rfl⟩ : ∃ m', n = m' + 1 := ⟨n - 1, by omega⟩
    simp only [List.map_cons, List.sum_cons, List.length_cons] at h hs hn ⊢
    simp only [laws_szPairS_L0_0, T.int_i, T.rows_l, ix_get, ix_next pre x (by omega)]
    rw [dec_t (by simp; omega), dec_t (by simp; omega)]
    have e : szP x = x.1.size + x.2.size := rfl
    simp only [rP, List.getD_cons_zero, List.getD_cons_succ]
    rw [szPair_ok hm _ _ _ (by omega) hl, T.int_i, dec_f (by omega)]
    have := szPairS_loop m hm post (pre ++ [x]) (l - (x.1.size + x.2.size : Nat)) (by omega) (by omega) (by simp; omega) n (by omega) k0 k1
    rw [List.append_assoc] at this
    rw [show pre ++ x :: post = pre ++ ([x] ++ post) from rfl]
    refine this.trans ?_
    congr 2; omega
theorem szPairS_ok {m : Nat} (ps : List (BA × BA)) (h : szPs ps ≤ 1048576) (hm : ps.length + 2 ≤ m) (k : T → An) :
    ∃ r : Int, 0 ≤ r ∧ laws_szPairS m (.l (ps.map rP)) (.i 1048576) k = k (.i r) := by
  obtain ⟨m, rfl⟩ : ∃ m', m = m' + 1 := ⟨m - 1, by omega⟩
  unfold szPs at h
  have w1 : IntKind.i64.wrap (1048576 - (ps.length : Int)) = 1048576 - (ps.length : Int) := wrap_i64 (by omega) (by omega)
  refine ⟨1048576 - ps.length - (ps.map szP).sum, by omega, ?_⟩
  simp only [laws_szPairS, T.int_i, T.rows_l, List.length_map, w1]
  rw [dec_f (by omega)]
  exact szPairS_loop m (by omega) ps [] _ (by omega) (by omega) (by simp; omega) m (by omega) _ _
theorem eqPair_ok {m : Nat} (hm : 1 ≤ m) (a b : BA) (k : T → An) : laws_eqPair m (.s a) (.s b) (.s a) (.s b) k = k (.b true) := by
  obtain ⟨m, rfl⟩ : ∃ m', m = m' + 1 := ⟨m - 1, by omega⟩
  simp only [laws_eqPair, T.str_s, beq_toList_self, Bool.not_true, cond_false]
theorem eqPairS_loop (m : Nat) (hm : 1 ≤ m) : ∀ (post pre : List (BA × BA)), pre.length + post.length ≤ 1048576 →
    ∀ n, post.length < n → ∀ k0 k1, laws_eqPairS_L0_0 m n (.l ((pre ++ post).map rP)) (.l ((pre ++ post).map rP)) (.i pre.length) k0 k1 = k1
  | [], pre, hs, n, hn, k0, k1 => by
    obtain ⟨n, rfl⟩ : ∃ m', n = m' + 1 := ⟨n - 1, by omega⟩
    simp only [laws_eqPairS_L0_0, T.int_i, T.rows_l]
    rw [dec_f (by simp)]
  | x :: post, pre, hs, n, hn, k0, k1 => by
    obtain ⟨n, rfl⟩ : ∃ m', n = m' + 1 := ⟨n - 1, by omega⟩
    simp only [List.length_cons] at hs hn ⊢
    simp only [laws_eqPairS_L0_0, T.int_i, T.rows_l, ix_get, ix_next pre x (by omega)]
    rw [dec_t (by simp; omega), dec_t (by simp; omega), dec_t (by simp; omega)]
    simp only [rP, List.getD_cons_zero, List.getD_cons_succ]
    rw [eqPair_ok hm]
    have := eqPairS_loop m hm post (pre ++ [x]) (by simp; omega) n (by omega) k0 k1
    rw [List.append_assoc] at this
    exact this
theorem eqPairS_ok {m : Nat} (ps : List (BA × BA)) (h : ps.length ≤ 1048576) (hm : ps.length + 2 ≤ m) (k : T → An) : laws_eqPairS m (.l (ps.map rP)) (.l (ps.map rP)) k = k (.b true) := by
  obtain ⟨m, rfl⟩ : ∃ m', m = m' + 1 := ⟨m - 1, by omega⟩
  simp only [laws_eqPairS, T.int_i, T.rows_l, bne_self_eq_false, cond_false]
  exact eqPairS_loop m (by omega) ps [] (by simpa using h) m (by omega) _ _
theorem toPair_ok {m : Nat} (hm : 1 ≤ m) (a b : T) (k : T → T → An) : laws_toPair m a b k = k a b := by
  obtain ⟨m, rfl⟩ : ∃ m', m = m' + 1 := ⟨m - 1, by omega⟩
  simp only [laws_toPair]
theorem toPairS_loop (m : Nat) (hm : 1 ≤ m) : ∀ (post pre : List (BA × BA)) (z : List (List T)), z.length = post.length → (∀ r ∈ z, r.length = 2) → pre.length + post.length ≤ 1048576 →
    ∀ n, post.length < n → ∀ k0, laws_toPairS_L0_0 m n (.l ((pre ++ post).map rP)) (.i pre.length) (.l (pre.map rP ++ z)) k0 = k0 (.l ((pre ++ post).map rP))
  | [], pre, z, hz, hz2, hs, n, hn, k0 => by
    obtain ⟨n, rfl⟩ : ∃ m', n = m' + 1 := ⟨n - 1, by omega⟩
    obtain rfl : z = [] := List.eq_nil_of_length_eq_zero hz
    simp only [laws_toPairS_L0_0, T.int_i, T.rows_l]
    rw [dec_f (by simp)]
    simp
  | x :: post, pre, z, hz, hz2, hs, n, hn, k0 => by
    obtain ⟨n, rfl⟩ : ∃ m', n = m' + 1 := ⟨n - 1, by omega⟩
    simp only [List.length_cons] at hs hn hz ⊢
    match z, hz, hz2 with
    | r :: z, hz, hz2 =>
    simp only [List.length_cons] at hz
    match r, hz2 r (by simp) with
    | [c, d], _ =>
    simp only [laws_toPairS_L0_0, T.int_i, T.rows_l, ix_get, ix_next pre x (by omega), ix_get2 rP (pre.map rP) pre.length (by simp)]
    rw [dec_t (by simp; omega), dec_t (by simp; omega)]
    simp only [rP, List.getD_cons_zero, List.getD_cons_succ]
    rw [toPair_ok hm, dec_t (by simp; omega), dec_t (by simp)]
    have := toPairS_loop m hm post (pre ++ [x]) z (by omega) (fun r hr => hz2 r (by simp [hr])) (by simp; omega) n (by omega) k0
    rw [List.append_assoc] at this
    refine Eq.trans ?_ this
    congr 2
    simp [rP, List.set_append]
theorem toPairS_ok {m : Nat} (ps : List (BA × BA)) (h : ps.length ≤ 1048576) (hm : ps.length + 2 ≤ m) (k : T → An) : laws_toPairS m (.l (ps.map rP)) k = k (.l (ps.map rP)) := by
  obtain ⟨m, rfl⟩ : ∃ m', m = m' + 1 := ⟨m - 1, by omega⟩
  simp only [laws_toPairS, T.int_i, T.rows_l, List.length_map]
  rw [dec_t (by omega), dec_t (by unfold maxCells; omega)]
  exact toPairS_loop m (by omega) ps [] (List.replicate _ _) (by simp) (fun r hr => by rw [List.eq_of_mem_replicate hr]; rfl) (by simpa using h) m (by omega) _
/-! the two texts -/
def eqW : BA := ⟨#[61]⟩
def spW : BA := ⟨#[32]⟩
def wordOf (p : BA × BA) : BA := p.1 ++ eqW ++ p.2
def joined : List BA → BA
  | [] => ⟨#[]⟩
  | [x] => x
  | x :: y :: r => x ++ spW ++ joined (y :: r)
theorem implPairsText_loop (m : Nat) : ∀ (post pre : List (BA × BA)), pre.length + post.length ≤ 1048576 → (∀ p ∈ post, szP p ≤ 1048576) →
    ∀ n, post.length < n → ∀ k0, impl_PairsText_L0_0 m n (.l ((pre ++ post).map rP)) (.i (pre ++ post).length) (.i pre.length) (.l (pre.map fun p => [T.s (wordOf p)])) k0 = k0 (.l ((pre ++ post).map fun p => [T.s (wordOf p)]))
  | [], pre, hs, hz, n, hn, k0 => by
    obtain ⟨n, rfl⟩ : ∃ m', n = m' + 1 := ⟨n - 1, by omega⟩
    simp only [impl_PairsText_L0_0, T.int_i, T.rows_l]
    rw [dec_f (by simp)]
    simp
  | x :: post, pre, hs, hz, n, hn, k0 => by
    obtain ⟨n, rfl⟩ : ∃ m', n = m' + 1 := ⟨n - 1, by omega⟩
    simp only [List.length_cons] at hs hn ⊢
    have h1 := hz x (by simp)
    unfold szP at h1
    simp only [impl_PairsText_L0_0, T.int_i, T.rows_l, ix_get, ix_next pre x (by omega)]
    have e1 : (⟨#[61]⟩ : BA).size = 1 := rfl
    simp only [rP, List.getD_cons_zero, List.getD_cons_succ, T.str_s, ba_app_size, e1]
    rw [dec_t (by simp; omega), dec_t (by simp; omega), dec_t (by omega), dec_t (by omega), dec_t (by simp [maxRow]; omega)]
    have := implPairsText_loop m post (pre ++ [x]) (by simp; omega) (fun p hp => hz p (by simp [hp])) n (by omega) k0
    rw [List.append_assoc] at this
    refine Eq.trans ?_ this
    congr 2
    simp [wordOf, eqW]
/-- what spec's loop has behind some pairs -/
def specAcc (acc : BA) (i : Nat) : List (BA × BA) → BA
  | [] => acc
  | p :: r => specAcc ((if i = 0 then acc else acc ++ spW) ++ p.1 ++ eqW ++ p.2) (i + 1) r
theorem specPairsText_loop (m : Nat) : ∀ (post pre : List (BA × BA)) (acc : BA), pre.length + post.length ≤ 1048576 → acc.size + 2 * post.length + (post.map szP).sum ≤ 4194304 →
    ∀ n, post.length < n → ∀ k0, spec_PairsText_L0_0 m n (.l ((pre ++ post).map rP)) (.s acc) (.i pre.length) k0 = k0 (.s (specAcc acc pre.length post))
  | [], pre, acc, hs, hz, n, hn, k0 => by
    obtain ⟨n, rfl⟩ : ∃ m', n = m' + 1 := ⟨n - 1, by omega⟩
    simp only [spec_PairsText_L0_0, T.int_i, T.rows_l]
    rw [dec_f (by simp)]
    simp [specAcc]
  | x :: post, pre, acc, hs, hz, n, hn, k0 => by
    obtain ⟨n, rfl⟩ : ∃ m', n = m' + 1 := ⟨n - 1, by omega⟩
    simp only [List.length_cons, List.map_cons, List.sum_cons, szP] at hs hn hz ⊢
    simp only [spec_PairsText_L0_0, T.int_i, T.rows_l, ix_get, ix_next pre x (by omega), specAcc]
    have e1 : (⟨#[61]⟩ : BA) = eqW := rfl
    have e2 : (⟨#[32]⟩ : BA) = spW := rfl
    have s1 : eqW.size = 1 := rfl
    have s2 : spW.size = 1 := rfl
    simp only [rP, List.getD_cons_zero, List.getD_cons_succ, T.str_s, ba_app_size, e1, e2, s1, s2, List.drop_succ_cons, List.drop_zero]
    rw [dec_t (by simp; omega)]
    by_cases h0 : pre.length = 0
    · rw [dec_f (by omega), dec_t (by simp; omega), dec_t (by omega), dec_t (by omega), dec_t (by simp; omega), dec_t (by omega), if_pos h0]
      have := specPairsText_loop m post (pre ++ [x]) (acc ++ x.1 ++ eqW ++ x.2) (by simp; omega) (by simp [s1]; omega) n (by omega) k0
      rw [List.append_assoc] at this
      simpa using this
    · rw [dec_t (by omega), dec_t (by omega), dec_t (by simp; omega), dec_t (by omega), dec_t (by omega), dec_t (by simp; omega), dec_t (by omega), if_neg h0]
      have := specPairsText_loop m post (pre ++ [x]) (acc ++ spW ++ x.1 ++ eqW ++ x.2) (by simp; omega) (by simp [s1, s2]; omega) n (by omega) k0
      rw [List.append_assoc] at this
      simpa using this
theorem joinB_cons (x : BA) (r : List BA) (d : BA) : (joinB ((x :: r).map fun x => [T.s x]) (.s d)).data.toList = x.data.toList ++ Lib.joinTail d.data.toList (r.map (·.data.toList)) := by
  unfold joinB
  simp only [List.map_cons, List.map_map, List.getD_cons_zero, T.str_s, Lib.join_cons]
  rfl
theorem specAcc_tail : ∀ (r : List (BA × BA)) (acc : BA) (i : Nat), 0 < i → (specAcc acc i r).data.toList = acc.data.toList ++ Lib.joinTail spW.data.toList (r.map fun p => (wordOf p).data.toList)
  | [], acc, i, h => by simp [specAcc, Lib.joinTail]
  | p :: r, acc, i, h => by
    rw [specAcc, specAcc_tail r _ (i + 1) (by omega), if_neg (by omega)]
    simp [Lib.joinTail, wordOf]
theorem texts_eq (ps : List (BA × BA)) (h : ps ≠ []) : joinB (ps.map fun p => [T.s (wordOf p)]) (.s spW) = specAcc ⟨#[]⟩ 0 ps := by
  match ps, h with
  | p :: r, _ =>
    apply ba_ext
    have e : ((p :: r).map fun p => [T.s (wordOf p)]) = ((wordOf p :: r.map wordOf).map fun x => [T.s x]) := by simp
    rw [e, joinB_cons, specAcc, specAcc_tail _ _ 1 (by omega), if_pos rfl]
    have e2 : (fun p : BA × BA => (wordOf p).data.toList) = fun p => p.1.data.toList ++ (eqW.data.toList ++ p.2.data.toList) := by funext p; simp [wordOf]
    simp only [List.map_map, Lib.joinTail, Function.comp_def, e2]
    simp [wordOf]
theorem specAcc_size : ∀ (r : List (BA × BA)) (acc : BA) (i : Nat), (specAcc acc i r).size ≤ acc.size + 2 * r.length + (r.map szP).sum
  | [], acc, i => by simp [specAcc]
  | p :: r, acc, i => by
    have h1 := specAcc_size r ((if i = 0 then acc else acc ++ spW) ++ p.1 ++ eqW ++ p.2) (i + 1)
    have s1 : eqW.size = 1 := rfl
    have s2 : spW.size = 1 := rfl
    have e : szP p = p.1.size + p.2.size := rfl
    rw [specAcc, List.length_cons, List.map_cons, List.sum_cons]
    by_cases hi : i = 0
    · rw [if_pos hi] at h1 ⊢
      simp only [ba_app_size, s1] at h1
      omega
    · rw [if_neg hi] at h1 ⊢
      simp only [ba_app_size, s1, s2] at h1
      omega
theorem specPairsText_ok {m : Nat} (ps : List (BA × BA)) (h : szPs ps ≤ 1048576) (h0 : ps ≠ []) (hm : ps.length + 2 ≤ m) (k : T → An) : spec_PairsText m (.l (ps.map rP)) k = k (.s (specAcc ⟨#[]⟩ 0 ps)) := by
  obtain ⟨m, rfl⟩ : ∃ m', m = m' + 1 := ⟨m - 1, by omega⟩
  unfold szPs at h
  have hl : 0 < ps.length := List.length_pos_iff.2 h0
  simp only [spec_PairsText, T.rows_l, List.length_map]
  rw [show (((ps.length : Nat) : Int) == 0) = false from by simp [List.length_eq_zero_iff, h0], cond_false]
  exact specPairsText_loop m ps [] ⟨#[]⟩ (by simp; omega) (by have e : (⟨#[]⟩ : BA).size = 0 := rfl
                                                              omega) m (by omega) _
theorem implPairsText_ok {m : Nat} (ps : List (BA × BA)) (h : szPs ps ≤ 1048576) (h0 : ps ≠ []) (hm : ps.length + 2 ≤ m) (k : T → An) : impl_PairsText m (.l (ps.map rP)) k = k (.s (specAcc ⟨#[]⟩ 0 ps)) := by
  obtain ⟨m, rfl⟩ : ∃ m', m = m' + 1 := ⟨m - 1, by omega⟩
  unfold szPs at h
  simp only [impl_PairsText, T.rows_l, List.length_map]
  rw [show (((ps.length : Nat) : Int) == 0) = false from by simp [List.length_eq_zero_iff, h0], cond_false]
  have hz : ∀ p ∈ ps, szP p ≤ 1048576 := fun p hp => by
    have := le_sum (List.mem_map_of_mem (f := szP) hp)
    omega
  refine (implPairsText_loop m ps [] (by simp; omega) hz m (by omega) _).trans ?_
  obtain ⟨m, rfl⟩ : ∃ m', m = m' + 1 := ⟨m - 1, by omega⟩
  have h1 := specAcc_size ps ⟨#[]⟩ 0
  have e : (⟨#[]⟩ : BA).size = 0 := rfl
  have e2 : (⟨#[32]⟩ : BA) = spW := rfl
  simp only [strings_Join, T.rows_l, List.nil_append, e2, texts_eq ps h0]
  rw [dec_t (by unfold maxCells; omega)]
theorem pairsText_nil {m : Nat} (hm : 1 ≤ m) (k : T → An) : impl_PairsText m (.l []) k = spec_PairsText m (.l []) k := by
  obtain ⟨m, rfl⟩ : ∃ m', m = m' + 1 := ⟨m - 1, by omega⟩
  simp [impl_PairsText, spec_PairsText]
theorem spec_nil {m : Nat} (hm : 1 ≤ m) (k : T → An) : ∃ s, spec_PairsText m (.l []) k = k (.s s) := by
  obtain ⟨m, rfl⟩ : ∃ m', m = m' + 1 := ⟨m - 1, by omega⟩
  exact ⟨_, by simp [spec_PairsText]; rfl⟩
/-- both texts are one -/
theorem pairsText_ok {m : Nat} (ps : List (BA × BA)) (h : szPs ps ≤ 1048576) (hm : ps.length + 2 ≤ m) :
    ∃ s, (∀ k, impl_PairsText m (.l (ps.map rP)) k = k (.s s)) ∧ (∀ k, spec_PairsText m (.l (ps.map rP)) k = k (.s s)) := by
  by_cases h0 : ps = []
  · subst h0
    obtain ⟨m, rfl⟩ : ∃ m', m = m' + 1 := ⟨m - 1, by omega⟩
    exact ⟨_, fun k => by simp [impl_PairsText]; rfl, fun k => by simp [spec_PairsText]⟩
  · exact ⟨_, implPairsText_ok ps h h0 hm, specPairsText_ok ps h h0 hm⟩
theorem fn_ok (ps : List (BA × BA)) (h : szPs ps ≤ 1048576) (k : T → An) : laws_FnExactPairsText (ps.length + 3) (.l (ps.map rP)) k = k (.b true) := by
  unfold szPs at h
  obtain ⟨r, hr, h1⟩ := szPairS_ok (m := ps.length + 2) ps h (Nat.le_refl _) fun y0 => cond (decide (y0.int < 0)) (k (T.b true)) (laws_toPairS (ps.length + 2) (T.l (T.l (ps.map rP)).rows) fun y1 => spec_PairsText (ps.length + 2) (T.l y1.rows) fun y2 =>
    laws_toPairS (ps.length + 2) (T.l (T.l (ps.map rP)).rows) fun y3 => impl_PairsText (ps.length + 2) (T.l y3.rows) fun y4 => cond (!(y4.str.toList == y2.str.toList)) (k (T.b false))
    (laws_toPairS (ps.length + 2) (T.l (T.l (ps.map rP)).rows) fun y5 => laws_eqPairS (ps.length + 2) (T.l y3.rows) (T.l y5.rows) fun y6 => cond (!y6.bool) (k (T.b false)) (k (T.b true))))
  refine h1.trans ?_
  obtain ⟨s, h2, h3⟩ := pairsText_ok (m := ps.length + 2) ps h (Nat.le_refl _)
  simp only [T.int_i, T.rows_l]
  rw [dec_f (by omega), toPairS_ok ps (by omega) (Nat.le_refl _), T.rows_l, h3, toPairS_ok ps (by omega) (Nat.le_refl _), T.rows_l, h2]
  simp only [T.str_s, beq_toList_self, Bool.not_true, cond_false]
  rw [toPairS_ok ps (by omega) (Nat.le_refl _), T.rows_l, eqPairS_ok ps (by omega) (Nat.le_refl _)]
  rfl
end Go.Proofs.Ytkocbeamfmfgiaa

namespace Go.Proofs.Ytkocbeamfmfgiaa
open Go Go.E Go.Proofs
/-! orders -/
structure DOp where
  kind : Int
  key : BA
  val : BA
def rO (o : DOp) : List T := [.i o.kind, .s o.key, .s o.val]
def emp : BA := ⟨#[]⟩
def isKeyB (b : UInt8) : Bool := (decide (97 ≤ b.toNat) && decide (b.toNat ≤ 122)) || (decide (48 ≤ b.toNat) && decide (b.toNat ≤ 57))
def plain (s : BA) : Bool := s.data.toList.all isKeyB
def keyOkP (s : BA) : Bool := plain s && decide (1 ≤ s.size ∧ s.size ≤ 12)
def opOkP (o : DOp) : Bool := cond (o.kind == 2) (keyOkP o.key && decide (o.val.size = 0)) (cond (o.kind == 1 || o.kind == 3) (keyOkP o.key && decide (o.val.size ≤ 20)) false)
def blt (a b : BA) : Bool := Op.bytesLess a.toList b.toList
def okFrom : BA → List DOp → Bool
  | _, [] => true
  | p, o :: r => opOkP o && (blt p o.key && okFrom o.key r)
def opsOkP : List DOp → Bool
  | [] => false
  | o :: r => opOkP o && okFrom o.key r && decide (r.length ≤ 7)
theorem ix_byte (pre : List UInt8) (x : UInt8) (post : List UInt8) : (pre ++ x :: post).getD (Int.toNat (pre.length : Int)) 0 = x := by simp [List.getD]
theorem inRange_ok {m : Nat} (hm : 1 ≤ m) (x a b : Int) (k : T → An) : impl_inRange m (.i x) (.i a) (.i b) k = k (.b (decide (a ≤ x) && decide (x ≤ b))) := by
  obtain ⟨m, rfl⟩ : ∃ m', m = m' + 1 := ⟨m - 1, by omega⟩
  simp only [impl_inRange, T.int_i, ge_iff_le]
  cases decide (a ≤ x) <;> rfl
theorem l1In_ok {m : Nat} (hm : 1 ≤ m) (x a b : Int) (k : T → An) : spec_l1In m (.i x) (.i a) (.i b) k = k (.b (decide (a ≤ x) && decide (x ≤ b))) := by
  obtain ⟨m, rfl⟩ : ∃ m', m = m' + 1 := ⟨m - 1, by omega⟩
  simp only [spec_l1In, T.int_i, ge_iff_le]
  cases decide (a ≤ x) <;> rfl
theorem isKeyByte_ok {m : Nat} (hm : 1 ≤ m) (b : UInt8) (k : T → An) : impl_isKeyByte m (.i (b.toNat : Int)) k = k (.b (isKeyB b)) := by
  obtain ⟨m, rfl⟩ : ∃ m', m = m' + 1 := ⟨m - 1, by omega⟩
  have e1 : decide ((b.toNat : Int) ≥ 97) = decide (97 ≤ b.toNat) := decide_eq_decide.2 (by omega)
  have e2 : decide ((b.toNat : Int) ≤ 122) = decide (b.toNat ≤ 122) := decide_eq_decide.2 (by omega)
  have e3 : decide ((b.toNat : Int) ≥ 48) = decide (48 ≤ b.toNat) := decide_eq_decide.2 (by omega)
  have e4 : decide ((b.toNat : Int) ≤ 57) = decide (b.toNat ≤ 57) := decide_eq_decide.2 (by omega)
  simp only [impl_isKeyByte, T.int_i, e1, e2, e3, e4, isKeyB]
  cases decide (97 ≤ b.toNat) <;> cases decide (b.toNat ≤ 122) <;> cases decide (48 ≤ b.toNat) <;> rfl
theorem isWord_loop (m : Nat) (hm : 1 ≤ m) (s : BA) (hs : s.size ≤ 4611686018427387904) : ∀ (post pre : List UInt8), s.data.toList = pre ++ post →
    ∀ n, post.length < n → ∀ k0 k1, impl_isWord_L0_0 m n (.s s) (.i pre.length) k0 k1 = cond (post.all isKeyB) k1 (k0 (.b false))
  | [], pre, e, n, hn, k0, k1 => by
    obtain ⟨n, rfl⟩ : ∃ m', n = m' + 1 := ⟨n - 1, by omega⟩
    have hz := ba_size s
    rw [e] at hz
    simp only [impl_isWord_L0_0, T.int_i, T.str_s]
    rw [dec_f (by simp at hz; omega)]
    rfl
  | x :: post, pre, e, n, hn, k0, k1 => by
    obtain ⟨n, rfl⟩ : ∃ m', n = m' + 1 := ⟨n - 1, by omega⟩
    have hz := ba_size s
    rw [e] at hz
    simp only [List.length_append, List.length_cons] at hz hn
    simp only [impl_isWord_L0_0, T.int_i, T.str_s, e, ix_byte, ix_next pre x (by omega)]
    rw [dec_t (by omega), dec_t (by omega), isKeyByte_ok hm]
    have ih := isWord_loop m hm s hs post (pre ++ [x]) (by rw [e]; simp) n (by omega) k0 k1
    cases hx : isKeyB x with
    | true => simpa [hx] using ih
    | false => simp [hx]
theorem isWord_ok {m : Nat} (s : BA) (hs : s.size ≤ 1048576) (hm : 1048580 ≤ m) (k : T → An) : impl_isWord m (.s s) k = k (.b (plain s)) := by
  obtain ⟨m, rfl⟩ : ∃ m', m = m' + 1 := ⟨m - 1, by omega⟩
  have hz := ba_size s
  refine (isWord_loop m (by omega) s (by omega) s.data.toList [] rfl m (by omega) (fun y => k y) (k (.b true))).trans ?_
  unfold plain
  cases s.data.toList.all isKeyB <;> rfl
theorem byteIn {m : Nat} (hm : 1 ≤ m) (x : UInt8) (a b : Int) (k : T → An) : spec_l1In m (.i (IntKind.i64.wrap (x.toNat : Int))) (.i a) (.i b) k = k (.b (decide (a ≤ x.toNat) && decide ((x.toNat : Int) ≤ b))) := by
  have hx := x.toNat_lt
  rw [wrap_i64 (by omega) (by omega), l1In_ok hm]
theorem keyOk_loop (m : Nat) (hm : 1 ≤ m) (s : BA) (hs : s.size ≤ 4611686018427387904) : ∀ (post pre : List UInt8), s.data.toList = pre ++ post →
    ∀ n, post.length < n → ∀ k0 k1, spec_KeyOk_L0_0 m n (.s s) (.i pre.length) k0 k1 = cond (post.all isKeyB) (k1 (.s s)) (k0 (.b false))
  | [], pre, e, n, hn, k0, k1 => by
    obtain ⟨n, rfl⟩ : ∃ m', n = m' + 1 := ⟨n - 1, by omega⟩
    have hz := ba_size s
    rw [e] at hz
    simp only [spec_KeyOk_L0_0, T.int_i, T.str_s]
    rw [dec_f (by simp at hz; omega)]
    rfl
  | x :: post, pre, e, n, hn, k0, k1 => by
    obtain ⟨n, rfl⟩ : ∃ m', n = m' + 1 := ⟨n - 1, by omega⟩
    have hz := ba_size s
    rw [e] at hz
    simp only [List.length_append, List.length_cons] at hz hn
    simp only [spec_KeyOk_L0_0, T.int_i, T.str_s, e, ix_byte, ix_next pre x (by omega)]
    rw [dec_t (by omega), dec_t (by omega), byteIn hm, byteIn hm, dec_t (by omega)]
    have ih := keyOk_loop m hm s hs post (pre ++ [x]) (by rw [e]; simp) n (by omega) k0 k1
    have e1 : decide ((97 : Int) ≤ x.toNat) = decide (97 ≤ x.toNat) := decide_eq_decide.2 (by omega)
    have e2 : decide ((x.toNat : Int) ≤ 122) = decide (x.toNat ≤ 122) := decide_eq_decide.2 (by omega)
    have e3 : decide ((48 : Int) ≤ x.toNat) = decide (48 ≤ x.toNat) := decide_eq_decide.2 (by omega)
    have e4 : decide ((x.toNat : Int) ≤ 57) = decide (x.toNat ≤ 57) := decide_eq_decide.2 (by omega)
    simp only [e1, e2, e3, e4, List.all_cons, isKeyB, T.bool_b, ih]
    cases (decide (97 ≤ x.toNat) && decide (x.toNat ≤ 122)) <;> cases (decide (48 ≤ x.toNat) && decide (x.toNat ≤ 57)) <;> rfl
theorem plain_loop (m : Nat) (hm : 1 ≤ m) (s : BA) (hs : s.size ≤ 4611686018427387904) : ∀ (post pre : List UInt8), s.data.toList = pre ++ post →
    ∀ n, post.length < n → ∀ k0 k1, spec_l18Plain_L0_0 m n (.s s) (.i pre.length) k0 k1 = cond (post.all isKeyB) (k1 (.s s)) (k0 (.b false))
  | [], pre, e, n, hn, k0, k1 => by
    obtain ⟨n, rfl⟩ : ∃ m', n = m' + 1 := ⟨n - 1, by omega⟩
    have hz := ba_size s
    rw [e] at hz
    simp only [spec_l18Plain_L0_0, T.int_i, T.str_s]
    rw [dec_f (by simp at hz; omega)]
    rfl
  | x :: post, pre, e, n, hn, k0, k1 => by
    obtain ⟨n, rfl⟩ : ∃ m', n = m' + 1 := ⟨n - 1, by omega⟩
    have hz := ba_size s
    rw [e] at hz
    simp only [List.length_append, List.length_cons] at hz hn
    simp only [spec_l18Plain_L0_0, T.int_i, T.str_s, e, ix_byte, ix_next pre x (by omega)]
    rw [dec_t (by omega), dec_t (by omega), byteIn hm, byteIn hm, dec_t (by omega)]
    have ih := plain_loop m hm s hs post (pre ++ [x]) (by rw [e]; simp) n (by omega) k0 k1
    have e1 : decide ((97 : Int) ≤ x.toNat) = decide (97 ≤ x.toNat) := decide_eq_decide.2 (by omega)
    have e2 : decide ((x.toNat : Int) ≤ 122) = decide (x.toNat ≤ 122) := decide_eq_decide.2 (by omega)
    have e3 : decide ((48 : Int) ≤ x.toNat) = decide (48 ≤ x.toNat) := decide_eq_decide.2 (by omega)
    have e4 : decide ((x.toNat : Int) ≤ 57) = decide (x.toNat ≤ 57) := decide_eq_decide.2 (by omega)
    simp only [e1, e2, e3, e4, List.all_cons, isKeyB, T.bool_b, ih]
    cases (decide (97 ≤ x.toNat) && decide (x.toNat ≤ 122)) <;> cases (decide (48 ≤ x.toNat) && decide (x.toNat ≤ 57)) <;> rfl
theorem dec_nat12 (n : Nat) : (decide ((1 : Int) ≤ n) && decide ((n : Int) ≤ 12)) = decide (1 ≤ n ∧ n ≤ 12) := by
  rw [Bool.decide_and]
  congr 1 <;> exact decide_eq_decide.2 (by omega)
theorem specKeyOk_ok {m : Nat} (s : BA) (hs : s.size ≤ 1048576) (hm : 1048580 ≤ m) (k : T → An) : spec_KeyOk m (.s s) k = k (.b (keyOkP s)) := by
  obtain ⟨m, rfl⟩ : ∃ m', m = m' + 1 := ⟨m - 1, by omega⟩
  have hz := ba_size s
  refine (keyOk_loop m (by omega) s (by omega) s.data.toList [] rfl m (by omega) _ _).trans ?_
  simp only [T.str_s, keyOkP, plain]
  rw [l1In_ok (by omega), dec_nat12]
  cases s.data.toList.all isKeyB <;> rfl
theorem implKeyOk_ok {m : Nat} (s : BA) (hs : s.size ≤ 1048576) (hm : 1048581 ≤ m) (k : T → An) : impl_KeyOk m (.s s) k = k (.b (keyOkP s)) := by
  obtain ⟨m, rfl⟩ : ∃ m', m = m' + 1 := ⟨m - 1, by omega⟩
  simp only [impl_KeyOk, T.str_s, keyOkP]
  rw [inRange_ok (by omega), dec_nat12, isWord_ok s hs (by omega)]
  cases decide (1 ≤ s.size ∧ s.size ≤ 12) <;> cases plain s <;> rfl
theorem plain_ok {m : Nat} (s : BA) (hs : s.size ≤ 1048576) (hm : 1048580 ≤ m) (k : T → An) : spec_l18Plain m (.s s) k = k (.b (plain s && decide (s.size ≤ 20))) := by
  obtain ⟨m, rfl⟩ : ∃ m', m = m' + 1 := ⟨m - 1, by omega⟩
  have hz := ba_size s
  refine (plain_loop m (by omega) s (by omega) s.data.toList [] rfl m (by omega) _ _).trans ?_
  have e : decide ((s.size : Int) ≤ 20) = decide (s.size ≤ 20) := decide_eq_decide.2 (by omega)
  simp only [T.str_s, plain, e]
  cases s.data.toList.all isKeyB <;> rfl
theorem emp_iff (s : BA) : (s.toList == (⟨#[]⟩ : BA).toList) = decide (s.size = 0) := by
  rw [Lib.toList_data, Lib.toList_data, ba_size]
  cases s.data.toList <;> simp
theorem specOp_ok {m : Nat} (o : DOp) (h1 : o.key.size ≤ 1048576) (hm : 1048581 ≤ m) (k : T → An) : spec_l7Op m (.i o.kind) (.s o.key) (.s o.val) k = k (.b (opOkP o)) := by
  obtain ⟨m, rfl⟩ : ∃ m', m = m' + 1 := ⟨m - 1, by omega⟩
  have e : decide ((o.val.size : Int) ≤ 20) = decide (o.val.size ≤ 20) := decide_eq_decide.2 (by omega)
  simp only [spec_l7Op, T.str_s, T.int_i, specKeyOk_ok (m := m) o.key h1 (by omega), e, emp_iff, T.bool_b]
  rw [l1In_ok (by omega), T.bool_b]
  unfold opOkP
  by_cases c2 : o.kind = 2
  · simp only [c2]
    cases keyOkP o.key <;> by_cases hv : o.val.size = 0 <;> simp [hv]
  · by_cases c : o.kind = 1 ∨ o.kind = 3
    · have : (1 : Int) ≤ o.kind ∧ o.kind ≤ 3 := by omega
      simp only [this.1, this.2, c2, decide_true, Bool.and_self]
      rcases c with c | c <;> cases keyOkP o.key <;> simp [c]
    · have : ((decide ((1 : Int) ≤ o.kind)) && decide (o.kind ≤ 3)) = false := by simp; omega
      have h3 : o.kind ≠ 1 ∧ o.kind ≠ 3 := by omega
      have b1 : (o.kind == 1) = false := by simp [h3.1]
      have b2 : (o.kind == 2) = false := by simp [c2]
      have b3 : (o.kind == 3) = false := by simp [h3.2]
      simp only [this, b1, b2, b3]
      rfl
theorem implOp_ok {m : Nat} (o : DOp) (h1 : o.key.size ≤ 1048576) (hm : 1048582 ≤ m) (k : T → An) : impl_opOk m (.i o.kind) (.s o.key) (.s o.val) k = k (.b (opOkP o)) := by
  obtain ⟨m, rfl⟩ : ∃ m', m = m' + 1 := ⟨m - 1, by omega⟩
  have e : decide ((o.val.size : Int) ≤ 20) = decide (o.val.size ≤ 20) := decide_eq_decide.2 (by omega)
  simp only [impl_opOk, T.str_s, T.int_i, implKeyOk_ok (m := m) o.key h1 (by omega), e, emp_iff, T.bool_b]
  unfold opOkP
  by_cases c1 : o.kind = 1
  · simp only [c1]
    cases keyOkP o.key <;> simp
  · by_cases c2 : o.kind = 2
    · simp only [c2]
      cases keyOkP o.key <;> simp
    · by_cases c3 : o.kind = 3
      · simp only [c3]
        cases keyOkP o.key <;> simp
      · have b1 : (o.kind == 1) = false := by simp [c1]
        have b2 : (o.kind == 2) = false := by simp [c2]
        have b3 : (o.kind == 3) = false := by simp [c3]
        simp only [b1, b2, b3]
        rfl
theorem blt_tot : ∀ (x y : List UInt8), Op.bytesLess x y = !(Op.bytesLess y x || (y == x))
  | [], [] => rfl
  | [], _ :: _ => rfl
  | _ :: _, [] => rfl
  | a :: x, b :: y => by
    have ih := blt_tot x y
    simp only [Op.bytesLess]
    by_cases h1 : a < b
    · have h2 : ¬ b < a := UInt8.lt_asymm h1
      have h3 : b ≠ a := fun h => by subst h; exact UInt8.lt_irrefl _ h1
      simp [h1, h2, h3]
    · by_cases h2 : b < a
      · have h3 : a ≠ b := fun h => by subst h; exact UInt8.lt_irrefl _ h2
        simp [h1, h2, h3]
      · have h3 : a = b := UInt8.le_antisymm (UInt8.not_lt.1 h2) (UInt8.not_lt.1 h1)
        subst h3
        simp [h1, ih]
end Go.Proofs.Ytkocbeamfmfgiaa

