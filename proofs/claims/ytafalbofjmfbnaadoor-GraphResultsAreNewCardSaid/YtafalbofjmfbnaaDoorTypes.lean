/-
  The types of this seat's program, as a table. No condition.
-/
import Derived.Test.YtafalbofjmfbnaaDoorProg
import Derived.Test.YtafalbofjmfbnaaDoorTypC
import Derived.KernelRfl
import Derived.Shelf.Abstract
import Derived.Tactics
import Derived.WalkKit
import Derived.Ground.NamesProg
import Derived.Shelf.Small.Strs
import Derived.Shelf.Strings.Search2
import Derived.Shelf.Strings.Count
import Derived.Shelf.Slices.Reverse
import Derived.Shelf.LaysM
import Derived.Shelf.Sort.Plain
import Derived.Shelf.Sort.AssemblysIn
import Derived.Shelf.Slices.CompactS
import Derived.Shelf.Slices.In.SortNone
/-
  The types of this seat's program, as a table. No condition.
-/
set_option linter.unusedVariables false
namespace Go.Proofs.YtafalbofjmfbnaaDoor
open Go Go.RowKit Go.Proofs.YtafalbofjmfbnaaDoor.Eng
/-- The types of this seat's program, as a table. -/
def ti1 : TI := ⟨.other, 1, 8, .nilFunc⟩
def ti2 : TI := ⟨.int .i64, 1, 8, (.int .i64 0)⟩
def ti3 : TI := ⟨.int .i64, 1, 8, (.int .i64 0)⟩
def ti4 : TI := ⟨.bool, 1, 1, (.bool false)⟩
def ti5 : TI := ⟨.int .u8, 1, 1, (.int .u8 0)⟩
def ti9 : TI := ⟨.str, 1, 16, (.string ⟨#[]⟩)⟩
def ti12 : TI := ⟨.int .u64, 1, 8, (.int .u64 0)⟩
def ti17 : TI := ⟨.ptr 200, 1, 8, (.pointer none)⟩
def ti20 : TI := ⟨.other, 1, 16, .nilIface⟩
def ti21 : TI := ⟨.int .i32, 1, 4, (.int .i32 0)⟩
def ti22 : TI := ⟨.slice 30, 1, 24, (.slice none 0 0)⟩
def ti23 : TI := ⟨.slice 9, 1, 24, (.slice none 0 0)⟩
def ti24 : TI := ⟨.int .i64, 1, 8, (.int .i64 0)⟩
def ti26 : TI := ⟨.other, 1, 8, .nilFunc⟩
def ti27 : TI := ⟨.other, 1, 8, .nilFunc⟩
def ti28 : TI := ⟨.other, 1, 8, .nilFunc⟩
def ti29 : TI := ⟨.struct [(0, 9), (1, 9), (2, 23), (3, 23), (4, 23), (5, 3)], 6, 112, (.agg #[(.string ⟨#[]⟩), (.string ⟨#[]⟩), (.slice none 0 0), (.slice none 0 0), (.slice none 0 0), (.int .i64 0)])⟩
def ti30 : TI := ⟨.struct [(0, 9), (1, 9), (2, 23), (3, 23), (4, 23), (5, 3)], 6, 112, (.agg #[(.string ⟨#[]⟩), (.string ⟨#[]⟩), (.slice none 0 0), (.slice none 0 0), (.slice none 0 0), (.int .i64 0)])⟩
def ti31 : TI := ⟨.other, 1, 8, .nilFunc⟩
def ti33 : TI := ⟨.other, 1, 8, .nilFunc⟩
def ti34 : TI := ⟨.slice 3, 1, 24, (.slice none 0 0)⟩
def ti36 : TI := ⟨.other, 1, 8, .nilFunc⟩
def ti37 : TI := ⟨.other, 1, 8, .nilFunc⟩
def ti38 : TI := ⟨.other, 1, 8, .nilFunc⟩
def ti40 : TI := ⟨.other, 1, 8, .nilFunc⟩
def ti41 : TI := ⟨.other, 1, 8, .nilFunc⟩
def ti42 : TI := ⟨.other, 1, 8, .nilFunc⟩
def ti43 : TI := ⟨.other, 1, 8, .nilFunc⟩
def ti44 : TI := ⟨.other, 1, 8, .nilFunc⟩
def ti45 : TI := ⟨.other, 1, 8, .nilFunc⟩
def ti46 : TI := ⟨.other, 1, 8, .nilFunc⟩
def ti47 : TI := ⟨.other, 1, 8, .nilFunc⟩
def ti48 : TI := ⟨.other, 1, 8, .nilFunc⟩
def ti49 : TI := ⟨.other, 1, 8, .nilFunc⟩
def ti50 : TI := ⟨.other, 1, 8, .nilFunc⟩
def ti51 : TI := ⟨.other, 1, 8, .nilFunc⟩
def ti52 : TI := ⟨.other, 1, 8, .nilFunc⟩
def ti53 : TI := ⟨.other, 1, 8, .nilFunc⟩
def ti54 : TI := ⟨.slice 59, 1, 24, (.slice none 0 0)⟩
def ti56 : TI := ⟨.other, 1, 8, .nilFunc⟩
def ti57 : TI := ⟨.other, 1, 8, .nilFunc⟩
def ti58 : TI := ⟨.struct [(0, 9), (1, 9)], 2, 32, (.agg #[(.string ⟨#[]⟩), (.string ⟨#[]⟩)])⟩
def ti59 : TI := ⟨.struct [(0, 9), (1, 9)], 2, 32, (.agg #[(.string ⟨#[]⟩), (.string ⟨#[]⟩)])⟩
def ti60 : TI := ⟨.other, 1, 8, .nilFunc⟩
def ti61 : TI := ⟨.other, 1, 8, .nilFunc⟩
def ti62 : TI := ⟨.other, 1, 8, .nilFunc⟩
def ti63 : TI := ⟨.slice 65, 1, 24, (.slice none 0 0)⟩
def ti64 : TI := ⟨.struct [(0, 3), (1, 9), (2, 3), (3, 63)], 4, 56, (.agg #[(.int .i64 0), (.string ⟨#[]⟩), (.int .i64 0), (.slice none 0 0)])⟩
def ti65 : TI := ⟨.struct [(0, 3), (1, 9), (2, 3), (3, 63)], 4, 56, (.agg #[(.int .i64 0), (.string ⟨#[]⟩), (.int .i64 0), (.slice none 0 0)])⟩
def ti66 : TI := ⟨.other, 1, 8, .nilFunc⟩
def ti67 : TI := ⟨.slice 4, 1, 24, (.slice none 0 0)⟩
def ti68 : TI := ⟨.other, 1, 8, .nilFunc⟩
def ti69 : TI := ⟨.ptr 76, 1, 8, (.pointer none)⟩
def ti71 : TI := ⟨.other, 1, 8, .nilFunc⟩
def ti72 : TI := ⟨.other, 1, 8, .nilFunc⟩
def ti73 : TI := ⟨.other, 1, 8, .nilFunc⟩
def ti74 : TI := ⟨.slice 34, 1, 24, (.slice none 0 0)⟩
def ti75 : TI := ⟨.struct [(0, 22), (1, 74), (2, 74)], 3, 72, (.agg #[(.slice none 0 0), (.slice none 0 0), (.slice none 0 0)])⟩
def ti76 : TI := ⟨.struct [(0, 22), (1, 74), (2, 74)], 3, 72, (.agg #[(.slice none 0 0), (.slice none 0 0), (.slice none 0 0)])⟩
def ti77 : TI := ⟨.other, 1, 8, .nilFunc⟩
def ti78 : TI := ⟨.other, 1, 8, .nilFunc⟩
def ti80 : TI := ⟨.other, 1, 8, .nilFunc⟩
def ti81 : TI := ⟨.other, 1, 8, .nilFunc⟩
def ti82 : TI := ⟨.other, 1, 8, .nilFunc⟩
def ti83 : TI := ⟨.struct [(0, 74), (1, 74)], 2, 48, (.agg #[(.slice none 0 0), (.slice none 0 0)])⟩
def ti84 : TI := ⟨.struct [(0, 74), (1, 74)], 2, 48, (.agg #[(.slice none 0 0), (.slice none 0 0)])⟩
def ti86 : TI := ⟨.other, 1, 8, .nilFunc⟩
def ti87 : TI := ⟨.other, 1, 8, .nilFunc⟩
def ti88 : TI := ⟨.other, 1, 8, .nilFunc⟩
def ti89 : TI := ⟨.other, 1, 8, .nilFunc⟩
def ti90 : TI := ⟨.other, 1, 8, .nilFunc⟩
def ti91 : TI := ⟨.other, 1, 8, .nilFunc⟩
def ti92 : TI := ⟨.other, 1, 8, .nilFunc⟩
def ti93 : TI := ⟨.other, 1, 8, .nilFunc⟩
def ti94 : TI := ⟨.other, 1, 8, .nilFunc⟩
def ti95 : TI := ⟨.other, 1, 8, .nilFunc⟩
def ti96 : TI := ⟨.map 9 4, 1, 8, (.map none)⟩
def ti97 : TI := ⟨.other, 1, 8, .nilFunc⟩
def ti98 : TI := ⟨.other, 1, 8, .nilFunc⟩
def ti99 : TI := ⟨.other, 1, 8, .nilFunc⟩
def ti100 : TI := ⟨.other, 1, 8, .nilFunc⟩
def ti101 : TI := ⟨.other, 1, 8, .nilFunc⟩
def ti102 : TI := ⟨.other, 1, 8, .nilFunc⟩
def ti104 : TI := ⟨.other, 1, 8, .nilFunc⟩
def ti105 : TI := ⟨.other, 1, 8, .nilFunc⟩
def ti107 : TI := ⟨.other, 1, 8, .nilFunc⟩
def ti108 : TI := ⟨.other, 1, 8, .nilFunc⟩
def ti109 : TI := ⟨.other, 1, 8, .nilFunc⟩
def ti110 : TI := ⟨.slice 111, 1, 24, (.slice none 0 0)⟩
def ti111 : TI := ⟨.slice 112, 1, 24, (.slice none 0 0)⟩
def ti112 : TI := ⟨.int .u64, 1, 8, (.int .u64 0)⟩
def ti113 : TI := ⟨.other, 1, 8, .nilFunc⟩
def ti114 : TI := ⟨.other, 1, 8, .nilFunc⟩
def ti115 : TI := ⟨.other, 1, 8, .nilFunc⟩
def ti116 : TI := ⟨.other, 1, 8, .nilFunc⟩
def ti117 : TI := ⟨.other, 1, 8, .nilFunc⟩
def ti118 : TI := ⟨.other, 1, 8, .nilFunc⟩
def ti119 : TI := ⟨.other, 1, 8, .nilFunc⟩
def ti120 : TI := ⟨.other, 1, 8, .nilFunc⟩
def ti121 : TI := ⟨.other, 1, 8, .nilFunc⟩
def ti122 : TI := ⟨.int .u64, 1, 8, (.int .u64 0)⟩
def ti124 : TI := ⟨.other, 1, 8, .nilFunc⟩
def ti125 : TI := ⟨.other, 1, 8, .nilFunc⟩
def ti126 : TI := ⟨.other, 1, 8, .nilFunc⟩
def ti127 : TI := ⟨.other, 1, 8, .nilFunc⟩
def ti128 : TI := ⟨.other, 1, 8, .nilFunc⟩
def ti129 : TI := ⟨.other, 1, 8, .nilFunc⟩
def ti130 : TI := ⟨.other, 1, 8, .nilFunc⟩
def ti132 : TI := ⟨.other, 1, 8, .nilFunc⟩
def ti133 : TI := ⟨.other, 1, 8, .nilFunc⟩
def ti135 : TI := ⟨.other, 1, 8, .nilFunc⟩
def ti136 : TI := ⟨.other, 1, 8, .nilFunc⟩
def ti137 : TI := ⟨.other, 1, 8, .nilFunc⟩
def ti138 : TI := ⟨.other, 1, 8, .nilFunc⟩
def ti139 : TI := ⟨.int .i64, 1, 8, (.int .i64 0)⟩
def ti141 : TI := ⟨.other, 1, 8, .nilFunc⟩
def ti142 : TI := ⟨.other, 1, 8, .nilFunc⟩
def ti143 : TI := ⟨.other, 1, 8, .nilFunc⟩
def ti144 : TI := ⟨.other, 1, 8, .nilFunc⟩
def ti145 : TI := ⟨.other, 1, 8, .nilFunc⟩
def ti146 : TI := ⟨.int .u32, 1, 4, (.int .u32 0)⟩
def ti147 : TI := ⟨.other, 1, 8, .nilFunc⟩
def ti148 : TI := ⟨.other, 1, 8, .nilFunc⟩
def ti149 : TI := ⟨.other, 1, 8, .nilFunc⟩
def ti150 : TI := ⟨.other, 1, 8, .nilFunc⟩
def ti151 : TI := ⟨.other, 1, 8, .nilFunc⟩
def ti153 : TI := ⟨.other, 1, 8, .nilFunc⟩
def ti155 : TI := ⟨.other, 1, 8, .nilFunc⟩
def ti156 : TI := ⟨.other, 1, 8, .nilFunc⟩
def ti157 : TI := ⟨.other, 1, 8, .nilFunc⟩
def ti158 : TI := ⟨.other, 1, 8, .nilFunc⟩
def ti159 : TI := ⟨.struct [(0, 9), (1, 9)], 2, 32, (.agg #[(.string ⟨#[]⟩), (.string ⟨#[]⟩)])⟩
def ti160 : TI := ⟨.struct [(0, 9), (1, 9)], 2, 32, (.agg #[(.string ⟨#[]⟩), (.string ⟨#[]⟩)])⟩
def ti162 : TI := ⟨.other, 1, 8, .nilFunc⟩
def ti163 : TI := ⟨.int .u64, 1, 8, (.int .u64 0)⟩
def ti164 : TI := ⟨.other, 1, 8, .nilFunc⟩
def ti165 : TI := ⟨.other, 1, 8, .nilFunc⟩
def ti166 : TI := ⟨.other, 1, 8, .nilFunc⟩
def ti167 : TI := ⟨.ptr 3, 1, 8, (.pointer none)⟩
def ti168 : TI := ⟨.other, 1, 8, .nilFunc⟩
def ti169 : TI := ⟨.other, 1, 8, .nilFunc⟩
def ti170 : TI := ⟨.other, 1, 8, .nilFunc⟩
def ti171 : TI := ⟨.other, 1, 8, .nilFunc⟩
def ti172 : TI := ⟨.other, 1, 8, .nilFunc⟩
def ti173 : TI := ⟨.other, 1, 8, .nilFunc⟩
def ti174 : TI := ⟨.other, 1, 8, .nilFunc⟩
def ti175 : TI := ⟨.ptr 163, 1, 8, (.pointer none)⟩
def ti176 : TI := ⟨.other, 1, 8, .nilFunc⟩
def ti177 : TI := ⟨.other, 1, 8, .nilFunc⟩
def ti179 : TI := ⟨.other, 1, 8, .nilFunc⟩
def ti181 : TI := ⟨.other, 1, 8, .nilFunc⟩
def ti183 : TI := ⟨.struct [(0, 5), (1, 5)], 2, 2, (.agg #[(.int .u8 0), (.int .u8 0)])⟩
def ti184 : TI := ⟨.struct [(0, 5), (1, 5)], 2, 2, (.agg #[(.int .u8 0), (.int .u8 0)])⟩
def ti186 : TI := ⟨.other, 1, 8, .nilFunc⟩
def ti192 : TI := ⟨.other, 1, 8, .nilFunc⟩
def ti195 : TI := ⟨.other, 1, 8, .nilFunc⟩
def ti196 : TI := ⟨.ptr 5, 1, 8, (.pointer none)⟩
def tl : List (Nat × TI) := [(1, ti1), (2, ti2), (3, ti3), (4, ti4), (5, ti5), (9, ti9), (12, ti12), (17, ti17), (20, ti20), (21, ti21), (22, ti22), (23, ti23), (24, ti24), (26, ti26), (27, ti27), (28, ti28), (29, ti29), (30, ti30), (31, ti31), (33, ti33), (34, ti34), (36, ti36), (37, ti37), (38, ti38), (40, ti40), (41, ti41), (42, ti42), (43, ti43), (44, ti44), (45, ti45), (46, ti46), (47, ti47), (48, ti48), (49, ti49), (50, ti50), (51, ti51), (52, ti52), (53, ti53), (54, ti54), (56, ti56), (57, ti57), (58, ti58), (59, ti59), (60, ti60), (61, ti61), (62, ti62), (63, ti63), (64, ti64), (65, ti65), (66, ti66), (67, ti67), (68, ti68), (69, ti69), (71, ti71), (72, ti72), (73, ti73), (74, ti74), (75, ti75), (76, ti76), (77, ti77), (78, ti78), (80, ti80), (81, ti81), (82, ti82), (83, ti83), (84, ti84), (86, ti86), (87, ti87), (88, ti88), (89, ti89), (90, ti90), (91, ti91), (92, ti92), (93, ti93), (94, ti94), (95, ti95), (96, ti96), (97, ti97), (98, ti98), (99, ti99), (100, ti100), (101, ti101), (102, ti102), (104, ti104), (105, ti105), (107, ti107), (108, ti108), (109, ti109), (110, ti110), (111, ti111), (112, ti112), (113, ti113), (114, ti114), (115, ti115), (116, ti116), (117, ti117), (118, ti118), (119, ti119), (120, ti120), (121, ti121), (122, ti122), (124, ti124), (125, ti125), (126, ti126), (127, ti127), (128, ti128), (129, ti129), (130, ti130), (132, ti132), (133, ti133), (135, ti135), (136, ti136), (137, ti137), (138, ti138), (139, ti139), (141, ti141), (142, ti142), (143, ti143), (144, ti144), (145, ti145), (146, ti146), (147, ti147), (148, ti148), (149, ti149), (150, ti150), (151, ti151), (153, ti153), (155, ti155), (156, ti156), (157, ti157), (158, ti158), (159, ti159), (160, ti160), (162, ti162), (163, ti163), (164, ti164), (165, ti165), (166, ti166), (167, ti167), (168, ti168), (169, ti169), (170, ti170), (171, ti171), (172, ti172), (173, ti173), (174, ti174), (175, ti175), (176, ti176), (177, ti177), (179, ti179), (181, ti181), (183, ti183), (184, ti184), (186, ti186), (192, ti192), (195, ti195), (196, ti196)]
def T : Tab := tabGet tl
theorem tiok1 : TIOk Tryd.prog 1 ti1 := ⟨⟨_, Tryd.underlying1, trivial⟩, by kernel_rfl, rfl, rfl⟩
theorem tiok2 : TIOk Tryd.prog 2 ti2 := ⟨Tryd.underlying2, by kernel_rfl, rfl, rfl⟩
theorem tiok3 : TIOk Tryd.prog 3 ti3 := ⟨Tryd.underlying3, by kernel_rfl, rfl, rfl⟩
theorem tiok4 : TIOk Tryd.prog 4 ti4 := ⟨Tryd.underlying4, by kernel_rfl, rfl, rfl⟩
theorem tiok5 : TIOk Tryd.prog 5 ti5 := ⟨Tryd.underlying5, by kernel_rfl, rfl, rfl⟩
theorem tiok9 : TIOk Tryd.prog 9 ti9 := ⟨Tryd.underlying9, by kernel_rfl, rfl, rfl⟩
theorem tiok12 : TIOk Tryd.prog 12 ti12 := ⟨Tryd.underlying12, by kernel_rfl, rfl, rfl⟩
theorem tiok17 : TIOk Tryd.prog 17 ti17 := ⟨Tryd.underlying17, by kernel_rfl, rfl, rfl⟩
theorem tiok20 : TIOk Tryd.prog 20 ti20 := ⟨⟨_, Tryd.underlying20, trivial⟩, by kernel_rfl, rfl, rfl⟩
theorem tiok21 : TIOk Tryd.prog 21 ti21 := ⟨Tryd.underlying21, by kernel_rfl, rfl, rfl⟩
theorem tiok22 : TIOk Tryd.prog 22 ti22 := ⟨Tryd.underlying22, by kernel_rfl, rfl, rfl⟩
theorem tiok23 : TIOk Tryd.prog 23 ti23 := ⟨Tryd.underlying23, by kernel_rfl, rfl, rfl⟩
theorem tiok24 : TIOk Tryd.prog 24 ti24 := ⟨Tryd.underlying24, by kernel_rfl, rfl, rfl⟩
theorem tiok26 : TIOk Tryd.prog 26 ti26 := ⟨⟨_, Tryd.underlying26, trivial⟩, by kernel_rfl, rfl, rfl⟩
theorem tiok27 : TIOk Tryd.prog 27 ti27 := ⟨⟨_, Tryd.underlying27, trivial⟩, by kernel_rfl, rfl, rfl⟩
theorem tiok28 : TIOk Tryd.prog 28 ti28 := ⟨⟨_, Tryd.underlying28, trivial⟩, by kernel_rfl, rfl, rfl⟩
theorem tiok29 : TIOk Tryd.prog 29 ti29 := ⟨⟨_, Tryd.underlying29, rfl⟩, by kernel_rfl, rfl, rfl⟩
theorem tiok30 : TIOk Tryd.prog 30 ti30 := ⟨⟨_, Tryd.underlying30, rfl⟩, by kernel_rfl, rfl, rfl⟩
theorem tiok31 : TIOk Tryd.prog 31 ti31 := ⟨⟨_, Tryd.underlying31, trivial⟩, by kernel_rfl, rfl, rfl⟩
theorem tiok33 : TIOk Tryd.prog 33 ti33 := ⟨⟨_, Tryd.underlying33, trivial⟩, by kernel_rfl, rfl, rfl⟩
theorem tiok34 : TIOk Tryd.prog 34 ti34 := ⟨Tryd.underlying34, by kernel_rfl, rfl, rfl⟩
theorem tiok36 : TIOk Tryd.prog 36 ti36 := ⟨⟨_, Tryd.underlying36, trivial⟩, by kernel_rfl, rfl, rfl⟩
theorem tiok37 : TIOk Tryd.prog 37 ti37 := ⟨⟨_, Tryd.underlying37, trivial⟩, by kernel_rfl, rfl, rfl⟩
theorem tiok38 : TIOk Tryd.prog 38 ti38 := ⟨⟨_, Tryd.underlying38, trivial⟩, by kernel_rfl, rfl, rfl⟩
theorem tiok40 : TIOk Tryd.prog 40 ti40 := ⟨⟨_, Tryd.underlying40, trivial⟩, by kernel_rfl, rfl, rfl⟩
theorem tiok41 : TIOk Tryd.prog 41 ti41 := ⟨⟨_, Tryd.underlying41, trivial⟩, by kernel_rfl, rfl, rfl⟩
theorem tiok42 : TIOk Tryd.prog 42 ti42 := ⟨⟨_, Tryd.underlying42, trivial⟩, by kernel_rfl, rfl, rfl⟩
theorem tiok43 : TIOk Tryd.prog 43 ti43 := ⟨⟨_, Tryd.underlying43, trivial⟩, by kernel_rfl, rfl, rfl⟩
theorem tiok44 : TIOk Tryd.prog 44 ti44 := ⟨⟨_, Tryd.underlying44, trivial⟩, by kernel_rfl, rfl, rfl⟩
theorem tiok45 : TIOk Tryd.prog 45 ti45 := ⟨⟨_, Tryd.underlying45, trivial⟩, by kernel_rfl, rfl, rfl⟩
theorem tiok46 : TIOk Tryd.prog 46 ti46 := ⟨⟨_, Tryd.underlying46, trivial⟩, by kernel_rfl, rfl, rfl⟩
theorem tiok47 : TIOk Tryd.prog 47 ti47 := ⟨⟨_, Tryd.underlying47, trivial⟩, by kernel_rfl, rfl, rfl⟩
theorem tiok48 : TIOk Tryd.prog 48 ti48 := ⟨⟨_, Tryd.underlying48, trivial⟩, by kernel_rfl, rfl, rfl⟩
theorem tiok49 : TIOk Tryd.prog 49 ti49 := ⟨⟨_, Tryd.underlying49, trivial⟩, by kernel_rfl, rfl, rfl⟩
theorem tiok50 : TIOk Tryd.prog 50 ti50 := ⟨⟨_, Tryd.underlying50, trivial⟩, by kernel_rfl, rfl, rfl⟩
theorem tiok51 : TIOk Tryd.prog 51 ti51 := ⟨⟨_, Tryd.underlying51, trivial⟩, by kernel_rfl, rfl, rfl⟩
theorem tiok52 : TIOk Tryd.prog 52 ti52 := ⟨⟨_, Tryd.underlying52, trivial⟩, by kernel_rfl, rfl, rfl⟩
theorem tiok53 : TIOk Tryd.prog 53 ti53 := ⟨⟨_, Tryd.underlying53, trivial⟩, by kernel_rfl, rfl, rfl⟩
theorem tiok54 : TIOk Tryd.prog 54 ti54 := ⟨Tryd.underlying54, by kernel_rfl, rfl, rfl⟩
theorem tiok56 : TIOk Tryd.prog 56 ti56 := ⟨⟨_, Tryd.underlying56, trivial⟩, by kernel_rfl, rfl, rfl⟩
theorem tiok57 : TIOk Tryd.prog 57 ti57 := ⟨⟨_, Tryd.underlying57, trivial⟩, by kernel_rfl, rfl, rfl⟩
theorem tiok58 : TIOk Tryd.prog 58 ti58 := ⟨⟨_, Tryd.underlying58, rfl⟩, by kernel_rfl, rfl, rfl⟩
theorem tiok59 : TIOk Tryd.prog 59 ti59 := ⟨⟨_, Tryd.underlying59, rfl⟩, by kernel_rfl, rfl, rfl⟩
theorem tiok60 : TIOk Tryd.prog 60 ti60 := ⟨⟨_, Tryd.underlying60, trivial⟩, by kernel_rfl, rfl, rfl⟩
theorem tiok61 : TIOk Tryd.prog 61 ti61 := ⟨⟨_, Tryd.underlying61, trivial⟩, by kernel_rfl, rfl, rfl⟩
theorem tiok62 : TIOk Tryd.prog 62 ti62 := ⟨⟨_, Tryd.underlying62, trivial⟩, by kernel_rfl, rfl, rfl⟩
theorem tiok63 : TIOk Tryd.prog 63 ti63 := ⟨Tryd.underlying63, by kernel_rfl, rfl, rfl⟩
theorem tiok64 : TIOk Tryd.prog 64 ti64 := ⟨⟨_, Tryd.underlying64, rfl⟩, by kernel_rfl, rfl, rfl⟩
theorem tiok65 : TIOk Tryd.prog 65 ti65 := ⟨⟨_, Tryd.underlying65, rfl⟩, by kernel_rfl, rfl, rfl⟩
theorem tiok66 : TIOk Tryd.prog 66 ti66 := ⟨⟨_, Tryd.underlying66, trivial⟩, by kernel_rfl, rfl, rfl⟩
theorem tiok67 : TIOk Tryd.prog 67 ti67 := ⟨Tryd.underlying67, by kernel_rfl, rfl, rfl⟩
theorem tiok68 : TIOk Tryd.prog 68 ti68 := ⟨⟨_, Tryd.underlying68, trivial⟩, by kernel_rfl, rfl, rfl⟩
theorem tiok69 : TIOk Tryd.prog 69 ti69 := ⟨Tryd.underlying69, by kernel_rfl, rfl, rfl⟩
theorem tiok71 : TIOk Tryd.prog 71 ti71 := ⟨⟨_, Tryd.underlying71, trivial⟩, by kernel_rfl, rfl, rfl⟩
theorem tiok72 : TIOk Tryd.prog 72 ti72 := ⟨⟨_, Tryd.underlying72, trivial⟩, by kernel_rfl, rfl, rfl⟩
theorem tiok73 : TIOk Tryd.prog 73 ti73 := ⟨⟨_, Tryd.underlying73, trivial⟩, by kernel_rfl, rfl, rfl⟩
theorem tiok74 : TIOk Tryd.prog 74 ti74 := ⟨Tryd.underlying74, by kernel_rfl, rfl, rfl⟩
theorem tiok75 : TIOk Tryd.prog 75 ti75 := ⟨⟨_, Tryd.underlying75, rfl⟩, by kernel_rfl, rfl, rfl⟩
theorem tiok76 : TIOk Tryd.prog 76 ti76 := ⟨⟨_, Tryd.underlying76, rfl⟩, by kernel_rfl, rfl, rfl⟩
theorem tiok77 : TIOk Tryd.prog 77 ti77 := ⟨⟨_, Tryd.underlying77, trivial⟩, by kernel_rfl, rfl, rfl⟩
theorem tiok78 : TIOk Tryd.prog 78 ti78 := ⟨⟨_, Tryd.underlying78, trivial⟩, by kernel_rfl, rfl, rfl⟩
theorem tiok80 : TIOk Tryd.prog 80 ti80 := ⟨⟨_, Tryd.underlying80, trivial⟩, by kernel_rfl, rfl, rfl⟩
theorem tiok81 : TIOk Tryd.prog 81 ti81 := ⟨⟨_, Tryd.underlying81, trivial⟩, by kernel_rfl, rfl, rfl⟩
theorem tiok82 : TIOk Tryd.prog 82 ti82 := ⟨⟨_, Tryd.underlying82, trivial⟩, by kernel_rfl, rfl, rfl⟩
theorem tiok83 : TIOk Tryd.prog 83 ti83 := ⟨⟨_, Tryd.underlying83, rfl⟩, by kernel_rfl, rfl, rfl⟩
theorem tiok84 : TIOk Tryd.prog 84 ti84 := ⟨⟨_, Tryd.underlying84, rfl⟩, by kernel_rfl, rfl, rfl⟩
theorem tiok86 : TIOk Tryd.prog 86 ti86 := ⟨⟨_, Tryd.underlying86, trivial⟩, by kernel_rfl, rfl, rfl⟩
theorem tiok87 : TIOk Tryd.prog 87 ti87 := ⟨⟨_, Tryd.underlying87, trivial⟩, by kernel_rfl, rfl, rfl⟩
theorem tiok88 : TIOk Tryd.prog 88 ti88 := ⟨⟨_, Tryd.underlying88, trivial⟩, by kernel_rfl, rfl, rfl⟩
theorem tiok89 : TIOk Tryd.prog 89 ti89 := ⟨⟨_, Tryd.underlying89, trivial⟩, by kernel_rfl, rfl, rfl⟩
theorem tiok90 : TIOk Tryd.prog 90 ti90 := ⟨⟨_, Tryd.underlying90, trivial⟩, by kernel_rfl, rfl, rfl⟩
theorem tiok91 : TIOk Tryd.prog 91 ti91 := ⟨⟨_, Tryd.underlying91, trivial⟩, by kernel_rfl, rfl, rfl⟩
theorem tiok92 : TIOk Tryd.prog 92 ti92 := ⟨⟨_, Tryd.underlying92, trivial⟩, by kernel_rfl, rfl, rfl⟩
theorem tiok93 : TIOk Tryd.prog 93 ti93 := ⟨⟨_, Tryd.underlying93, trivial⟩, by kernel_rfl, rfl, rfl⟩
theorem tiok94 : TIOk Tryd.prog 94 ti94 := ⟨⟨_, Tryd.underlying94, trivial⟩, by kernel_rfl, rfl, rfl⟩
theorem tiok95 : TIOk Tryd.prog 95 ti95 := ⟨⟨_, Tryd.underlying95, trivial⟩, by kernel_rfl, rfl, rfl⟩
theorem tiok96 : TIOk Tryd.prog 96 ti96 := ⟨Tryd.underlying96, by kernel_rfl, rfl, rfl⟩
theorem tiok97 : TIOk Tryd.prog 97 ti97 := ⟨⟨_, Tryd.underlying97, trivial⟩, by kernel_rfl, rfl, rfl⟩
theorem tiok98 : TIOk Tryd.prog 98 ti98 := ⟨⟨_, Tryd.underlying98, trivial⟩, by kernel_rfl, rfl, rfl⟩
theorem tiok99 : TIOk Tryd.prog 99 ti99 := ⟨⟨_, Tryd.underlying99, trivial⟩, by kernel_rfl, rfl, rfl⟩
theorem tiok100 : TIOk Tryd.prog 100 ti100 := ⟨⟨_, Tryd.underlying100, trivial⟩, by kernel_rfl, rfl, rfl⟩
theorem tiok101 : TIOk Tryd.prog 101 ti101 := ⟨⟨_, Tryd.underlying101, trivial⟩, by kernel_rfl, rfl, rfl⟩
theorem tiok102 : TIOk Tryd.prog 102 ti102 := ⟨⟨_, Tryd.underlying102, trivial⟩, by kernel_rfl, rfl, rfl⟩
theorem tiok104 : TIOk Tryd.prog 104 ti104 := ⟨⟨_, Tryd.underlying104, trivial⟩, by kernel_rfl, rfl, rfl⟩
theorem tiok105 : TIOk Tryd.prog 105 ti105 := ⟨⟨_, Tryd.underlying105, trivial⟩, by kernel_rfl, rfl, rfl⟩
theorem tiok107 : TIOk Tryd.prog 107 ti107 := ⟨⟨_, Tryd.underlying107, trivial⟩, by kernel_rfl, rfl, rfl⟩
theorem tiok108 : TIOk Tryd.prog 108 ti108 := ⟨⟨_, Tryd.underlying108, trivial⟩, by kernel_rfl, rfl, rfl⟩
theorem tiok109 : TIOk Tryd.prog 109 ti109 := ⟨⟨_, Tryd.underlying109, trivial⟩, by kernel_rfl, rfl, rfl⟩
theorem tiok110 : TIOk Tryd.prog 110 ti110 := ⟨Tryd.underlying110, by kernel_rfl, rfl, rfl⟩
theorem tiok111 : TIOk Tryd.prog 111 ti111 := ⟨Tryd.underlying111, by kernel_rfl, rfl, rfl⟩
theorem tiok112 : TIOk Tryd.prog 112 ti112 := ⟨Tryd.underlying112, by kernel_rfl, rfl, rfl⟩
theorem tiok113 : TIOk Tryd.prog 113 ti113 := ⟨⟨_, Tryd.underlying113, trivial⟩, by kernel_rfl, rfl, rfl⟩
theorem tiok114 : TIOk Tryd.prog 114 ti114 := ⟨⟨_, Tryd.underlying114, trivial⟩, by kernel_rfl, rfl, rfl⟩
theorem tiok115 : TIOk Tryd.prog 115 ti115 := ⟨⟨_, Tryd.underlying115, trivial⟩, by kernel_rfl, rfl, rfl⟩
theorem tiok116 : TIOk Tryd.prog 116 ti116 := ⟨⟨_, Tryd.underlying116, trivial⟩, by kernel_rfl, rfl, rfl⟩
theorem tiok117 : TIOk Tryd.prog 117 ti117 := ⟨⟨_, Tryd.underlying117, trivial⟩, by kernel_rfl, rfl, rfl⟩
theorem tiok118 : TIOk Tryd.prog 118 ti118 := ⟨⟨_, Tryd.underlying118, trivial⟩, by kernel_rfl, rfl, rfl⟩
theorem tiok119 : TIOk Tryd.prog 119 ti119 := ⟨⟨_, Tryd.underlying119, trivial⟩, by kernel_rfl, rfl, rfl⟩
theorem tiok120 : TIOk Tryd.prog 120 ti120 := ⟨⟨_, Tryd.underlying120, trivial⟩, by kernel_rfl, rfl, rfl⟩
theorem tiok121 : TIOk Tryd.prog 121 ti121 := ⟨⟨_, Tryd.underlying121, trivial⟩, by kernel_rfl, rfl, rfl⟩
theorem tiok122 : TIOk Tryd.prog 122 ti122 := ⟨Tryd.underlying122, by kernel_rfl, rfl, rfl⟩
theorem tiok124 : TIOk Tryd.prog 124 ti124 := ⟨⟨_, Tryd.underlying124, trivial⟩, by kernel_rfl, rfl, rfl⟩
theorem tiok125 : TIOk Tryd.prog 125 ti125 := ⟨⟨_, Tryd.underlying125, trivial⟩, by kernel_rfl, rfl, rfl⟩
theorem tiok126 : TIOk Tryd.prog 126 ti126 := ⟨⟨_, Tryd.underlying126, trivial⟩, by kernel_rfl, rfl, rfl⟩
theorem tiok127 : TIOk Tryd.prog 127 ti127 := ⟨⟨_, Tryd.underlying127, trivial⟩, by kernel_rfl, rfl, rfl⟩
theorem tiok128 : TIOk Tryd.prog 128 ti128 := ⟨⟨_, Tryd.underlying128, trivial⟩, by kernel_rfl, rfl, rfl⟩
theorem tiok129 : TIOk Tryd.prog 129 ti129 := ⟨⟨_, Tryd.underlying129, trivial⟩, by kernel_rfl, rfl, rfl⟩
theorem tiok130 : TIOk Tryd.prog 130 ti130 := ⟨⟨_, Tryd.underlying130, trivial⟩, by kernel_rfl, rfl, rfl⟩
theorem tiok132 : TIOk Tryd.prog 132 ti132 := ⟨⟨_, Tryd.underlying132, trivial⟩, by kernel_rfl, rfl, rfl⟩
theorem tiok133 : TIOk Tryd.prog 133 ti133 := ⟨⟨_, Tryd.underlying133, trivial⟩, by kernel_rfl, rfl, rfl⟩
theorem tiok135 : TIOk Tryd.prog 135 ti135 := ⟨⟨_, Tryd.underlying135, trivial⟩, by kernel_rfl, rfl, rfl⟩
theorem tiok136 : TIOk Tryd.prog 136 ti136 := ⟨⟨_, Tryd.underlying136, trivial⟩, by kernel_rfl, rfl, rfl⟩
theorem tiok137 : TIOk Tryd.prog 137 ti137 := ⟨⟨_, Tryd.underlying137, trivial⟩, by kernel_rfl, rfl, rfl⟩
theorem tiok138 : TIOk Tryd.prog 138 ti138 := ⟨⟨_, Tryd.underlying138, trivial⟩, by kernel_rfl, rfl, rfl⟩
theorem tiok139 : TIOk Tryd.prog 139 ti139 := ⟨Tryd.underlying139, by kernel_rfl, rfl, rfl⟩
theorem tiok141 : TIOk Tryd.prog 141 ti141 := ⟨⟨_, Tryd.underlying141, trivial⟩, by kernel_rfl, rfl, rfl⟩
theorem tiok142 : TIOk Tryd.prog 142 ti142 := ⟨⟨_, Tryd.underlying142, trivial⟩, by kernel_rfl, rfl, rfl⟩
theorem tiok143 : TIOk Tryd.prog 143 ti143 := ⟨⟨_, Tryd.underlying143, trivial⟩, by kernel_rfl, rfl, rfl⟩
theorem tiok144 : TIOk Tryd.prog 144 ti144 := ⟨⟨_, Tryd.underlying144, trivial⟩, by kernel_rfl, rfl, rfl⟩
theorem tiok145 : TIOk Tryd.prog 145 ti145 := ⟨⟨_, Tryd.underlying145, trivial⟩, by kernel_rfl, rfl, rfl⟩
theorem tiok146 : TIOk Tryd.prog 146 ti146 := ⟨Tryd.underlying146, by kernel_rfl, rfl, rfl⟩
theorem tiok147 : TIOk Tryd.prog 147 ti147 := ⟨⟨_, Tryd.underlying147, trivial⟩, by kernel_rfl, rfl, rfl⟩
theorem tiok148 : TIOk Tryd.prog 148 ti148 := ⟨⟨_, Tryd.underlying148, trivial⟩, by kernel_rfl, rfl, rfl⟩
theorem tiok149 : TIOk Tryd.prog 149 ti149 := ⟨⟨_, Tryd.underlying149, trivial⟩, by kernel_rfl, rfl, rfl⟩
theorem tiok150 : TIOk Tryd.prog 150 ti150 := ⟨⟨_, Tryd.underlying150, trivial⟩, by kernel_rfl, rfl, rfl⟩
theorem tiok151 : TIOk Tryd.prog 151 ti151 := ⟨⟨_, Tryd.underlying151, trivial⟩, by kernel_rfl, rfl, rfl⟩
theorem tiok153 : TIOk Tryd.prog 153 ti153 := ⟨⟨_, Tryd.underlying153, trivial⟩, by kernel_rfl, rfl, rfl⟩
theorem tiok155 : TIOk Tryd.prog 155 ti155 := ⟨⟨_, Tryd.underlying155, trivial⟩, by kernel_rfl, rfl, rfl⟩
theorem tiok156 : TIOk Tryd.prog 156 ti156 := ⟨⟨_, Tryd.underlying156, trivial⟩, by kernel_rfl, rfl, rfl⟩
theorem tiok157 : TIOk Tryd.prog 157 ti157 := ⟨⟨_, Tryd.underlying157, trivial⟩, by kernel_rfl, rfl, rfl⟩
theorem tiok158 : TIOk Tryd.prog 158 ti158 := ⟨⟨_, Tryd.underlying158, trivial⟩, by kernel_rfl, rfl, rfl⟩
theorem tiok159 : TIOk Tryd.prog 159 ti159 := ⟨⟨_, Tryd.underlying159, rfl⟩, by kernel_rfl, rfl, rfl⟩
theorem tiok160 : TIOk Tryd.prog 160 ti160 := ⟨⟨_, Tryd.underlying160, rfl⟩, by kernel_rfl, rfl, rfl⟩
theorem tiok162 : TIOk Tryd.prog 162 ti162 := ⟨⟨_, Tryd.underlying162, trivial⟩, by kernel_rfl, rfl, rfl⟩
theorem tiok163 : TIOk Tryd.prog 163 ti163 := ⟨Tryd.underlying163, by kernel_rfl, rfl, rfl⟩
theorem tiok164 : TIOk Tryd.prog 164 ti164 := ⟨⟨_, Tryd.underlying164, trivial⟩, by kernel_rfl, rfl, rfl⟩
theorem tiok165 : TIOk Tryd.prog 165 ti165 := ⟨⟨_, Tryd.underlying165, trivial⟩, by kernel_rfl, rfl, rfl⟩
theorem tiok166 : TIOk Tryd.prog 166 ti166 := ⟨⟨_, Tryd.underlying166, trivial⟩, by kernel_rfl, rfl, rfl⟩
theorem tiok167 : TIOk Tryd.prog 167 ti167 := ⟨Tryd.underlying167, by kernel_rfl, rfl, rfl⟩
theorem tiok168 : TIOk Tryd.prog 168 ti168 := ⟨⟨_, Tryd.underlying168, trivial⟩, by kernel_rfl, rfl, rfl⟩
theorem tiok169 : TIOk Tryd.prog 169 ti169 := ⟨⟨_, Tryd.underlying169, trivial⟩, by kernel_rfl, rfl, rfl⟩
theorem tiok170 : TIOk Tryd.prog 170 ti170 := ⟨⟨_, Tryd.underlying170, trivial⟩, by kernel_rfl, rfl, rfl⟩
theorem tiok171 : TIOk Tryd.prog 171 ti171 := ⟨⟨_, Tryd.underlying171, trivial⟩, by kernel_rfl, rfl, rfl⟩
theorem tiok172 : TIOk Tryd.prog 172 ti172 := ⟨⟨_, Tryd.underlying172, trivial⟩, by kernel_rfl, rfl, rfl⟩
theorem tiok173 : TIOk Tryd.prog 173 ti173 := ⟨⟨_, Tryd.underlying173, trivial⟩, by kernel_rfl, rfl, rfl⟩
theorem tiok174 : TIOk Tryd.prog 174 ti174 := ⟨⟨_, Tryd.underlying174, trivial⟩, by kernel_rfl, rfl, rfl⟩
theorem tiok175 : TIOk Tryd.prog 175 ti175 := ⟨Tryd.underlying175, by kernel_rfl, rfl, rfl⟩
theorem tiok176 : TIOk Tryd.prog 176 ti176 := ⟨⟨_, Tryd.underlying176, trivial⟩, by kernel_rfl, rfl, rfl⟩
theorem tiok177 : TIOk Tryd.prog 177 ti177 := ⟨⟨_, Tryd.underlying177, trivial⟩, by kernel_rfl, rfl, rfl⟩
theorem tiok179 : TIOk Tryd.prog 179 ti179 := ⟨⟨_, Tryd.underlying179, trivial⟩, by kernel_rfl, rfl, rfl⟩
theorem tiok181 : TIOk Tryd.prog 181 ti181 := ⟨⟨_, Tryd.underlying181, trivial⟩, by kernel_rfl, rfl, rfl⟩
theorem tiok183 : TIOk Tryd.prog 183 ti183 := ⟨⟨_, Tryd.underlying183, rfl⟩, by kernel_rfl, rfl, rfl⟩
theorem tiok184 : TIOk Tryd.prog 184 ti184 := ⟨⟨_, Tryd.underlying184, rfl⟩, by kernel_rfl, rfl, rfl⟩
theorem tiok186 : TIOk Tryd.prog 186 ti186 := ⟨⟨_, Tryd.underlying186, trivial⟩, by kernel_rfl, rfl, rfl⟩
theorem tiok192 : TIOk Tryd.prog 192 ti192 := ⟨⟨_, Tryd.underlying192, trivial⟩, by kernel_rfl, rfl, rfl⟩
theorem tiok195 : TIOk Tryd.prog 195 ti195 := ⟨⟨_, Tryd.underlying195, trivial⟩, by kernel_rfl, rfl, rfl⟩
theorem tiok196 : TIOk Tryd.prog 196 ti196 := ⟨Tryd.underlying196, by kernel_rfl, rfl, rfl⟩
theorem tabOK : Ze Tryd.prog T := by
  refine Zhg ?_
  simp only [tl, List.forall_mem_cons]
  exact ⟨tiok1, tiok2, tiok3, tiok4, tiok5, tiok9, tiok12, tiok17, tiok20, tiok21, tiok22, tiok23, tiok24, tiok26, tiok27, tiok28, tiok29, tiok30, tiok31, tiok33, tiok34, tiok36, tiok37, tiok38, tiok40, tiok41, tiok42, tiok43, tiok44, tiok45, tiok46, tiok47, tiok48, tiok49, tiok50, tiok51, tiok52, tiok53, tiok54, tiok56, tiok57, tiok58, tiok59, tiok60, tiok61, tiok62, tiok63, tiok64, tiok65, tiok66, tiok67, tiok68, tiok69, tiok71, tiok72, tiok73, tiok74, tiok75, tiok76, tiok77, tiok78, tiok80, tiok81, tiok82, tiok83, tiok84, tiok86, tiok87, tiok88, tiok89, tiok90, tiok91, tiok92, tiok93, tiok94, tiok95, tiok96, tiok97, tiok98, tiok99, tiok100, tiok101, tiok102, tiok104, tiok105, tiok107, tiok108, tiok109, tiok110, tiok111, tiok112, tiok113, tiok114, tiok115, tiok116, tiok117, tiok118, tiok119, tiok120, tiok121, tiok122, tiok124, tiok125, tiok126, tiok127, tiok128, tiok129, tiok130, tiok132, tiok133, tiok135, tiok136, tiok137, tiok138, tiok139, tiok141, tiok142, tiok143, tiok144, tiok145, tiok146, tiok147, tiok148, tiok149, tiok150, tiok151, tiok153, tiok155, tiok156, tiok157, tiok158, tiok159, tiok160, tiok162, tiok163, tiok164, tiok165, tiok166, tiok167, tiok168, tiok169, tiok170, tiok171, tiok172, tiok173, tiok174, tiok175, tiok176, tiok177, tiok179, tiok181, tiok183, tiok184, tiok186, tiok192, tiok195, tiok196, fun _ h => by cases h⟩
def TYt : Nat → Option Ty := lkT [(2, (.int .i64)), (3, (.int .i64)), (4, .bool), (5, .byte), (9, .str), (12, (.int .u64)), (21, (.int .i32)), (22, (.slice (.pair .str (.pair .str (.pair (.slice .str) (.pair (.slice .str) (.pair (.slice .str) (.int .i64)))))))), (23, (.slice .str)), (24, (.int .i64)), (29, (.pair .str (.pair .str (.pair (.slice .str) (.pair (.slice .str) (.pair (.slice .str) (.int .i64))))))), (30, (.pair .str (.pair .str (.pair (.slice .str) (.pair (.slice .str) (.pair (.slice .str) (.int .i64))))))), (34, (.slice (.int .i64))), (54, (.slice (.pair .str .str))), (58, (.pair .str .str)), (59, (.pair .str .str)), (67, (.slice .bool)), (69, (.ptr (.pair (.slice (.pair .str (.pair .str (.pair (.slice .str) (.pair (.slice .str) (.pair (.slice .str) (.int .i64))))))) (.pair (.slice (.slice (.int .i64))) (.slice (.slice (.int .i64))))))), (74, (.slice (.slice (.int .i64)))), (75, (.pair (.slice (.pair .str (.pair .str (.pair (.slice .str) (.pair (.slice .str) (.pair (.slice .str) (.int .i64))))))) (.pair (.slice (.slice (.int .i64))) (.slice (.slice (.int .i64)))))), (76, (.pair (.slice (.pair .str (.pair .str (.pair (.slice .str) (.pair (.slice .str) (.pair (.slice .str) (.int .i64))))))) (.pair (.slice (.slice (.int .i64))) (.slice (.slice (.int .i64)))))), (83, (.pair (.slice (.slice (.int .i64))) (.slice (.slice (.int .i64))))), (84, (.pair (.slice (.slice (.int .i64))) (.slice (.slice (.int .i64))))), (96, (.mp .bool)), (110, (.slice (.slice (.int .u64)))), (111, (.slice (.int .u64))), (112, (.int .u64)), (122, (.int .u64)), (139, (.int .i64)), (146, (.int .u32)), (159, (.pair .str .str)), (160, (.pair .str .str)), (163, (.int .u64)), (167, (.ptr (.int .i64))), (175, (.ptr (.int .u64))), (183, (.pair .byte .byte)), (184, (.pair .byte .byte)), (196, (.ptr .byte))]
theorem mixed : Tryd.prog.follows .mixedOrders = true := by kernel_rfl
def Z5 (f : Func) : Code := match f.body with | some c => c | none => .skip
end Go.Proofs.YtafalbofjmfbnaaDoor
set_option linter.unusedVariables false
set_option maxRecDepth 100000
namespace Go.Proofs
open Go.Shelf
def Tryd.lays106_ren : Go.Shelf.Ren := ⟨fun | 106 => 142 | 213 => 167 | 265 => 182 | n => n, fun | 9 => 9 | 3 => 3 | n => n, fun | n => n⟩
theorem Tryd.lays106 : Go.Proofs.Lays.n106 Tryd.prog Tryd.lays106_ren := {
 mixed := by kernel_rfl
 f106 := Tryd.func142.trans (congrArg some (by kernel_rfl))
 f213 := Tryd.func167.trans (congrArg some (by kernel_rfl))
 f265 := Tryd.func182.trans (congrArg some (by kernel_rfl))
 t3 := Tryd.underlying3
 a3 := Tryd.isAgg3
 z3 := Tryd.sizeOf3
 v3 := Tryd.zeroValue3
 t9 := Tryd.underlying9
 a9 := Tryd.isAgg9
 z9 := Tryd.sizeOf9
 v9 := Tryd.zeroValue9 }
def Tryd.lays217_ren : Go.Shelf.Ren := ⟨fun | 217 => 188 | 266 => 194 | n => n, fun | 9 => 9 | 5 => 5 | 3 => 3 | n => n, fun | n => n⟩
theorem Tryd.lays217 : Go.Proofs.Lays.n217 Tryd.prog Tryd.lays217_ren := {
 mixed := by kernel_rfl
 f217 := Tryd.func188.trans (congrArg some (by kernel_rfl))
 f266 := Tryd.func194.trans (congrArg some (by kernel_rfl))
 t3 := Tryd.underlying3
 a3 := Tryd.isAgg3
 z3 := Tryd.sizeOf3
 v3 := Tryd.zeroValue3
 t5 := Tryd.underlying5
 a5 := Tryd.isAgg5
 z5 := Tryd.sizeOf5
 v5 := Tryd.zeroValue5
 t9 := Tryd.underlying9
 a9 := Tryd.isAgg9
 z9 := Tryd.sizeOf9
 v9 := Tryd.zeroValue9 }
def Tryd.lays219_ren : Go.Shelf.Ren := ⟨fun | 219 => 184 | 217 => 188 | 225 => 190 | 224 => 191 | 267 => 192 | 266 => 194 | 314 => 196 | n => n, fun | 9 => 9 | 3 => 3 | 4 => 4 | 5 => 5 | 46 => 122 | 146 => 180 | 51 => 146 | n => n, fun | 1 => 0 | n => n⟩
theorem Tryd.lays219 : Go.Proofs.Lays.n219 Tryd.prog Tryd.lays219_ren := {
 mixed := by kernel_rfl
 f217 := Tryd.func188.trans (congrArg some (by kernel_rfl))
 f219 := Tryd.func184.trans (congrArg some (by kernel_rfl))
 f224 := Tryd.func191.trans (congrArg some (by kernel_rfl))
 f225 := Tryd.func190.trans (congrArg some (by kernel_rfl))
 f266 := Tryd.func194.trans (congrArg some (by kernel_rfl))
 f267 := Tryd.func192.trans (congrArg some (by kernel_rfl))
 f314 := Tryd.func196.trans (congrArg some (by kernel_rfl))
 t3 := Tryd.underlying3
 a3 := Tryd.isAgg3
 z3 := Tryd.sizeOf3
 v3 := Tryd.zeroValue3
 t4 := Tryd.underlying4
 a4 := Tryd.isAgg4
 z4 := Tryd.sizeOf4
 v4 := Tryd.zeroValue4
 t5 := Tryd.underlying5
 a5 := Tryd.isAgg5
 z5 := Tryd.sizeOf5
 v5 := Tryd.zeroValue5
 t9 := Tryd.underlying9
 a9 := Tryd.isAgg9
 z9 := Tryd.sizeOf9
 v9 := Tryd.zeroValue9
 t46 := Tryd.underlying122
 a46 := Tryd.isAgg122
 z46 := Tryd.sizeOf122
 v46 := Tryd.zeroValue122
 t51 := Tryd.underlying146
 a51 := Tryd.isAgg146
 z51 := Tryd.sizeOf146
 v51 := Tryd.zeroValue146
 t146 := Tryd.underlying180
 a146 := Tryd.isAgg180
 z146 := Tryd.sizeOf180
 v146 := Tryd.zeroValue180
 g1 := by kernel_rfl }
def Tryd.lays138_ren : Go.Shelf.Ren := ⟨fun | 138 => 172 | 195 => 185 | 218 => 187 | 143 => 173 | 219 => 184 | 217 => 188 | 225 => 190 | 224 => 191 | 267 => 192 | 266 => 194 | 314 => 196 | n => n, fun | 9 => 9 | 3 => 3 | 4 => 4 | 5 => 5 | 0 => 0 | 46 => 122 | 146 => 180 | 51 => 146 | n => n, fun | 1 => 0 | n => n⟩
theorem Tryd.lays138 : Go.Proofs.Lays.n138 Tryd.prog Tryd.lays138_ren := {
 mixed := by kernel_rfl
 f138 := Tryd.func172.trans (congrArg some (by kernel_rfl))
 f143 := Tryd.func173.trans (congrArg some (by kernel_rfl))
 f195 := Tryd.func185.trans (congrArg some (by kernel_rfl))
 f217 := Tryd.func188.trans (congrArg some (by kernel_rfl))
 f218 := Tryd.func187.trans (congrArg some (by kernel_rfl))
 f219 := Tryd.func184.trans (congrArg some (by kernel_rfl))
 f224 := Tryd.func191.trans (congrArg some (by kernel_rfl))
 f225 := Tryd.func190.trans (congrArg some (by kernel_rfl))
 f266 := Tryd.func194.trans (congrArg some (by kernel_rfl))
 f267 := Tryd.func192.trans (congrArg some (by kernel_rfl))
 f314 := Tryd.func196.trans (congrArg some (by kernel_rfl))
 t0 := Tryd.underlying0
 a0 := Tryd.isAgg0
 z0 := Tryd.sizeOf0
 v0 := Tryd.zeroValue0
 t3 := Tryd.underlying3
 a3 := Tryd.isAgg3
 z3 := Tryd.sizeOf3
 v3 := Tryd.zeroValue3
 t4 := Tryd.underlying4
 a4 := Tryd.isAgg4
 z4 := Tryd.sizeOf4
 v4 := Tryd.zeroValue4
 t5 := Tryd.underlying5
 a5 := Tryd.isAgg5
 z5 := Tryd.sizeOf5
 v5 := Tryd.zeroValue5
 t9 := Tryd.underlying9
 a9 := Tryd.isAgg9
 z9 := Tryd.sizeOf9
 v9 := Tryd.zeroValue9
 t46 := Tryd.underlying122
 a46 := Tryd.isAgg122
 z46 := Tryd.sizeOf122
 v46 := Tryd.zeroValue122
 t51 := Tryd.underlying146
 a51 := Tryd.isAgg146
 z51 := Tryd.sizeOf146
 v51 := Tryd.zeroValue146
 t146 := Tryd.underlying180
 a146 := Tryd.isAgg180
 z146 := Tryd.sizeOf180
 v146 := Tryd.zeroValue180
 g1 := by kernel_rfl }
def Tryd.lays112_ren : Go.Shelf.Ren := ⟨fun | 112 => 58 | n => n, fun | 28 => 34 | 3 => 3 | 4 => 4 | 0 => 0 | n => n, fun | n => n⟩
theorem Tryd.lays112 : Go.Proofs.Lays.n112 Tryd.prog Tryd.lays112_ren := {
 mixed := by kernel_rfl
 f112 := Tryd.func58.trans (congrArg some (by kernel_rfl))
 t0 := Tryd.underlying0
 a0 := Tryd.isAgg0
 z0 := Tryd.sizeOf0
 v0 := Tryd.zeroValue0
 t3 := Tryd.underlying3
 a3 := Tryd.isAgg3
 z3 := Tryd.sizeOf3
 v3 := Tryd.zeroValue3
 t4 := Tryd.underlying4
 a4 := Tryd.isAgg4
 z4 := Tryd.sizeOf4
 v4 := Tryd.zeroValue4
 t28 := Tryd.underlying34
 a28 := Tryd.isAgg34
 z28 := Tryd.sizeOf34
 v28 := Tryd.zeroValue34 }
end Go.Proofs
namespace Go.Proofs.YtafalbofjmfbnaaDoor
open Go Go.RowKit Go.Shelf Go.Lib Go.Proofs.YtafalbofjmfbnaaDoor.Eng
noncomputable def Q29.f (a b : ByteArray) : Option Int := some (Lib.compareBytes a.data.toList b.data.toList)
noncomputable def Q29.fn : TFn := ⟨[.str, .str], [.int .i64], fun x => Q29.f x.1 x.2⟩
theorem Q29.ok : FnOK Tryd.prog 142 Q29.fn := by
 refine ⟨enters_of (c := Z5 Tryd.f142) Tryd.func142 (by kernel_rfl) (by kernel_rfl), ?_⟩
 rintro ⟨a, b⟩ r hr
 cases hr
 exact FPure.of_callsS (P := Tryd.prog) (f := 142) (args := [.string a, .string b]) (fun w => Any.strings_Compare Tryd.lays106 a b w)
noncomputable def Q1o.f (s : ByteArray) (c : UInt8) : Option Int := some (Lib.indexByte s.data.toList c)
noncomputable def Q1o.fn : TFn := ⟨[.str, .byte], [.int .i64], fun x => Q1o.f x.1 x.2⟩
theorem Q1o.ok : FnOK Tryd.prog 188 Q1o.fn := by
 refine ⟨enters_of (c := Z5 Tryd.f188) Tryd.func188 (by kernel_rfl) (by kernel_rfl), ?_⟩
 rintro ⟨s, c⟩ r hr
 cases hr
 refine FPure.of_callsS (P := Tryd.prog) (f := 188) (args := [.string s, .int .u8 (c.toNat : Int)]) (fun w => ?_)
 have h := Any.stringslite_IndexByte Tryd.lays217 s (c.toNat : Int) w
 have e : ((c.toNat : Int)).toNat.toUInt8 = c := by
  show UInt8.ofNat (c.toNat) = c
  exact UInt8.ofNat_toNat
 rw [e] at h
 exact h
noncomputable def Q1c.f (s sep : ByteArray) : Option Int := ck (sep.data.toList.length = 1) (some (Lib.indexByte s.data.toList (sep.data.toList.headD 0)))
noncomputable def Q1c.fn : TFn := ⟨[.str, .str], [.int .i64], fun x => Q1c.f x.1 x.2⟩
theorem Q1c.ok : FnOK Tryd.prog 184 Q1c.fn := by
 refine ⟨enters_of (c := Z5 Tryd.f184) Tryd.func184 (by kernel_rfl) (by kernel_rfl), ?_⟩
 rintro ⟨s, sep⟩ r hr
 obtain ⟨h1, h2⟩ := Z3g (show ck _ _ = some r from hr)
 cases h2
 obtain ⟨c, hc⟩ := List.length_eq_one_iff.1 h1
 have hs : sep = ⟨#[c]⟩ := by
  apply ByteArray.ext
  apply Array.toList_inj.1
  exact hc
 subst hs
 exact FPure.of_callsS (P := Tryd.prog) (f := 184) (args := [.string s, .string ⟨#[c]⟩]) (fun w => Any.stringslite_Index_one Tryd.lays219 s c w)
noncomputable def Q2a.f (s sep : ByteArray) : Option Int := ck (sep.data.toList.length = 1) (some ((Lib.countByte s.data.toList (sep.data.toList.headD 0) : Nat)))
noncomputable def Q2a.fn : TFn := ⟨[.str, .str], [.int .i64], fun x => Q2a.f x.1 x.2⟩
theorem Q2a.ok : FnOK Tryd.prog 172 Q2a.fn := by
 refine ⟨enters_of (c := Z5 Tryd.f172) Tryd.func172 (by kernel_rfl) (by kernel_rfl), ?_⟩
 rintro ⟨s, sep⟩ r hr
 obtain ⟨h1, h2⟩ := Z3g (show ck _ _ = some r from hr)
 cases h2
 obtain ⟨c, hc⟩ := List.length_eq_one_iff.1 h1
 have hs : sep = ⟨#[c]⟩ := by
  apply ByteArray.ext
  apply Array.toList_inj.1
  exact hc
 subst hs
 exact FPure.of_callsS (P := Tryd.prog) (f := 172) (args := [.string s, .string ⟨#[c]⟩]) (fun w => Any.strings_Count_one Tryd.lays138 s c w)
end Go.Proofs.YtafalbofjmfbnaaDoor
set_option linter.unusedVariables false
set_option maxRecDepth 100000
namespace Go.Proofs
open Go.Shelf
def Tryd.lays190_ren : Go.Shelf.Ren := ⟨fun | 190 => 52 | 125 => 95 | 258 => 94 | 128 => 134 | 129 => 135 | 302 => 125 | 303 => 126 | 304 => 127 | 305 => 128 | 306 => 129 | 307 => 130 | 308 => 131 | 309 => 132 | 310 => 133 | 333 => 155 | 329 => 156 | 330 => 157 | 334 => 158 | 335 => 159 | 336 => 160 | 344 => 179 | n => n, fun | 31 => 23 | 9 => 9 | 3 => 3 | 46 => 122 | 0 => 0 | 51 => 146 | 53 => 112 | 4 => 4 | 183 => 140 | 182 => 139 | 131 => 134 | 5 => 5 | 218 => 163 | 222 => 167 | 228 => 175 | 229 => 131 | n => n, fun | n => n⟩
theorem Tryd.lays190 : Go.Proofs.Lays.n190 Tryd.prog Tryd.lays190_ren := {
  mixed := by kernel_rfl
  f125 := Tryd.func95.trans (congrArg some (by kernel_rfl))
  f128 := Tryd.func134.trans (congrArg some (by kernel_rfl))
  f129 := Tryd.func135.trans (congrArg some (by kernel_rfl))
  f190 := Tryd.func52.trans (congrArg some (by kernel_rfl))
  f258 := Tryd.func94.trans (congrArg some (by kernel_rfl))
  f302 := Tryd.func125.trans (congrArg some (by kernel_rfl))
  f303 := Tryd.func126.trans (congrArg some (by kernel_rfl))
  f304 := Tryd.func127.trans (congrArg some (by kernel_rfl))
  f305 := Tryd.func128.trans (congrArg some (by kernel_rfl))
  f306 := Tryd.func129.trans (congrArg some (by kernel_rfl))
  f307 := Tryd.func130.trans (congrArg some (by kernel_rfl))
  f308 := Tryd.func131.trans (congrArg some (by kernel_rfl))
  f309 := Tryd.func132.trans (congrArg some (by kernel_rfl))
  f310 := Tryd.func133.trans (congrArg some (by kernel_rfl))
  f329 := Tryd.func156.trans (congrArg some (by kernel_rfl))
  f330 := Tryd.func157.trans (congrArg some (by kernel_rfl))
  f333 := Tryd.func155.trans (congrArg some (by kernel_rfl))
  f334 := Tryd.func158.trans (congrArg some (by kernel_rfl))
  f335 := Tryd.func159.trans (congrArg some (by kernel_rfl))
  f336 := Tryd.func160.trans (congrArg some (by kernel_rfl))
  f344 := Tryd.func179.trans (congrArg some (by kernel_rfl))
  t0 := Tryd.underlying0
  a0 := Tryd.isAgg0
  z0 := Tryd.sizeOf0
  v0 := Tryd.zeroValue0
  t3 := Tryd.underlying3
  a3 := Tryd.isAgg3
  z3 := Tryd.sizeOf3
  v3 := Tryd.zeroValue3
  t4 := Tryd.underlying4
  a4 := Tryd.isAgg4
  z4 := Tryd.sizeOf4
  v4 := Tryd.zeroValue4
  t5 := Tryd.underlying5
  a5 := Tryd.isAgg5
  z5 := Tryd.sizeOf5
  v5 := Tryd.zeroValue5
  t9 := Tryd.underlying9
  a9 := Tryd.isAgg9
  z9 := Tryd.sizeOf9
  v9 := Tryd.zeroValue9
  t31 := Tryd.underlying23
  a31 := Tryd.isAgg23
  z31 := Tryd.sizeOf23
  v31 := Tryd.zeroValue23
  t46 := Tryd.underlying122
  a46 := Tryd.isAgg122
  z46 := Tryd.sizeOf122
  v46 := Tryd.zeroValue122
  t51 := Tryd.underlying146
  a51 := Tryd.isAgg146
  z51 := Tryd.sizeOf146
  v51 := Tryd.zeroValue146
  t53 := Tryd.underlying112
  a53 := Tryd.isAgg112
  z53 := Tryd.sizeOf112
  v53 := Tryd.zeroValue112
  t131 := Tryd.underlying134
  a131 := Tryd.isAgg134
  z131 := Tryd.sizeOf134
  v131 := Tryd.zeroValue134
  t182 := Tryd.underlying139
  a182 := Tryd.isAgg139
  z182 := Tryd.sizeOf139
  v182 := Tryd.zeroValue139
  t183 := Tryd.underlying140
  a183 := Tryd.isAgg140
  z183 := Tryd.sizeOf140
  v183 := Tryd.zeroValue140
  t218 := Tryd.underlying163
  a218 := Tryd.isAgg163
  z218 := Tryd.sizeOf163
  v218 := Tryd.zeroValue163
  t222 := Tryd.underlying167
  a222 := Tryd.isAgg167
  z222 := Tryd.sizeOf167
  v222 := Tryd.zeroValue167
  t228 := Tryd.underlying175
  a228 := Tryd.isAgg175
  z228 := Tryd.sizeOf175
  v228 := Tryd.zeroValue175
  t229 := Tryd.underlying131
  a229 := Tryd.isAgg131
  z229 := Tryd.sizeOf131
  v229 := Tryd.zeroValue131 }
def Tryd.lays194_ren : Go.Shelf.Ren := ⟨fun | 194 => 53 | n => n, fun | 31 => 23 | 9 => 9 | 3 => 3 | 4 => 4 | 0 => 0 | n => n, fun | n => n⟩
theorem Tryd.lays194 : Go.Proofs.Lays.n194 Tryd.prog Tryd.lays194_ren := {
  mixed := by kernel_rfl
  f194 := Tryd.func53.trans (congrArg some (by kernel_rfl))
  t0 := Tryd.underlying0
  a0 := Tryd.isAgg0
  z0 := Tryd.sizeOf0
  v0 := Tryd.zeroValue0
  t3 := Tryd.underlying3
  a3 := Tryd.isAgg3
  z3 := Tryd.sizeOf3
  v3 := Tryd.zeroValue3
  t4 := Tryd.underlying4
  a4 := Tryd.isAgg4
  z4 := Tryd.sizeOf4
  v4 := Tryd.zeroValue4
  t9 := Tryd.underlying9
  a9 := Tryd.isAgg9
  z9 := Tryd.sizeOf9
  v9 := Tryd.zeroValue9
  t31 := Tryd.underlying23
  a31 := Tryd.isAgg23
  z31 := Tryd.sizeOf23
  v31 := Tryd.zeroValue23 }
end Go.Proofs
namespace Go.Proofs.YtafalbofjmfbnaaDoor
open Go Go.RowKit Go.Proofs.YtafalbofjmfbnaaDoor.Eng
/-! slices.Sort and slices.Compact of strings, as callees that write into a row. -/
theorem putS (w : World) (blk off : Nat) (l : List (List UInt8)) : Sort.putRow Go.Proofs.encStr w blk off l.toArray = Sort.putRow _root_.id w blk off (l.map Go.Proofs.encStr).toArray := by
  unfold Sort.putRow Sort.putCells
  congr 1
  funext c
  apply Array.ext
  · simp
  · intro t h1 h2
    simp only [Array.getElem_mapIdx, List.size_toArray, List.length_map]
    by_cases hc : off ≤ t ∧ t < off + l.length
    · rw [if_pos hc, if_pos hc, getElem!_pos _ (t - off) (by simp; omega), getElem!_pos _ (t - off) (by simp; omega)]
      simp
    · rw [if_neg hc, if_neg hc]
end Go.Proofs.YtafalbofjmfbnaaDoor
