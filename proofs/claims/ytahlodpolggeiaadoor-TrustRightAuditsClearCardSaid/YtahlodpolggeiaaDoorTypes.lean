/-
  The types of this seat's program, as a table. No condition.
-/
import Derived.Test.YtahlodpolggeiaaDoorProg
import Derived.Test.YtahlodpolggeiaaDoorTypC
import Derived.KernelRfl
import Derived.Shelf.Abstract
import Derived.Tactics
import Derived.WalkKit
import Derived.Ground.NamesProg
import Derived.Shelf.Small.Strs
import Derived.Shelf.Strings.Search2
import Derived.Shelf.Strings.Count
import Derived.Shelf.Slices.Reverse
import Derived.Shelf.Strings.SlTrimAscii
import Derived.Shelf.GgClosure.StringsRunes
import Derived.Ground.GgwProg
/-
  The types of this seat's program, as a table. No condition.
-/
set_option linter.unusedVariables false
namespace Go.Proofs.YtahlodpolggeiaaDoor
open Go Go.RowKit Go.Proofs.YtahlodpolggeiaaDoor.Eng
/-- The types of this seat's program, as a table. -/
def ti1 : TI := ⟨.other, 1, 8, .nilFunc⟩
def ti2 : TI := ⟨.int .i64, 1, 8, (.int .i64 0)⟩
def ti3 : TI := ⟨.int .i64, 1, 8, (.int .i64 0)⟩
def ti4 : TI := ⟨.bool, 1, 1, (.bool false)⟩
def ti5 : TI := ⟨.int .u8, 1, 1, (.int .u8 0)⟩
def ti9 : TI := ⟨.str, 1, 16, (.string ⟨#[]⟩)⟩
def ti12 : TI := ⟨.int .u64, 1, 8, (.int .u64 0)⟩
def ti17 : TI := ⟨.ptr 133, 1, 8, (.pointer none)⟩
def ti20 : TI := ⟨.other, 1, 16, .nilIface⟩
def ti21 : TI := ⟨.int .i32, 1, 4, (.int .i32 0)⟩
def ti22 : TI := ⟨.slice 46, 1, 24, (.slice none 0 0)⟩
def ti23 : TI := ⟨.other, 1, 8, .nilFunc⟩
def ti24 : TI := ⟨.int .i64, 1, 8, (.int .i64 0)⟩
def ti26 : TI := ⟨.other, 1, 8, .nilFunc⟩
def ti27 : TI := ⟨.other, 1, 8, .nilFunc⟩
def ti28 : TI := ⟨.other, 1, 8, .nilFunc⟩
def ti29 : TI := ⟨.other, 1, 8, .nilFunc⟩
def ti30 : TI := ⟨.other, 1, 8, .nilFunc⟩
def ti31 : TI := ⟨.slice 39, 1, 24, (.slice none 0 0)⟩
def ti32 : TI := ⟨.slice 41, 1, 24, (.slice none 0 0)⟩
def ti33 : TI := ⟨.slice 3, 1, 24, (.slice none 0 0)⟩
def ti35 : TI := ⟨.other, 1, 8, .nilFunc⟩
def ti36 : TI := ⟨.other, 1, 8, .nilFunc⟩
def ti37 : TI := ⟨.slice 9, 1, 24, (.slice none 0 0)⟩
def ti38 : TI := ⟨.struct [(0, 9), (1, 9), (2, 9), (3, 9), (4, 3), (5, 37), (6, 9)], 7, 112, (.agg #[(.string ⟨#[]⟩), (.string ⟨#[]⟩), (.string ⟨#[]⟩), (.string ⟨#[]⟩), (.int .i64 0), (.slice none 0 0), (.string ⟨#[]⟩)])⟩
def ti39 : TI := ⟨.struct [(0, 9), (1, 9), (2, 9), (3, 9), (4, 3), (5, 37), (6, 9)], 7, 112, (.agg #[(.string ⟨#[]⟩), (.string ⟨#[]⟩), (.string ⟨#[]⟩), (.string ⟨#[]⟩), (.int .i64 0), (.slice none 0 0), (.string ⟨#[]⟩)])⟩
def ti40 : TI := ⟨.struct [(0, 3), (1, 9), (2, 3)], 3, 32, (.agg #[(.int .i64 0), (.string ⟨#[]⟩), (.int .i64 0)])⟩
def ti41 : TI := ⟨.struct [(0, 3), (1, 9), (2, 3)], 3, 32, (.agg #[(.int .i64 0), (.string ⟨#[]⟩), (.int .i64 0)])⟩
def ti42 : TI := ⟨.other, 1, 8, .nilFunc⟩
def ti43 : TI := ⟨.other, 1, 8, .nilFunc⟩
def ti44 : TI := ⟨.other, 1, 8, .nilFunc⟩
def ti45 : TI := ⟨.struct [(0, 9), (1, 9), (2, 37), (3, 3), (4, 3)], 5, 72, (.agg #[(.string ⟨#[]⟩), (.string ⟨#[]⟩), (.slice none 0 0), (.int .i64 0), (.int .i64 0)])⟩
def ti46 : TI := ⟨.struct [(0, 9), (1, 9), (2, 37), (3, 3), (4, 3)], 5, 72, (.agg #[(.string ⟨#[]⟩), (.string ⟨#[]⟩), (.slice none 0 0), (.int .i64 0), (.int .i64 0)])⟩
def ti47 : TI := ⟨.other, 1, 8, .nilFunc⟩
def ti48 : TI := ⟨.other, 1, 8, .nilFunc⟩
def ti49 : TI := ⟨.other, 1, 8, .nilFunc⟩
def ti51 : TI := ⟨.other, 1, 8, .nilFunc⟩
def ti52 : TI := ⟨.other, 1, 8, .nilFunc⟩
def ti53 : TI := ⟨.other, 1, 8, .nilFunc⟩
def ti54 : TI := ⟨.other, 1, 8, .nilFunc⟩
def ti55 : TI := ⟨.other, 1, 8, .nilFunc⟩
def ti56 : TI := ⟨.other, 1, 8, .nilFunc⟩
def ti57 : TI := ⟨.other, 1, 8, .nilFunc⟩
def ti58 : TI := ⟨.other, 1, 8, .nilFunc⟩
def ti59 : TI := ⟨.slice 4, 1, 24, (.slice none 0 0)⟩
def ti60 : TI := ⟨.other, 1, 8, .nilFunc⟩
def ti61 : TI := ⟨.other, 1, 8, .nilFunc⟩
def ti62 : TI := ⟨.other, 1, 8, .nilFunc⟩
def ti63 : TI := ⟨.struct [(0, 9), (1, 9)], 2, 32, (.agg #[(.string ⟨#[]⟩), (.string ⟨#[]⟩)])⟩
def ti64 : TI := ⟨.struct [(0, 9), (1, 9)], 2, 32, (.agg #[(.string ⟨#[]⟩), (.string ⟨#[]⟩)])⟩
def ti66 : TI := ⟨.other, 1, 8, .nilFunc⟩
def ti67 : TI := ⟨.other, 1, 8, .nilFunc⟩
def ti69 : TI := ⟨.other, 1, 8, .nilFunc⟩
def ti70 : TI := ⟨.other, 1, 8, .nilFunc⟩
def ti71 : TI := ⟨.other, 1, 8, .nilFunc⟩
def ti72 : TI := ⟨.other, 1, 8, .nilFunc⟩
def ti73 : TI := ⟨.other, 1, 8, .nilFunc⟩
def ti74 : TI := ⟨.other, 1, 8, .nilFunc⟩
def ti75 : TI := ⟨.map 9 4, 1, 8, (.map none)⟩
def ti76 : TI := ⟨.struct [(0, 59), (1, 59), (2, 75)], 3, 56, (.agg #[(.slice none 0 0), (.slice none 0 0), (.map none)])⟩
def ti77 : TI := ⟨.struct [(0, 59), (1, 59), (2, 75)], 3, 56, (.agg #[(.slice none 0 0), (.slice none 0 0), (.map none)])⟩
def ti78 : TI := ⟨.other, 1, 8, .nilFunc⟩
def ti79 : TI := ⟨.map 9 3, 1, 8, (.map none)⟩
def ti80 : TI := ⟨.other, 1, 8, .nilFunc⟩
def ti81 : TI := ⟨.other, 1, 8, .nilFunc⟩
def ti85 : TI := ⟨.other, 1, 8, .nilFunc⟩
def ti86 : TI := ⟨.other, 1, 8, .nilFunc⟩
def ti87 : TI := ⟨.ptr 83, 1, 8, (.pointer none)⟩
def ti89 : TI := ⟨.other, 1, 8, .nilFunc⟩
def ti91 : TI := ⟨.other, 1, 8, .nilFunc⟩
def ti92 : TI := ⟨.other, 1, 8, .nilFunc⟩
def ti93 : TI := ⟨.other, 1, 8, .nilFunc⟩
def ti94 : TI := ⟨.int .u64, 1, 8, (.int .u64 0)⟩
def ti95 : TI := ⟨.other, 1, 8, .nilFunc⟩
def ti96 : TI := ⟨.other, 1, 8, .nilFunc⟩
def ti97 : TI := ⟨.other, 1, 8, .nilFunc⟩
def ti98 : TI := ⟨.other, 1, 8, .nilFunc⟩
def ti99 : TI := ⟨.other, 1, 8, .nilFunc⟩
def ti101 : TI := ⟨.other, 1, 8, .nilFunc⟩
def ti102 : TI := ⟨.other, 1, 8, .nilFunc⟩
def ti103 : TI := ⟨.other, 1, 8, .nilFunc⟩
def ti104 : TI := ⟨.other, 1, 8, .nilFunc⟩
def ti105 : TI := ⟨.other, 1, 8, .nilFunc⟩
def ti106 : TI := ⟨.other, 1, 8, .nilFunc⟩
def ti107 : TI := ⟨.other, 1, 8, .nilFunc⟩
def ti108 : TI := ⟨.other, 1, 8, .nilFunc⟩
def ti110 : TI := ⟨.struct [(0, 5), (1, 5)], 2, 2, (.agg #[(.int .u8 0), (.int .u8 0)])⟩
def ti111 : TI := ⟨.struct [(0, 5), (1, 5)], 2, 2, (.agg #[(.int .u8 0), (.int .u8 0)])⟩
def ti113 : TI := ⟨.other, 1, 8, .nilFunc⟩
def ti114 : TI := ⟨.other, 1, 8, .nilFunc⟩
def ti115 : TI := ⟨.other, 1, 8, .nilFunc⟩
def ti116 : TI := ⟨.int .u32, 1, 4, (.int .u32 0)⟩
def ti118 : TI := ⟨.other, 1, 8, .nilFunc⟩
def ti119 : TI := ⟨.other, 1, 8, .nilFunc⟩
def ti125 : TI := ⟨.other, 1, 8, .nilFunc⟩
def ti128 : TI := ⟨.other, 1, 8, .nilFunc⟩
def ti129 : TI := ⟨.ptr 5, 1, 8, (.pointer none)⟩
def tl : List (Nat × TI) := [(1, ti1), (2, ti2), (3, ti3), (4, ti4), (5, ti5), (9, ti9), (12, ti12), (17, ti17), (20, ti20), (21, ti21), (22, ti22), (23, ti23), (24, ti24), (26, ti26), (27, ti27), (28, ti28), (29, ti29), (30, ti30), (31, ti31), (32, ti32), (33, ti33), (35, ti35), (36, ti36), (37, ti37), (38, ti38), (39, ti39), (40, ti40), (41, ti41), (42, ti42), (43, ti43), (44, ti44), (45, ti45), (46, ti46), (47, ti47), (48, ti48), (49, ti49), (51, ti51), (52, ti52), (53, ti53), (54, ti54), (55, ti55), (56, ti56), (57, ti57), (58, ti58), (59, ti59), (60, ti60), (61, ti61), (62, ti62), (63, ti63), (64, ti64), (66, ti66), (67, ti67), (69, ti69), (70, ti70), (71, ti71), (72, ti72), (73, ti73), (74, ti74), (75, ti75), (76, ti76), (77, ti77), (78, ti78), (79, ti79), (80, ti80), (81, ti81), (85, ti85), (86, ti86), (87, ti87), (89, ti89), (91, ti91), (92, ti92), (93, ti93), (94, ti94), (95, ti95), (96, ti96), (97, ti97), (98, ti98), (99, ti99), (101, ti101), (102, ti102), (103, ti103), (104, ti104), (105, ti105), (106, ti106), (107, ti107), (108, ti108), (110, ti110), (111, ti111), (113, ti113), (114, ti114), (115, ti115), (116, ti116), (118, ti118), (119, ti119), (125, ti125), (128, ti128), (129, ti129)]
def T : Tab := tabGet tl
theorem tiok1 : TIOk Tryd.prog 1 ti1 := ⟨⟨_, Tryd.underlying1, trivial⟩, by kernel_rfl, rfl, rfl⟩
theorem tiok2 : TIOk Tryd.prog 2 ti2 := ⟨Tryd.underlying2, by kernel_rfl, rfl, rfl⟩
theorem tiok3 : TIOk Tryd.prog 3 ti3 := ⟨Tryd.underlying3, by kernel_rfl, rfl, rfl⟩
theorem tiok4 : TIOk Tryd.prog 4 ti4 := ⟨Tryd.underlying4, by kernel_rfl, rfl, rfl⟩
theorem tiok5 : TIOk Tryd.prog 5 ti5 := ⟨Tryd.underlying5, by kernel_rfl, rfl, rfl⟩
theorem tiok9 : TIOk Tryd.prog 9 ti9 := ⟨Tryd.underlying9, by kernel_rfl, rfl, rfl⟩
theorem tiok12 : TIOk Tryd.prog 12 ti12 := ⟨Tryd.underlying12, by kernel_rfl, rfl, rfl⟩
theorem tiok17 : TIOk Tryd.prog 17 ti17 := ⟨Tryd.underlying17, by kernel_rfl, rfl, rfl⟩
theorem tiok20 : TIOk Tryd.prog 20 ti20 := ⟨⟨_, Tryd.underlying20, trivial⟩, by kernel_rfl, rfl, rfl⟩
theorem tiok21 : TIOk Tryd.prog 21 ti21 := ⟨Tryd.underlying21, by kernel_rfl, rfl, rfl⟩
theorem tiok22 : TIOk Tryd.prog 22 ti22 := ⟨Tryd.underlying22, by kernel_rfl, rfl, rfl⟩
theorem tiok23 : TIOk Tryd.prog 23 ti23 := ⟨⟨_, Tryd.underlying23, trivial⟩, by kernel_rfl, rfl, rfl⟩
theorem tiok24 : TIOk Tryd.prog 24 ti24 := ⟨Tryd.underlying24, by kernel_rfl, rfl, rfl⟩
theorem tiok26 : TIOk Tryd.prog 26 ti26 := ⟨⟨_, Tryd.underlying26, trivial⟩, by kernel_rfl, rfl, rfl⟩
theorem tiok27 : TIOk Tryd.prog 27 ti27 := ⟨⟨_, Tryd.underlying27, trivial⟩, by kernel_rfl, rfl, rfl⟩
theorem tiok28 : TIOk Tryd.prog 28 ti28 := ⟨⟨_, Tryd.underlying28, trivial⟩, by kernel_rfl, rfl, rfl⟩
theorem tiok29 : TIOk Tryd.prog 29 ti29 := ⟨⟨_, Tryd.underlying29, trivial⟩, by kernel_rfl, rfl, rfl⟩
theorem tiok30 : TIOk Tryd.prog 30 ti30 := ⟨⟨_, Tryd.underlying30, trivial⟩, by kernel_rfl, rfl, rfl⟩
theorem tiok31 : TIOk Tryd.prog 31 ti31 := ⟨Tryd.underlying31, by kernel_rfl, rfl, rfl⟩
theorem tiok32 : TIOk Tryd.prog 32 ti32 := ⟨Tryd.underlying32, by kernel_rfl, rfl, rfl⟩
theorem tiok33 : TIOk Tryd.prog 33 ti33 := ⟨Tryd.underlying33, by kernel_rfl, rfl, rfl⟩
theorem tiok35 : TIOk Tryd.prog 35 ti35 := ⟨⟨_, Tryd.underlying35, trivial⟩, by kernel_rfl, rfl, rfl⟩
theorem tiok36 : TIOk Tryd.prog 36 ti36 := ⟨⟨_, Tryd.underlying36, trivial⟩, by kernel_rfl, rfl, rfl⟩
theorem tiok37 : TIOk Tryd.prog 37 ti37 := ⟨Tryd.underlying37, by kernel_rfl, rfl, rfl⟩
theorem tiok38 : TIOk Tryd.prog 38 ti38 := ⟨⟨_, Tryd.underlying38, rfl⟩, by kernel_rfl, rfl, rfl⟩
theorem tiok39 : TIOk Tryd.prog 39 ti39 := ⟨⟨_, Tryd.underlying39, rfl⟩, by kernel_rfl, rfl, rfl⟩
theorem tiok40 : TIOk Tryd.prog 40 ti40 := ⟨⟨_, Tryd.underlying40, rfl⟩, by kernel_rfl, rfl, rfl⟩
theorem tiok41 : TIOk Tryd.prog 41 ti41 := ⟨⟨_, Tryd.underlying41, rfl⟩, by kernel_rfl, rfl, rfl⟩
theorem tiok42 : TIOk Tryd.prog 42 ti42 := ⟨⟨_, Tryd.underlying42, trivial⟩, by kernel_rfl, rfl, rfl⟩
theorem tiok43 : TIOk Tryd.prog 43 ti43 := ⟨⟨_, Tryd.underlying43, trivial⟩, by kernel_rfl, rfl, rfl⟩
theorem tiok44 : TIOk Tryd.prog 44 ti44 := ⟨⟨_, Tryd.underlying44, trivial⟩, by kernel_rfl, rfl, rfl⟩
theorem tiok45 : TIOk Tryd.prog 45 ti45 := ⟨⟨_, Tryd.underlying45, rfl⟩, by kernel_rfl, rfl, rfl⟩
theorem tiok46 : TIOk Tryd.prog 46 ti46 := ⟨⟨_, Tryd.underlying46, rfl⟩, by kernel_rfl, rfl, rfl⟩
theorem tiok47 : TIOk Tryd.prog 47 ti47 := ⟨⟨_, Tryd.underlying47, trivial⟩, by kernel_rfl, rfl, rfl⟩
theorem tiok48 : TIOk Tryd.prog 48 ti48 := ⟨⟨_, Tryd.underlying48, trivial⟩, by kernel_rfl, rfl, rfl⟩
theorem tiok49 : TIOk Tryd.prog 49 ti49 := ⟨⟨_, Tryd.underlying49, trivial⟩, by kernel_rfl, rfl, rfl⟩
theorem tiok51 : TIOk Tryd.prog 51 ti51 := ⟨⟨_, Tryd.underlying51, trivial⟩, by kernel_rfl, rfl, rfl⟩
theorem tiok52 : TIOk Tryd.prog 52 ti52 := ⟨⟨_, Tryd.underlying52, trivial⟩, by kernel_rfl, rfl, rfl⟩
theorem tiok53 : TIOk Tryd.prog 53 ti53 := ⟨⟨_, Tryd.underlying53, trivial⟩, by kernel_rfl, rfl, rfl⟩
theorem tiok54 : TIOk Tryd.prog 54 ti54 := ⟨⟨_, Tryd.underlying54, trivial⟩, by kernel_rfl, rfl, rfl⟩
theorem tiok55 : TIOk Tryd.prog 55 ti55 := ⟨⟨_, Tryd.underlying55, trivial⟩, by kernel_rfl, rfl, rfl⟩
theorem tiok56 : TIOk Tryd.prog 56 ti56 := ⟨⟨_, Tryd.underlying56, trivial⟩, by kernel_rfl, rfl, rfl⟩
theorem tiok57 : TIOk Tryd.prog 57 ti57 := ⟨⟨_, Tryd.underlying57, trivial⟩, by kernel_rfl, rfl, rfl⟩
theorem tiok58 : TIOk Tryd.prog 58 ti58 := ⟨⟨_, Tryd.underlying58, trivial⟩, by kernel_rfl, rfl, rfl⟩
theorem tiok59 : TIOk Tryd.prog 59 ti59 := ⟨Tryd.underlying59, by kernel_rfl, rfl, rfl⟩
theorem tiok60 : TIOk Tryd.prog 60 ti60 := ⟨⟨_, Tryd.underlying60, trivial⟩, by kernel_rfl, rfl, rfl⟩
theorem tiok61 : TIOk Tryd.prog 61 ti61 := ⟨⟨_, Tryd.underlying61, trivial⟩, by kernel_rfl, rfl, rfl⟩
theorem tiok62 : TIOk Tryd.prog 62 ti62 := ⟨⟨_, Tryd.underlying62, trivial⟩, by kernel_rfl, rfl, rfl⟩
theorem tiok63 : TIOk Tryd.prog 63 ti63 := ⟨⟨_, Tryd.underlying63, rfl⟩, by kernel_rfl, rfl, rfl⟩
theorem tiok64 : TIOk Tryd.prog 64 ti64 := ⟨⟨_, Tryd.underlying64, rfl⟩, by kernel_rfl, rfl, rfl⟩
theorem tiok66 : TIOk Tryd.prog 66 ti66 := ⟨⟨_, Tryd.underlying66, trivial⟩, by kernel_rfl, rfl, rfl⟩
theorem tiok67 : TIOk Tryd.prog 67 ti67 := ⟨⟨_, Tryd.underlying67, trivial⟩, by kernel_rfl, rfl, rfl⟩
theorem tiok69 : TIOk Tryd.prog 69 ti69 := ⟨⟨_, Tryd.underlying69, trivial⟩, by kernel_rfl, rfl, rfl⟩
theorem tiok70 : TIOk Tryd.prog 70 ti70 := ⟨⟨_, Tryd.underlying70, trivial⟩, by kernel_rfl, rfl, rfl⟩
theorem tiok71 : TIOk Tryd.prog 71 ti71 := ⟨⟨_, Tryd.underlying71, trivial⟩, by kernel_rfl, rfl, rfl⟩
theorem tiok72 : TIOk Tryd.prog 72 ti72 := ⟨⟨_, Tryd.underlying72, trivial⟩, by kernel_rfl, rfl, rfl⟩
theorem tiok73 : TIOk Tryd.prog 73 ti73 := ⟨⟨_, Tryd.underlying73, trivial⟩, by kernel_rfl, rfl, rfl⟩
theorem tiok74 : TIOk Tryd.prog 74 ti74 := ⟨⟨_, Tryd.underlying74, trivial⟩, by kernel_rfl, rfl, rfl⟩
theorem tiok75 : TIOk Tryd.prog 75 ti75 := ⟨Tryd.underlying75, by kernel_rfl, rfl, rfl⟩
theorem tiok76 : TIOk Tryd.prog 76 ti76 := ⟨⟨_, Tryd.underlying76, rfl⟩, by kernel_rfl, rfl, rfl⟩
theorem tiok77 : TIOk Tryd.prog 77 ti77 := ⟨⟨_, Tryd.underlying77, rfl⟩, by kernel_rfl, rfl, rfl⟩
theorem tiok78 : TIOk Tryd.prog 78 ti78 := ⟨⟨_, Tryd.underlying78, trivial⟩, by kernel_rfl, rfl, rfl⟩
theorem tiok79 : TIOk Tryd.prog 79 ti79 := ⟨Tryd.underlying79, by kernel_rfl, rfl, rfl⟩
theorem tiok80 : TIOk Tryd.prog 80 ti80 := ⟨⟨_, Tryd.underlying80, trivial⟩, by kernel_rfl, rfl, rfl⟩
theorem tiok81 : TIOk Tryd.prog 81 ti81 := ⟨⟨_, Tryd.underlying81, trivial⟩, by kernel_rfl, rfl, rfl⟩
theorem tiok85 : TIOk Tryd.prog 85 ti85 := ⟨⟨_, Tryd.underlying85, trivial⟩, by kernel_rfl, rfl, rfl⟩
theorem tiok86 : TIOk Tryd.prog 86 ti86 := ⟨⟨_, Tryd.underlying86, trivial⟩, by kernel_rfl, rfl, rfl⟩
theorem tiok87 : TIOk Tryd.prog 87 ti87 := ⟨Tryd.underlying87, by kernel_rfl, rfl, rfl⟩
theorem tiok89 : TIOk Tryd.prog 89 ti89 := ⟨⟨_, Tryd.underlying89, trivial⟩, by kernel_rfl, rfl, rfl⟩
theorem tiok91 : TIOk Tryd.prog 91 ti91 := ⟨⟨_, Tryd.underlying91, trivial⟩, by kernel_rfl, rfl, rfl⟩
theorem tiok92 : TIOk Tryd.prog 92 ti92 := ⟨⟨_, Tryd.underlying92, trivial⟩, by kernel_rfl, rfl, rfl⟩
theorem tiok93 : TIOk Tryd.prog 93 ti93 := ⟨⟨_, Tryd.underlying93, trivial⟩, by kernel_rfl, rfl, rfl⟩
theorem tiok94 : TIOk Tryd.prog 94 ti94 := ⟨Tryd.underlying94, by kernel_rfl, rfl, rfl⟩
theorem tiok95 : TIOk Tryd.prog 95 ti95 := ⟨⟨_, Tryd.underlying95, trivial⟩, by kernel_rfl, rfl, rfl⟩
theorem tiok96 : TIOk Tryd.prog 96 ti96 := ⟨⟨_, Tryd.underlying96, trivial⟩, by kernel_rfl, rfl, rfl⟩
theorem tiok97 : TIOk Tryd.prog 97 ti97 := ⟨⟨_, Tryd.underlying97, trivial⟩, by kernel_rfl, rfl, rfl⟩
theorem tiok98 : TIOk Tryd.prog 98 ti98 := ⟨⟨_, Tryd.underlying98, trivial⟩, by kernel_rfl, rfl, rfl⟩
theorem tiok99 : TIOk Tryd.prog 99 ti99 := ⟨⟨_, Tryd.underlying99, trivial⟩, by kernel_rfl, rfl, rfl⟩
theorem tiok101 : TIOk Tryd.prog 101 ti101 := ⟨⟨_, Tryd.underlying101, trivial⟩, by kernel_rfl, rfl, rfl⟩
theorem tiok102 : TIOk Tryd.prog 102 ti102 := ⟨⟨_, Tryd.underlying102, trivial⟩, by kernel_rfl, rfl, rfl⟩
theorem tiok103 : TIOk Tryd.prog 103 ti103 := ⟨⟨_, Tryd.underlying103, trivial⟩, by kernel_rfl, rfl, rfl⟩
theorem tiok104 : TIOk Tryd.prog 104 ti104 := ⟨⟨_, Tryd.underlying104, trivial⟩, by kernel_rfl, rfl, rfl⟩
theorem tiok105 : TIOk Tryd.prog 105 ti105 := ⟨⟨_, Tryd.underlying105, trivial⟩, by kernel_rfl, rfl, rfl⟩
theorem tiok106 : TIOk Tryd.prog 106 ti106 := ⟨⟨_, Tryd.underlying106, trivial⟩, by kernel_rfl, rfl, rfl⟩
theorem tiok107 : TIOk Tryd.prog 107 ti107 := ⟨⟨_, Tryd.underlying107, trivial⟩, by kernel_rfl, rfl, rfl⟩
theorem tiok108 : TIOk Tryd.prog 108 ti108 := ⟨⟨_, Tryd.underlying108, trivial⟩, by kernel_rfl, rfl, rfl⟩
theorem tiok110 : TIOk Tryd.prog 110 ti110 := ⟨⟨_, Tryd.underlying110, rfl⟩, by kernel_rfl, rfl, rfl⟩
theorem tiok111 : TIOk Tryd.prog 111 ti111 := ⟨⟨_, Tryd.underlying111, rfl⟩, by kernel_rfl, rfl, rfl⟩
theorem tiok113 : TIOk Tryd.prog 113 ti113 := ⟨⟨_, Tryd.underlying113, trivial⟩, by kernel_rfl, rfl, rfl⟩
theorem tiok114 : TIOk Tryd.prog 114 ti114 := ⟨⟨_, Tryd.underlying114, trivial⟩, by kernel_rfl, rfl, rfl⟩
theorem tiok115 : TIOk Tryd.prog 115 ti115 := ⟨⟨_, Tryd.underlying115, trivial⟩, by kernel_rfl, rfl, rfl⟩
theorem tiok116 : TIOk Tryd.prog 116 ti116 := ⟨Tryd.underlying116, by kernel_rfl, rfl, rfl⟩
theorem tiok118 : TIOk Tryd.prog 118 ti118 := ⟨⟨_, Tryd.underlying118, trivial⟩, by kernel_rfl, rfl, rfl⟩
theorem tiok119 : TIOk Tryd.prog 119 ti119 := ⟨⟨_, Tryd.underlying119, trivial⟩, by kernel_rfl, rfl, rfl⟩
theorem tiok125 : TIOk Tryd.prog 125 ti125 := ⟨⟨_, Tryd.underlying125, trivial⟩, by kernel_rfl, rfl, rfl⟩
theorem tiok128 : TIOk Tryd.prog 128 ti128 := ⟨⟨_, Tryd.underlying128, trivial⟩, by kernel_rfl, rfl, rfl⟩
theorem tiok129 : TIOk Tryd.prog 129 ti129 := ⟨Tryd.underlying129, by kernel_rfl, rfl, rfl⟩
theorem tabOK : TabOK Tryd.prog T := by
  refine tabOK_of ?_
  simp only [tl, List.forall_mem_cons]
  exact ⟨tiok1, tiok2, tiok3, tiok4, tiok5, tiok9, tiok12, tiok17, tiok20, tiok21, tiok22, tiok23, tiok24, tiok26, tiok27, tiok28, tiok29, tiok30, tiok31, tiok32, tiok33, tiok35, tiok36, tiok37, tiok38, tiok39, tiok40, tiok41, tiok42, tiok43, tiok44, tiok45, tiok46, tiok47, tiok48, tiok49, tiok51, tiok52, tiok53, tiok54, tiok55, tiok56, tiok57, tiok58, tiok59, tiok60, tiok61, tiok62, tiok63, tiok64, tiok66, tiok67, tiok69, tiok70, tiok71, tiok72, tiok73, tiok74, tiok75, tiok76, tiok77, tiok78, tiok79, tiok80, tiok81, tiok85, tiok86, tiok87, tiok89, tiok91, tiok92, tiok93, tiok94, tiok95, tiok96, tiok97, tiok98, tiok99, tiok101, tiok102, tiok103, tiok104, tiok105, tiok106, tiok107, tiok108, tiok110, tiok111, tiok113, tiok114, tiok115, tiok116, tiok118, tiok119, tiok125, tiok128, tiok129, fun _ h => by cases h⟩
def TYt : Nat → Option Ty := lkT [(2, (.int .i64)), (3, (.int .i64)), (4, .bool), (5, .byte), (9, .str), (12, (.int .u64)), (21, (.int .i32)), (22, (.slice (.pair .str (.pair .str (.pair (.slice .str) (.pair (.int .i64) (.int .i64))))))), (24, (.int .i64)), (31, (.slice (.pair .str (.pair .str (.pair .str (.pair .str (.pair (.int .i64) (.pair (.slice .str) .str)))))))), (32, (.slice (.pair (.int .i64) (.pair .str (.int .i64))))), (33, (.slice (.int .i64))), (37, (.slice .str)), (38, (.pair .str (.pair .str (.pair .str (.pair .str (.pair (.int .i64) (.pair (.slice .str) .str))))))), (39, (.pair .str (.pair .str (.pair .str (.pair .str (.pair (.int .i64) (.pair (.slice .str) .str))))))), (40, (.pair (.int .i64) (.pair .str (.int .i64)))), (41, (.pair (.int .i64) (.pair .str (.int .i64)))), (45, (.pair .str (.pair .str (.pair (.slice .str) (.pair (.int .i64) (.int .i64)))))), (46, (.pair .str (.pair .str (.pair (.slice .str) (.pair (.int .i64) (.int .i64)))))), (59, (.slice .bool)), (63, (.pair .str .str)), (64, (.pair .str .str)), (75, (.mp .bool)), (76, (.pair (.slice .bool) (.pair (.slice .bool) (.mp .bool)))), (77, (.pair (.slice .bool) (.pair (.slice .bool) (.mp .bool)))), (79, (.mp (.int .i64))), (94, (.int .u64)), (110, (.pair .byte .byte)), (111, (.pair .byte .byte)), (116, (.int .u32)), (129, (.ptr .byte))]
theorem mixed : Tryd.prog.follows .mixedOrders = true := by kernel_rfl
def bodyOf (f : Func) : Code := match f.body with | some c => c | none => .skip
end Go.Proofs.YtahlodpolggeiaaDoor
set_option linter.unusedVariables false
set_option maxRecDepth 100000
namespace Go.Proofs
open Go.Shelf
def Tryd.lays106_ren : Go.Shelf.Ren := ⟨fun | 106 => 40 | 213 => 65 | 265 => 83 | n => n, fun | 9 => 9 | 3 => 3 | n => n, fun | n => n⟩
theorem Tryd.lays106 : Go.Proofs.Lays.n106 Tryd.prog Tryd.lays106_ren := {
 mixed := by kernel_rfl
 f106 := Tryd.func40.trans (congrArg some (by kernel_rfl))
 f213 := Tryd.func65.trans (congrArg some (by kernel_rfl))
 f265 := Tryd.func83.trans (congrArg some (by kernel_rfl))
 t3 := Tryd.underlying3
 a3 := Tryd.isAgg3
 z3 := Tryd.sizeOf3
 v3 := Tryd.zeroValue3
 t9 := Tryd.underlying9
 a9 := Tryd.isAgg9
 z9 := Tryd.sizeOf9
 v9 := Tryd.zeroValue9 }
def Tryd.lays217_ren : Go.Shelf.Ren := ⟨fun | 217 => 103 | 266 => 107 | n => n, fun | 9 => 9 | 5 => 5 | 3 => 3 | n => n, fun | n => n⟩
theorem Tryd.lays217 : Go.Proofs.Lays.n217 Tryd.prog Tryd.lays217_ren := {
 mixed := by kernel_rfl
 f217 := Tryd.func103.trans (congrArg some (by kernel_rfl))
 f266 := Tryd.func107.trans (congrArg some (by kernel_rfl))
 t3 := Tryd.underlying3
 a3 := Tryd.isAgg3
 z3 := Tryd.sizeOf3
 v3 := Tryd.zeroValue3
 t5 := Tryd.underlying5
 a5 := Tryd.isAgg5
 z5 := Tryd.sizeOf5
 v5 := Tryd.zeroValue5
 t9 := Tryd.underlying9
 a9 := Tryd.isAgg9
 z9 := Tryd.sizeOf9
 v9 := Tryd.zeroValue9 }
def Tryd.lays219_ren : Go.Shelf.Ren := ⟨fun | 219 => 91 | 217 => 103 | 225 => 99 | 224 => 98 | 267 => 104 | 266 => 107 | 314 => 108 | n => n, fun | 9 => 9 | 3 => 3 | 4 => 4 | 5 => 5 | 46 => 94 | 146 => 117 | 51 => 116 | n => n, fun | 1 => 0 | n => n⟩
theorem Tryd.lays219 : Go.Proofs.Lays.n219 Tryd.prog Tryd.lays219_ren := {
 mixed := by kernel_rfl
 f217 := Tryd.func103.trans (congrArg some (by kernel_rfl))
 f219 := Tryd.func91.trans (congrArg some (by kernel_rfl))
 f224 := Tryd.func98.trans (congrArg some (by kernel_rfl))
 f225 := Tryd.func99.trans (congrArg some (by kernel_rfl))
 f266 := Tryd.func107.trans (congrArg some (by kernel_rfl))
 f267 := Tryd.func104.trans (congrArg some (by kernel_rfl))
 f314 := Tryd.func108.trans (congrArg some (by kernel_rfl))
 t3 := Tryd.underlying3
 a3 := Tryd.isAgg3
 z3 := Tryd.sizeOf3
 v3 := Tryd.zeroValue3
 t4 := Tryd.underlying4
 a4 := Tryd.isAgg4
 z4 := Tryd.sizeOf4
 v4 := Tryd.zeroValue4
 t5 := Tryd.underlying5
 a5 := Tryd.isAgg5
 z5 := Tryd.sizeOf5
 v5 := Tryd.zeroValue5
 t9 := Tryd.underlying9
 a9 := Tryd.isAgg9
 z9 := Tryd.sizeOf9
 v9 := Tryd.zeroValue9
 t46 := Tryd.underlying94
 a46 := Tryd.isAgg94
 z46 := Tryd.sizeOf94
 v46 := Tryd.zeroValue94
 t51 := Tryd.underlying116
 a51 := Tryd.isAgg116
 z51 := Tryd.sizeOf116
 v51 := Tryd.zeroValue116
 t146 := Tryd.underlying117
 a146 := Tryd.isAgg117
 z146 := Tryd.sizeOf117
 v146 := Tryd.zeroValue117
 g1 := by kernel_rfl }
def Tryd.lays138_ren : Go.Shelf.Ren := ⟨fun | 138 => 101 | 195 => 105 | 218 => 106 | 143 => 102 | 219 => 91 | 217 => 103 | 225 => 99 | 224 => 98 | 267 => 104 | 266 => 107 | 314 => 108 | n => n, fun | 9 => 9 | 3 => 3 | 4 => 4 | 5 => 5 | 0 => 0 | 46 => 94 | 146 => 117 | 51 => 116 | n => n, fun | 1 => 0 | n => n⟩
theorem Tryd.lays138 : Go.Proofs.Lays.n138 Tryd.prog Tryd.lays138_ren := {
 mixed := by kernel_rfl
 f138 := Tryd.func101.trans (congrArg some (by kernel_rfl))
 f143 := Tryd.func102.trans (congrArg some (by kernel_rfl))
 f195 := Tryd.func105.trans (congrArg some (by kernel_rfl))
 f217 := Tryd.func103.trans (congrArg some (by kernel_rfl))
 f218 := Tryd.func106.trans (congrArg some (by kernel_rfl))
 f219 := Tryd.func91.trans (congrArg some (by kernel_rfl))
 f224 := Tryd.func98.trans (congrArg some (by kernel_rfl))
 f225 := Tryd.func99.trans (congrArg some (by kernel_rfl))
 f266 := Tryd.func107.trans (congrArg some (by kernel_rfl))
 f267 := Tryd.func104.trans (congrArg some (by kernel_rfl))
 f314 := Tryd.func108.trans (congrArg some (by kernel_rfl))
 t0 := Tryd.underlying0
 a0 := Tryd.isAgg0
 z0 := Tryd.sizeOf0
 v0 := Tryd.zeroValue0
 t3 := Tryd.underlying3
 a3 := Tryd.isAgg3
 z3 := Tryd.sizeOf3
 v3 := Tryd.zeroValue3
 t4 := Tryd.underlying4
 a4 := Tryd.isAgg4
 z4 := Tryd.sizeOf4
 v4 := Tryd.zeroValue4
 t5 := Tryd.underlying5
 a5 := Tryd.isAgg5
 z5 := Tryd.sizeOf5
 v5 := Tryd.zeroValue5
 t9 := Tryd.underlying9
 a9 := Tryd.isAgg9
 z9 := Tryd.sizeOf9
 v9 := Tryd.zeroValue9
 t46 := Tryd.underlying94
 a46 := Tryd.isAgg94
 z46 := Tryd.sizeOf94
 v46 := Tryd.zeroValue94
 t51 := Tryd.underlying116
 a51 := Tryd.isAgg116
 z51 := Tryd.sizeOf116
 v51 := Tryd.zeroValue116
 t146 := Tryd.underlying117
 a146 := Tryd.isAgg117
 z146 := Tryd.sizeOf117
 v146 := Tryd.zeroValue117
 g1 := by kernel_rfl }
def Tryd.lays160_ren : Go.Shelf.Ren := ⟨fun | 160 => 35 | 232 => 54 | 231 => 53 | 227 => 55 | 234 => 57 | 233 => 56 | 236 => 59 | 235 => 58 | 228 => 74 | 271 => 77 | 151 => 76 | 197 => 75 | 120 => 88 | 152 => 87 | 260 => 86 | 137 => 96 | 119 => 97 | 224 => 98 | 225 => 99 | 217 => 103 | 266 => 107 | n => n, fun | 9 => 9 | 4 => 4 | 3 => 3 | 5 => 5 | 117 => 84 | 116 => 83 | 0 => 0 | 124 => 87 | 21 => 21 | 105 => 100 | 46 => 94 | 119 => 109 | 139 => 112 | 138 => 111 | n => n, fun | 3 => 1 | 4 => 2 | n => n⟩
theorem Tryd.lays160 : Go.Proofs.Lays.n160 Tryd.prog Tryd.lays160_ren := {
 mixed := by kernel_rfl
 f119 := Tryd.func97.trans (congrArg some (by kernel_rfl))
 f120 := Tryd.func88.trans (congrArg some (by kernel_rfl))
 f137 := Tryd.func96.trans (congrArg some (by kernel_rfl))
 f151 := Tryd.func76.trans (congrArg some (by kernel_rfl))
 f152 := Tryd.func87.trans (congrArg some (by kernel_rfl))
 f160 := Tryd.func35.trans (congrArg some (by kernel_rfl))
 f197 := Tryd.func75.trans (congrArg some (by kernel_rfl))
 f217 := Tryd.func103.trans (congrArg some (by kernel_rfl))
 f224 := Tryd.func98.trans (congrArg some (by kernel_rfl))
 f225 := Tryd.func99.trans (congrArg some (by kernel_rfl))
 f227 := Tryd.func55.trans (congrArg some (by kernel_rfl))
 f228 := Tryd.func74.trans (congrArg some (by kernel_rfl))
 f231 := Tryd.func53.trans (congrArg some (by kernel_rfl))
 f232 := Tryd.func54.trans (congrArg some (by kernel_rfl))
 f233 := Tryd.func56.trans (congrArg some (by kernel_rfl))
 f234 := Tryd.func57.trans (congrArg some (by kernel_rfl))
 f235 := Tryd.func58.trans (congrArg some (by kernel_rfl))
 f236 := Tryd.func59.trans (congrArg some (by kernel_rfl))
 f260 := Tryd.func86.trans (congrArg some (by kernel_rfl))
 f266 := Tryd.func107.trans (congrArg some (by kernel_rfl))
 f271 := Tryd.func77.trans (congrArg some (by kernel_rfl))
 t0 := Tryd.underlying0
 a0 := Tryd.isAgg0
 z0 := Tryd.sizeOf0
 v0 := Tryd.zeroValue0
 t3 := Tryd.underlying3
 a3 := Tryd.isAgg3
 z3 := Tryd.sizeOf3
 v3 := Tryd.zeroValue3
 t4 := Tryd.underlying4
 a4 := Tryd.isAgg4
 z4 := Tryd.sizeOf4
 v4 := Tryd.zeroValue4
 t5 := Tryd.underlying5
 a5 := Tryd.isAgg5
 z5 := Tryd.sizeOf5
 v5 := Tryd.zeroValue5
 t9 := Tryd.underlying9
 a9 := Tryd.isAgg9
 z9 := Tryd.sizeOf9
 v9 := Tryd.zeroValue9
 t21 := Tryd.underlying21
 a21 := Tryd.isAgg21
 z21 := Tryd.sizeOf21
 v21 := Tryd.zeroValue21
 t46 := Tryd.underlying94
 a46 := Tryd.isAgg94
 z46 := Tryd.sizeOf94
 v46 := Tryd.zeroValue94
 t105 := Tryd.underlying100
 a105 := Tryd.isAgg100
 z105 := Tryd.sizeOf100
 v105 := Tryd.zeroValue100
 t116 := Tryd.underlying83
 a116 := Tryd.isAgg83
 z116 := Tryd.sizeOf83
 t117 := Tryd.underlying84
 a117 := Tryd.isAgg84
 z117 := Tryd.sizeOf84
 v117 := Tryd.zeroValue84
 t119 := Tryd.underlying109
 a119 := Tryd.isAgg109
 z119 := Tryd.sizeOf109
 t124 := Tryd.underlying87
 a124 := Tryd.isAgg87
 z124 := Tryd.sizeOf87
 v124 := Tryd.zeroValue87
 t138 := Tryd.underlying111
 a138 := Tryd.isAgg111
 z138 := Tryd.sizeOf111
 v138 := Tryd.zeroValue111
 t139 := Tryd.underlying112
 a139 := Tryd.isAgg112
 z139 := Tryd.sizeOf112
 v139 := Tryd.zeroValue112
 g3 := by kernel_rfl
 g4 := by kernel_rfl }
def Tryd.laysC17_ren : Go.Shelf.Ren := ⟨fun | 17 => 71 | 15 => 85 | 20 => 95 | n => n, fun | 9 => 9 | 23 => 97 | 4 => 4 | 3 => 3 | 0 => 0 | 21 => 21 | n => n, fun | n => n⟩
theorem Tryd.laysC17 : Go.Proofs.LaysGw.n17 Tryd.prog Tryd.laysC17_ren := {
 mixed := by kernel_rfl
 f15 := Tryd.func85.trans (congrArg some (by kernel_rfl))
 f17 := Tryd.func71.trans (congrArg some (by kernel_rfl))
 f20 := Tryd.func95.trans (congrArg some (by kernel_rfl))
 t0 := Tryd.underlying0
 a0 := Tryd.isAgg0
 z0 := Tryd.sizeOf0
 v0 := Tryd.zeroValue0
 i0 := by kernel_rfl
 t3 := Tryd.underlying3
 a3 := Tryd.isAgg3
 z3 := Tryd.sizeOf3
 v3 := Tryd.zeroValue3
 i3 := by kernel_rfl
 t4 := Tryd.underlying4
 a4 := Tryd.isAgg4
 z4 := Tryd.sizeOf4
 v4 := Tryd.zeroValue4
 i4 := by kernel_rfl
 t9 := Tryd.underlying9
 a9 := Tryd.isAgg9
 z9 := Tryd.sizeOf9
 v9 := Tryd.zeroValue9
 i9 := by kernel_rfl
 t21 := Tryd.underlying21
 a21 := Tryd.isAgg21
 z21 := Tryd.sizeOf21
 v21 := Tryd.zeroValue21
 i21 := by kernel_rfl
 t23 := Tryd.underlying97
 a23 := Tryd.isAgg97
 z23 := Tryd.sizeOf97
 v23 := Tryd.zeroValue97
 i23 := by kernel_rfl }
end Go.Proofs
namespace Go.Proofs.YtahlodpolggeiaaDoor
open Go Go.RowKit Go.Shelf Go.Lib Go.Proofs.YtahlodpolggeiaaDoor.Eng
noncomputable def strings_Compare.f (a b : ByteArray) : Option Int := some (Lib.compareBytes a.data.toList b.data.toList)
noncomputable def strings_Compare.fn : TFn := ⟨[.str, .str], [.int .i64], fun x => strings_Compare.f x.1 x.2⟩
theorem strings_Compare.ok : FnOK Tryd.prog 40 strings_Compare.fn := by
 refine ⟨enters_of (c := bodyOf Tryd.f40) Tryd.func40 (by kernel_rfl) (by kernel_rfl), ?_⟩
 rintro ⟨a, b⟩ r hr
 cases hr
 exact FPure.of_callsS (P := Tryd.prog) (f := 40) (args := [.string a, .string b]) (fun w => Any.strings_Compare Tryd.lays106 a b w)
noncomputable def internal_stringslite_IndexByte.f (s : ByteArray) (c : UInt8) : Option Int := some (Lib.indexByte s.data.toList c)
noncomputable def internal_stringslite_IndexByte.fn : TFn := ⟨[.str, .byte], [.int .i64], fun x => internal_stringslite_IndexByte.f x.1 x.2⟩
theorem internal_stringslite_IndexByte.ok : FnOK Tryd.prog 103 internal_stringslite_IndexByte.fn := by
 refine ⟨enters_of (c := bodyOf Tryd.f103) Tryd.func103 (by kernel_rfl) (by kernel_rfl), ?_⟩
 rintro ⟨s, c⟩ r hr
 cases hr
 refine FPure.of_callsS (P := Tryd.prog) (f := 103) (args := [.string s, .int .u8 (c.toNat : Int)]) (fun w => ?_)
 have h := Any.stringslite_IndexByte Tryd.lays217 s (c.toNat : Int) w
 have e : ((c.toNat : Int)).toNat.toUInt8 = c := by
  show UInt8.ofNat (c.toNat) = c
  exact UInt8.ofNat_toNat
 rw [e] at h
 exact h
noncomputable def internal_stringslite_Index.f (s sep : ByteArray) : Option Int := ck (sep.data.toList.length = 1) (some (Lib.indexByte s.data.toList (sep.data.toList.headD 0)))
noncomputable def internal_stringslite_Index.fn : TFn := ⟨[.str, .str], [.int .i64], fun x => internal_stringslite_Index.f x.1 x.2⟩
theorem internal_stringslite_Index.ok : FnOK Tryd.prog 91 internal_stringslite_Index.fn := by
 refine ⟨enters_of (c := bodyOf Tryd.f91) Tryd.func91 (by kernel_rfl) (by kernel_rfl), ?_⟩
 rintro ⟨s, sep⟩ r hr
 obtain ⟨h1, h2⟩ := ck_some (show ck _ _ = some r from hr)
 cases h2
 obtain ⟨c, hc⟩ := List.length_eq_one_iff.1 h1
 have hs : sep = ⟨#[c]⟩ := by
  apply ByteArray.ext
  apply Array.toList_inj.1
  exact hc
 subst hs
 exact FPure.of_callsS (P := Tryd.prog) (f := 91) (args := [.string s, .string ⟨#[c]⟩]) (fun w => Any.stringslite_Index_one Tryd.lays219 s c w)
noncomputable def strings_Count.f (s sep : ByteArray) : Option Int := ck (sep.data.toList.length = 1) (some ((Lib.countByte s.data.toList (sep.data.toList.headD 0) : Nat)))
noncomputable def strings_Count.fn : TFn := ⟨[.str, .str], [.int .i64], fun x => strings_Count.f x.1 x.2⟩
theorem strings_Count.ok : FnOK Tryd.prog 101 strings_Count.fn := by
 refine ⟨enters_of (c := bodyOf Tryd.f101) Tryd.func101 (by kernel_rfl) (by kernel_rfl), ?_⟩
 rintro ⟨s, sep⟩ r hr
 obtain ⟨h1, h2⟩ := ck_some (show ck _ _ = some r from hr)
 cases h2
 obtain ⟨c, hc⟩ := List.length_eq_one_iff.1 h1
 have hs : sep = ⟨#[c]⟩ := by
  apply ByteArray.ext
  apply Array.toList_inj.1
  exact hc
 subst hs
 exact FPure.of_callsS (P := Tryd.prog) (f := 101) (args := [.string s, .string ⟨#[c]⟩]) (fun w => Any.strings_Count_one Tryd.lays138 s c w)
noncomputable def strings_Trim.f (s cs : ByteArray) : Option ByteArray := ck (s.size ≤ 9223372036854775807 ∧ cs.size < 4294967281 ∧ cs.data.toList.all (fun b => decide (b.toNat < 128)) = true) (some ⟨(Lib.trimS s.data.toList cs.data.toList).toArray⟩)
noncomputable def strings_Trim.fn : TFn := ⟨[.str, .str], [.str], fun x => strings_Trim.f x.1 x.2⟩
theorem strings_Trim.ok : FnOK Tryd.prog 35 strings_Trim.fn := by
 refine ⟨enters_of (c := bodyOf Tryd.f35) Tryd.func35 (by kernel_rfl) (by kernel_rfl), ?_⟩
 rintro ⟨s, cs⟩ r hr
 obtain ⟨⟨h1, h2, h3⟩, h4⟩ := ck_some (show ck _ _ = some r from hr)
 cases h4
 have h := fun w => Any.strings_Trim_laid Tryd.lays160 (by kernel_rfl) s cs w h1 h2 (ascii_of_all h3)
 exact FPure.of_calls (P := Tryd.prog) (f := 35) (args := [.string s, .string cs]) h
def notPlain (r : Nat) : Bool := decide (r < 33 ∨ 126 < r)
theorem isPlain_runes (w : World) : PredAtRunes Tryd.prog 72 #[] notPlain w := by
 intro W x hx hb
 have e : notPlain x = (decide ((x : Int) < 33) || decide (126 < (x : Int))) := by
  unfold notPlain
  by_cases h1 : x < 33
  ·have h2 : (x : Int) < 33 := by omega
   simp [h1, h2]
  ·by_cases h3 : 126 < x
   ·have h4 : 126 < (x : Int) := by omega
    simp [h3, h4]
   ·have h2 : ¬ (x : Int) < 33 := by omega
    have h4 : ¬ 126 < (x : Int) := by omega
    simp [h1, h3, h2, h4]
 unfold FnGives
 go_enter Tryd.func72, Tryd.ntmps72
 go_wp2
 all_goals go_ret
 all_goals refine ⟨?_, 0, rfl⟩
 ·rw [e]; rfl
 ·rfl
theorem FPure.of_callsA {P : Program} {f : Nat} {args : List AV} {vals : List Value} {r : Value} (hl : args.length = vals.length) (hv : ∀ (σ : Nat → Option Blk) (F : Nat → Prop) (w : World) (j : Nat) (x : AV) (v : Value), args[j]? = some x → RepV σ F w x v → vals[j]? = some v)
  (h : ∀ w : World, Calls P f vals.toArray w fun e w' => e = .returned r ∧ Below w.heap.size w w') : FPure P f args (.v r) := by
 intro σ F w vs hr hl' hv'
 have hvs : vs = vals := by
  apply List.ext_getElem?
  intro j
  by_cases hj : j < args.length
  ·have hj2 : j < vs.length := by rw [← hl']; exact hj
   have := hv σ F w j args[j] vs[j] (List.getElem?_eq_getElem hj) (hv' j args[j] vs[j] (List.getElem?_eq_getElem hj) (List.getElem?_eq_getElem hj2))
   rw [this, List.getElem?_eq_getElem hj2]
  ·rw [List.getElem?_eq_none (by omega), List.getElem?_eq_none (by omega)]
 subst hvs
 have hno : ∀ id g, ¬ hasB σ id g := fun id g h => by
  obtain ⟨k, h, _⟩ := h
  rw [hr.out id (Nat.zero_le _)] at h; cases h
 refine (h w).mono ?_
 rintro e w' ⟨rfl, hb⟩
 refine ⟨.v r, [], σ, F, r, ⟨rfl, rfl⟩, rfl, .f _ _ (.v _), ⟨fun id o ho => by simp at ho, hr.out, hr.inj, fun id g h => absurd h (hno id g), fun b hb' => Nat.lt_of_lt_of_le (hr.flt b hb') hb.size, hr.lay.mono (fun _ h => h) (fun b hb' => hb.block b (hr.flt b hb'))⟩, ⟨hb.os, hb.tape, hb.output, hb.size, fun b hb' _ => hb.block b hb'⟩, fun id g h => absurd h (hno id g), fun b h => .inl h, fun id h => absurd h (Nat.not_lt_zero _), Nat.le_refl _⟩
noncomputable def strings_ContainsFunc_f72.f (s : ByteArray) (_ : Unit) : Option Bool := some (decide (0 ≤ Lib.idxFunc notPlain true s))
noncomputable def strings_ContainsFunc_f72.fn : TFn := ⟨[.str, .fnc 72], [.bool], fun x => strings_ContainsFunc_f72.f x.1 x.2⟩
theorem strings_ContainsFunc_f72.ok : FnOK Tryd.prog 71 strings_ContainsFunc_f72.fn := by
 refine ⟨enters_of (c := bodyOf Tryd.f71) Tryd.func71 (by kernel_rfl) (by kernel_rfl), ?_⟩
 rintro ⟨s, u⟩ r hr
 cases hr
 have h := fun w => Any.strings_ContainsFunc_runes Tryd.laysC17 72 #[] (enters_of Tryd.func72 (by kernel_rfl) rfl) notPlain s w (isPlain_runes w)
 refine FPure.of_callsA (P := Tryd.prog) (f := 71) (args := [.v (.string s), .fn 72 []]) (vals := [.string s, .func (.func 72) #[] #[]]) rfl (fun σ F w j x v hx hr => ?_) h
 match j, hx with
 | 0, hx => cases hx; rw [RepV.val hr]; rfl
 | 1, hx =>
  cases hx
  obtain ⟨vs, rfl, hl, _⟩ := RepV.fnv hr
  have : vs = [] := List.eq_nil_of_length_eq_zero hl.symm
  subst this
  rfl
end Go.Proofs.YtahlodpolggeiaaDoor
