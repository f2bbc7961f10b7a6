/-
  The types of this seat's program, as a table. No condition.
-/
import Derived.Test.YtnehieeplbgaiacDoorProg
import Derived.Test.YtnehieeplbgaiacDoorTypC
import Derived.KernelRfl
import Derived.Shelf.Abstract
import Derived.Tactics
import Derived.WalkKit
import Derived.Ground.NamesProg
import Derived.Shelf.Small.Strs
import Derived.Shelf.Strings.SlTrimAscii
import Derived.Shelf.Strings.Search2
import Derived.Shelf.Strings.Count
import Derived.Shelf.Slices.Reverse
set_option linter.unusedVariables false
set_option maxRecDepth 100000
namespace Go.Proofs.YtnehieeplbgaiacDoor
open Go Go.RowKit Go.Proofs.YtnehieeplbgaiacDoor.Eng
/-- The types of this seat's program, as a table. -/
def ti1 : TI := ⟨.other, 1, 8, .nilFunc⟩
def ti2 : TI := ⟨.int .i64, 1, 8, (.int .i64 0)⟩
def ti3 : TI := ⟨.int .i64, 1, 8, (.int .i64 0)⟩
def ti4 : TI := ⟨.bool, 1, 1, (.bool false)⟩
def ti5 : TI := ⟨.int .u8, 1, 1, (.int .u8 0)⟩
def ti9 : TI := ⟨.str, 1, 16, (.string ⟨#[]⟩)⟩
def ti12 : TI := ⟨.int .u64, 1, 8, (.int .u64 0)⟩
def ti17 : TI := ⟨.ptr 122, 1, 8, (.pointer none)⟩
def ti20 : TI := ⟨.other, 1, 16, .nilIface⟩
def ti21 : TI := ⟨.int .i32, 1, 4, (.int .i32 0)⟩
def ti22 : TI := ⟨.slice 65, 1, 24, (.slice none 0 0)⟩
def ti23 : TI := ⟨.slice 60, 1, 24, (.slice none 0 0)⟩
def ti24 : TI := ⟨.struct [(0, 22), (1, 23)], 2, 48, (.agg #[(.slice none 0 0), (.slice none 0 0)])⟩
def ti25 : TI := ⟨.struct [(0, 22), (1, 23)], 2, 48, (.agg #[(.slice none 0 0), (.slice none 0 0)])⟩
def ti26 : TI := ⟨.slice 5, 1, 24, (.slice none 0 0)⟩
def ti27 : TI := ⟨.other, 1, 8, .nilFunc⟩
def ti28 : TI := ⟨.other, 1, 8, .nilFunc⟩
def ti29 : TI := ⟨.slice 34, 1, 24, (.slice none 0 0)⟩
def ti30 : TI := ⟨.int .i64, 1, 8, (.int .i64 0)⟩
def ti32 : TI := ⟨.other, 1, 8, .nilFunc⟩
def ti33 : TI := ⟨.struct [(0, 3), (1, 9), (2, 3), (3, 3), (4, 26)], 5, 64, (.agg #[(.int .i64 0), (.string ⟨#[]⟩), (.int .i64 0), (.int .i64 0), (.slice none 0 0)])⟩
def ti34 : TI := ⟨.struct [(0, 3), (1, 9), (2, 3), (3, 3), (4, 26)], 5, 64, (.agg #[(.int .i64 0), (.string ⟨#[]⟩), (.int .i64 0), (.int .i64 0), (.slice none 0 0)])⟩
def ti36 : TI := ⟨.other, 1, 8, .nilFunc⟩
def ti37 : TI := ⟨.other, 1, 8, .nilFunc⟩
def ti38 : TI := ⟨.slice 3, 1, 24, (.slice none 0 0)⟩
def ti40 : TI := ⟨.other, 1, 8, .nilFunc⟩
def ti41 : TI := ⟨.struct [(0, 3), (1, 3)], 2, 16, (.agg #[(.int .i64 0), (.int .i64 0)])⟩
def ti42 : TI := ⟨.struct [(0, 3), (1, 3)], 2, 16, (.agg #[(.int .i64 0), (.int .i64 0)])⟩
def ti43 : TI := ⟨.struct [(0, 3), (1, 3)], 2, 16, (.agg #[(.int .i64 0), (.int .i64 0)])⟩
def ti44 : TI := ⟨.struct [(0, 3), (1, 3)], 2, 16, (.agg #[(.int .i64 0), (.int .i64 0)])⟩
def ti45 : TI := ⟨.slice 44, 1, 24, (.slice none 0 0)⟩
def ti46 : TI := ⟨.other, 1, 8, .nilFunc⟩
def ti47 : TI := ⟨.other, 1, 8, .nilFunc⟩
def ti48 : TI := ⟨.other, 1, 8, .nilFunc⟩
def ti49 : TI := ⟨.other, 1, 8, .nilFunc⟩
def ti50 : TI := ⟨.other, 1, 8, .nilFunc⟩
def ti52 : TI := ⟨.other, 1, 8, .nilFunc⟩
def ti53 : TI := ⟨.ptr 25, 1, 8, (.pointer none)⟩
def ti54 : TI := ⟨.int .u64, 1, 8, (.int .u64 0)⟩
def ti55 : TI := ⟨.other, 1, 8, .nilFunc⟩
def ti56 : TI := ⟨.other, 1, 8, .nilFunc⟩
def ti57 : TI := ⟨.other, 1, 8, .nilFunc⟩
def ti58 : TI := ⟨.other, 1, 8, .nilFunc⟩
def ti59 : TI := ⟨.struct [(0, 9), (1, 3), (2, 26)], 3, 48, (.agg #[(.string ⟨#[]⟩), (.int .i64 0), (.slice none 0 0)])⟩
def ti60 : TI := ⟨.struct [(0, 9), (1, 3), (2, 26)], 3, 48, (.agg #[(.string ⟨#[]⟩), (.int .i64 0), (.slice none 0 0)])⟩
def ti62 : TI := ⟨.other, 1, 8, .nilFunc⟩
def ti63 : TI := ⟨.other, 1, 8, .nilFunc⟩
def ti64 : TI := ⟨.struct [(0, 9), (1, 26)], 2, 40, (.agg #[(.string ⟨#[]⟩), (.slice none 0 0)])⟩
def ti65 : TI := ⟨.struct [(0, 9), (1, 26)], 2, 40, (.agg #[(.string ⟨#[]⟩), (.slice none 0 0)])⟩
def ti66 : TI := ⟨.other, 1, 8, .nilFunc⟩
def ti67 : TI := ⟨.other, 1, 8, .nilFunc⟩
def ti68 : TI := ⟨.other, 1, 8, .nilFunc⟩
def ti69 : TI := ⟨.other, 1, 8, .nilFunc⟩
def ti70 : TI := ⟨.other, 1, 8, .nilFunc⟩
def ti71 : TI := ⟨.other, 1, 8, .nilFunc⟩
def ti72 : TI := ⟨.other, 1, 8, .nilFunc⟩
def ti73 : TI := ⟨.other, 1, 8, .nilFunc⟩
def ti74 : TI := ⟨.other, 1, 8, .nilFunc⟩
def ti75 : TI := ⟨.other, 1, 8, .nilFunc⟩
def ti76 : TI := ⟨.other, 1, 8, .nilFunc⟩
def ti77 : TI := ⟨.other, 1, 8, .nilFunc⟩
def ti78 : TI := ⟨.ptr 60, 1, 8, (.pointer none)⟩
def ti79 : TI := ⟨.other, 1, 8, .nilFunc⟩
def ti80 : TI := ⟨.other, 1, 8, .nilFunc⟩
def ti84 : TI := ⟨.other, 1, 8, .nilFunc⟩
def ti85 : TI := ⟨.other, 1, 8, .nilFunc⟩
def ti86 : TI := ⟨.ptr 82, 1, 8, (.pointer none)⟩
def ti87 : TI := ⟨.int .u64, 1, 8, (.int .u64 0)⟩
def ti88 : TI := ⟨.other, 1, 8, .nilFunc⟩
def ti89 : TI := ⟨.other, 1, 8, .nilFunc⟩
def ti90 : TI := ⟨.other, 1, 8, .nilFunc⟩
def ti91 : TI := ⟨.other, 1, 8, .nilFunc⟩
def ti93 : TI := ⟨.other, 1, 8, .nilFunc⟩
def ti94 : TI := ⟨.other, 1, 8, .nilFunc⟩
def ti95 : TI := ⟨.other, 1, 8, .nilFunc⟩
def ti96 : TI := ⟨.other, 1, 8, .nilFunc⟩
def ti97 : TI := ⟨.other, 1, 8, .nilFunc⟩
def ti98 : TI := ⟨.other, 1, 8, .nilFunc⟩
def ti100 : TI := ⟨.struct [(0, 5), (1, 5)], 2, 2, (.agg #[(.int .u8 0), (.int .u8 0)])⟩
def ti101 : TI := ⟨.struct [(0, 5), (1, 5)], 2, 2, (.agg #[(.int .u8 0), (.int .u8 0)])⟩
def ti103 : TI := ⟨.other, 1, 8, .nilFunc⟩
def ti104 : TI := ⟨.other, 1, 8, .nilFunc⟩
def ti105 : TI := ⟨.other, 1, 8, .nilFunc⟩
def ti106 : TI := ⟨.other, 1, 8, .nilFunc⟩
def ti107 : TI := ⟨.other, 1, 8, .nilFunc⟩
def ti113 : TI := ⟨.other, 1, 8, .nilFunc⟩
def ti114 : TI := ⟨.int .u32, 1, 4, (.int .u32 0)⟩
def ti117 : TI := ⟨.other, 1, 8, .nilFunc⟩
def ti118 : TI := ⟨.ptr 5, 1, 8, (.pointer none)⟩
def tl : List (Nat × TI) := [(1, ti1), (2, ti2), (3, ti3), (4, ti4), (5, ti5), (9, ti9), (12, ti12), (17, ti17), (20, ti20), (21, ti21), (22, ti22), (23, ti23), (24, ti24), (25, ti25), (26, ti26), (27, ti27), (28, ti28), (29, ti29), (30, ti30), (32, ti32), (33, ti33), (34, ti34), (36, ti36), (37, ti37), (38, ti38), (40, ti40), (41, ti41), (42, ti42), (43, ti43), (44, ti44), (45, ti45), (46, ti46), (47, ti47), (48, ti48), (49, ti49), (50, ti50), (52, ti52), (53, ti53), (54, ti54), (55, ti55), (56, ti56), (57, ti57), (58, ti58), (59, ti59), (60, ti60), (62, ti62), (63, ti63), (64, ti64), (65, ti65), (66, ti66), (67, ti67), (68, ti68), (69, ti69), (70, ti70), (71, ti71), (72, ti72), (73, ti73), (74, ti74), (75, ti75), (76, ti76), (77, ti77), (78, ti78), (79, ti79), (80, ti80), (84, ti84), (85, ti85), (86, ti86), (87, ti87), (88, ti88), (89, ti89), (90, ti90), (91, ti91), (93, ti93), (94, ti94), (95, ti95), (96, ti96), (97, ti97), (98, ti98), (100, ti100), (101, ti101), (103, ti103), (104, ti104), (105, ti105), (106, ti106), (107, ti107), (113, ti113), (114, ti114), (117, ti117), (118, ti118)]
def T : Tab := tabGet tl
theorem tiok1 : TIOk Tryd.prog 1 ti1 := ⟨⟨_, Tryd.underlying1, trivial⟩, by kernel_rfl, rfl, rfl⟩
theorem tiok2 : TIOk Tryd.prog 2 ti2 := ⟨Tryd.underlying2, by kernel_rfl, rfl, rfl⟩
theorem tiok3 : TIOk Tryd.prog 3 ti3 := ⟨Tryd.underlying3, by kernel_rfl, rfl, rfl⟩
theorem tiok4 : TIOk Tryd.prog 4 ti4 := ⟨Tryd.underlying4, by kernel_rfl, rfl, rfl⟩
theorem tiok5 : TIOk Tryd.prog 5 ti5 := ⟨Tryd.underlying5, by kernel_rfl, rfl, rfl⟩
theorem tiok9 : TIOk Tryd.prog 9 ti9 := ⟨Tryd.underlying9, by kernel_rfl, rfl, rfl⟩
theorem tiok12 : TIOk Tryd.prog 12 ti12 := ⟨Tryd.underlying12, by kernel_rfl, rfl, rfl⟩
theorem tiok17 : TIOk Tryd.prog 17 ti17 := ⟨Tryd.underlying17, by kernel_rfl, rfl, rfl⟩
theorem tiok20 : TIOk Tryd.prog 20 ti20 := ⟨⟨_, Tryd.underlying20, trivial⟩, by kernel_rfl, rfl, rfl⟩
theorem tiok21 : TIOk Tryd.prog 21 ti21 := ⟨Tryd.underlying21, by kernel_rfl, rfl, rfl⟩
theorem tiok22 : TIOk Tryd.prog 22 ti22 := ⟨Tryd.underlying22, by kernel_rfl, rfl, rfl⟩
theorem tiok23 : TIOk Tryd.prog 23 ti23 := ⟨Tryd.underlying23, by kernel_rfl, rfl, rfl⟩
theorem tiok24 : TIOk Tryd.prog 24 ti24 := ⟨⟨_, Tryd.underlying24, rfl⟩, by kernel_rfl, rfl, rfl⟩
theorem tiok25 : TIOk Tryd.prog 25 ti25 := ⟨⟨_, Tryd.underlying25, rfl⟩, by kernel_rfl, rfl, rfl⟩
theorem tiok26 : TIOk Tryd.prog 26 ti26 := ⟨Tryd.underlying26, by kernel_rfl, rfl, rfl⟩
theorem tiok27 : TIOk Tryd.prog 27 ti27 := ⟨⟨_, Tryd.underlying27, trivial⟩, by kernel_rfl, rfl, rfl⟩
theorem tiok28 : TIOk Tryd.prog 28 ti28 := ⟨⟨_, Tryd.underlying28, trivial⟩, by kernel_rfl, rfl, rfl⟩
theorem tiok29 : TIOk Tryd.prog 29 ti29 := ⟨Tryd.underlying29, by kernel_rfl, rfl, rfl⟩
theorem tiok30 : TIOk Tryd.prog 30 ti30 := ⟨Tryd.underlying30, by kernel_rfl, rfl, rfl⟩
theorem tiok32 : TIOk Tryd.prog 32 ti32 := ⟨⟨_, Tryd.underlying32, trivial⟩, by kernel_rfl, rfl, rfl⟩
theorem tiok33 : TIOk Tryd.prog 33 ti33 := ⟨⟨_, Tryd.underlying33, rfl⟩, by kernel_rfl, rfl, rfl⟩
theorem tiok34 : TIOk Tryd.prog 34 ti34 := ⟨⟨_, Tryd.underlying34, rfl⟩, by kernel_rfl, rfl, rfl⟩
theorem tiok36 : TIOk Tryd.prog 36 ti36 := ⟨⟨_, Tryd.underlying36, trivial⟩, by kernel_rfl, rfl, rfl⟩
theorem tiok37 : TIOk Tryd.prog 37 ti37 := ⟨⟨_, Tryd.underlying37, trivial⟩, by kernel_rfl, rfl, rfl⟩
theorem tiok38 : TIOk Tryd.prog 38 ti38 := ⟨Tryd.underlying38, by kernel_rfl, rfl, rfl⟩
theorem tiok40 : TIOk Tryd.prog 40 ti40 := ⟨⟨_, Tryd.underlying40, trivial⟩, by kernel_rfl, rfl, rfl⟩
theorem tiok41 : TIOk Tryd.prog 41 ti41 := ⟨⟨_, Tryd.underlying41, rfl⟩, by kernel_rfl, rfl, rfl⟩
theorem tiok42 : TIOk Tryd.prog 42 ti42 := ⟨⟨_, Tryd.underlying42, rfl⟩, by kernel_rfl, rfl, rfl⟩
theorem tiok43 : TIOk Tryd.prog 43 ti43 := ⟨⟨_, Tryd.underlying43, rfl⟩, by kernel_rfl, rfl, rfl⟩
theorem tiok44 : TIOk Tryd.prog 44 ti44 := ⟨⟨_, Tryd.underlying44, rfl⟩, by kernel_rfl, rfl, rfl⟩
theorem tiok45 : TIOk Tryd.prog 45 ti45 := ⟨Tryd.underlying45, by kernel_rfl, rfl, rfl⟩
theorem tiok46 : TIOk Tryd.prog 46 ti46 := ⟨⟨_, Tryd.underlying46, trivial⟩, by kernel_rfl, rfl, rfl⟩
theorem tiok47 : TIOk Tryd.prog 47 ti47 := ⟨⟨_, Tryd.underlying47, trivial⟩, by kernel_rfl, rfl, rfl⟩
theorem tiok48 : TIOk Tryd.prog 48 ti48 := ⟨⟨_, Tryd.underlying48, trivial⟩, by kernel_rfl, rfl, rfl⟩
theorem tiok49 : TIOk Tryd.prog 49 ti49 := ⟨⟨_, Tryd.underlying49, trivial⟩, by kernel_rfl, rfl, rfl⟩
theorem tiok50 : TIOk Tryd.prog 50 ti50 := ⟨⟨_, Tryd.underlying50, trivial⟩, by kernel_rfl, rfl, rfl⟩
theorem tiok52 : TIOk Tryd.prog 52 ti52 := ⟨⟨_, Tryd.underlying52, trivial⟩, by kernel_rfl, rfl, rfl⟩
theorem tiok53 : TIOk Tryd.prog 53 ti53 := ⟨Tryd.underlying53, by kernel_rfl, rfl, rfl⟩
theorem tiok54 : TIOk Tryd.prog 54 ti54 := ⟨Tryd.underlying54, by kernel_rfl, rfl, rfl⟩
theorem tiok55 : TIOk Tryd.prog 55 ti55 := ⟨⟨_, Tryd.underlying55, trivial⟩, by kernel_rfl, rfl, rfl⟩
theorem tiok56 : TIOk Tryd.prog 56 ti56 := ⟨⟨_, Tryd.underlying56, trivial⟩, by kernel_rfl, rfl, rfl⟩
theorem tiok57 : TIOk Tryd.prog 57 ti57 := ⟨⟨_, Tryd.underlying57, trivial⟩, by kernel_rfl, rfl, rfl⟩
theorem tiok58 : TIOk Tryd.prog 58 ti58 := ⟨⟨_, Tryd.underlying58, trivial⟩, by kernel_rfl, rfl, rfl⟩
theorem tiok59 : TIOk Tryd.prog 59 ti59 := ⟨⟨_, Tryd.underlying59, rfl⟩, by kernel_rfl, rfl, rfl⟩
theorem tiok60 : TIOk Tryd.prog 60 ti60 := ⟨⟨_, Tryd.underlying60, rfl⟩, by kernel_rfl, rfl, rfl⟩
theorem tiok62 : TIOk Tryd.prog 62 ti62 := ⟨⟨_, Tryd.underlying62, trivial⟩, by kernel_rfl, rfl, rfl⟩
theorem tiok63 : TIOk Tryd.prog 63 ti63 := ⟨⟨_, Tryd.underlying63, trivial⟩, by kernel_rfl, rfl, rfl⟩
theorem tiok64 : TIOk Tryd.prog 64 ti64 := ⟨⟨_, Tryd.underlying64, rfl⟩, by kernel_rfl, rfl, rfl⟩
theorem tiok65 : TIOk Tryd.prog 65 ti65 := ⟨⟨_, Tryd.underlying65, rfl⟩, by kernel_rfl, rfl, rfl⟩
theorem tiok66 : TIOk Tryd.prog 66 ti66 := ⟨⟨_, Tryd.underlying66, trivial⟩, by kernel_rfl, rfl, rfl⟩
theorem tiok67 : TIOk Tryd.prog 67 ti67 := ⟨⟨_, Tryd.underlying67, trivial⟩, by kernel_rfl, rfl, rfl⟩
theorem tiok68 : TIOk Tryd.prog 68 ti68 := ⟨⟨_, Tryd.underlying68, trivial⟩, by kernel_rfl, rfl, rfl⟩
theorem tiok69 : TIOk Tryd.prog 69 ti69 := ⟨⟨_, Tryd.underlying69, trivial⟩, by kernel_rfl, rfl, rfl⟩
theorem tiok70 : TIOk Tryd.prog 70 ti70 := ⟨⟨_, Tryd.underlying70, trivial⟩, by kernel_rfl, rfl, rfl⟩
theorem tiok71 : TIOk Tryd.prog 71 ti71 := ⟨⟨_, Tryd.underlying71, trivial⟩, by kernel_rfl, rfl, rfl⟩
theorem tiok72 : TIOk Tryd.prog 72 ti72 := ⟨⟨_, Tryd.underlying72, trivial⟩, by kernel_rfl, rfl, rfl⟩
theorem tiok73 : TIOk Tryd.prog 73 ti73 := ⟨⟨_, Tryd.underlying73, trivial⟩, by kernel_rfl, rfl, rfl⟩
theorem tiok74 : TIOk Tryd.prog 74 ti74 := ⟨⟨_, Tryd.underlying74, trivial⟩, by kernel_rfl, rfl, rfl⟩
theorem tiok75 : TIOk Tryd.prog 75 ti75 := ⟨⟨_, Tryd.underlying75, trivial⟩, by kernel_rfl, rfl, rfl⟩
theorem tiok76 : TIOk Tryd.prog 76 ti76 := ⟨⟨_, Tryd.underlying76, trivial⟩, by kernel_rfl, rfl, rfl⟩
theorem tiok77 : TIOk Tryd.prog 77 ti77 := ⟨⟨_, Tryd.underlying77, trivial⟩, by kernel_rfl, rfl, rfl⟩
theorem tiok78 : TIOk Tryd.prog 78 ti78 := ⟨Tryd.underlying78, by kernel_rfl, rfl, rfl⟩
theorem tiok79 : TIOk Tryd.prog 79 ti79 := ⟨⟨_, Tryd.underlying79, trivial⟩, by kernel_rfl, rfl, rfl⟩
theorem tiok80 : TIOk Tryd.prog 80 ti80 := ⟨⟨_, Tryd.underlying80, trivial⟩, by kernel_rfl, rfl, rfl⟩
theorem tiok84 : TIOk Tryd.prog 84 ti84 := ⟨⟨_, Tryd.underlying84, trivial⟩, by kernel_rfl, rfl, rfl⟩
theorem tiok85 : TIOk Tryd.prog 85 ti85 := ⟨⟨_, Tryd.underlying85, trivial⟩, by kernel_rfl, rfl, rfl⟩
theorem tiok86 : TIOk Tryd.prog 86 ti86 := ⟨Tryd.underlying86, by kernel_rfl, rfl, rfl⟩
theorem tiok87 : TIOk Tryd.prog 87 ti87 := ⟨Tryd.underlying87, by kernel_rfl, rfl, rfl⟩
theorem tiok88 : TIOk Tryd.prog 88 ti88 := ⟨⟨_, Tryd.underlying88, trivial⟩, by kernel_rfl, rfl, rfl⟩
theorem tiok89 : TIOk Tryd.prog 89 ti89 := ⟨⟨_, Tryd.underlying89, trivial⟩, by kernel_rfl, rfl, rfl⟩
theorem tiok90 : TIOk Tryd.prog 90 ti90 := ⟨⟨_, Tryd.underlying90, trivial⟩, by kernel_rfl, rfl, rfl⟩
theorem tiok91 : TIOk Tryd.prog 91 ti91 := ⟨⟨_, Tryd.underlying91, trivial⟩, by kernel_rfl, rfl, rfl⟩
theorem tiok93 : TIOk Tryd.prog 93 ti93 := ⟨⟨_, Tryd.underlying93, trivial⟩, by kernel_rfl, rfl, rfl⟩
theorem tiok94 : TIOk Tryd.prog 94 ti94 := ⟨⟨_, Tryd.underlying94, trivial⟩, by kernel_rfl, rfl, rfl⟩
theorem tiok95 : TIOk Tryd.prog 95 ti95 := ⟨⟨_, Tryd.underlying95, trivial⟩, by kernel_rfl, rfl, rfl⟩
theorem tiok96 : TIOk Tryd.prog 96 ti96 := ⟨⟨_, Tryd.underlying96, trivial⟩, by kernel_rfl, rfl, rfl⟩
theorem tiok97 : TIOk Tryd.prog 97 ti97 := ⟨⟨_, Tryd.underlying97, trivial⟩, by kernel_rfl, rfl, rfl⟩
theorem tiok98 : TIOk Tryd.prog 98 ti98 := ⟨⟨_, Tryd.underlying98, trivial⟩, by kernel_rfl, rfl, rfl⟩
theorem tiok100 : TIOk Tryd.prog 100 ti100 := ⟨⟨_, Tryd.underlying100, rfl⟩, by kernel_rfl, rfl, rfl⟩
theorem tiok101 : TIOk Tryd.prog 101 ti101 := ⟨⟨_, Tryd.underlying101, rfl⟩, by kernel_rfl, rfl, rfl⟩
theorem tiok103 : TIOk Tryd.prog 103 ti103 := ⟨⟨_, Tryd.underlying103, trivial⟩, by kernel_rfl, rfl, rfl⟩
theorem tiok104 : TIOk Tryd.prog 104 ti104 := ⟨⟨_, Tryd.underlying104, trivial⟩, by kernel_rfl, rfl, rfl⟩
theorem tiok105 : TIOk Tryd.prog 105 ti105 := ⟨⟨_, Tryd.underlying105, trivial⟩, by kernel_rfl, rfl, rfl⟩
theorem tiok106 : TIOk Tryd.prog 106 ti106 := ⟨⟨_, Tryd.underlying106, trivial⟩, by kernel_rfl, rfl, rfl⟩
theorem tiok107 : TIOk Tryd.prog 107 ti107 := ⟨⟨_, Tryd.underlying107, trivial⟩, by kernel_rfl, rfl, rfl⟩
theorem tiok113 : TIOk Tryd.prog 113 ti113 := ⟨⟨_, Tryd.underlying113, trivial⟩, by kernel_rfl, rfl, rfl⟩
theorem tiok114 : TIOk Tryd.prog 114 ti114 := ⟨Tryd.underlying114, by kernel_rfl, rfl, rfl⟩
theorem tiok117 : TIOk Tryd.prog 117 ti117 := ⟨⟨_, Tryd.underlying117, trivial⟩, by kernel_rfl, rfl, rfl⟩
theorem tiok118 : TIOk Tryd.prog 118 ti118 := ⟨Tryd.underlying118, by kernel_rfl, rfl, rfl⟩
theorem tabOK : Zh Tryd.prog T := by
  refine Ziq ?_
  simp only [tl, List.forall_mem_cons]
  exact ⟨tiok1, tiok2, tiok3, tiok4, tiok5, tiok9, tiok12, tiok17, tiok20, tiok21, tiok22, tiok23, tiok24, tiok25, tiok26, tiok27, tiok28, tiok29, tiok30, tiok32, tiok33, tiok34, tiok36, tiok37, tiok38, tiok40, tiok41, tiok42, tiok43, tiok44, tiok45, tiok46, tiok47, tiok48, tiok49, tiok50, tiok52, tiok53, tiok54, tiok55, tiok56, tiok57, tiok58, tiok59, tiok60, tiok62, tiok63, tiok64, tiok65, tiok66, tiok67, tiok68, tiok69, tiok70, tiok71, tiok72, tiok73, tiok74, tiok75, tiok76, tiok77, tiok78, tiok79, tiok80, tiok84, tiok85, tiok86, tiok87, tiok88, tiok89, tiok90, tiok91, tiok93, tiok94, tiok95, tiok96, tiok97, tiok98, tiok100, tiok101, tiok103, tiok104, tiok105, tiok106, tiok107, tiok113, tiok114, tiok117, tiok118, fun _ h => by cases h⟩
def TYt : Nat → Option Ty := lkT [(2, (.int .i64)), (3, (.int .i64)), (4, .bool), (5, .byte), (9, .str), (12, (.int .u64)), (21, (.int .i32)), (22, (.slice (.pair .str (.slice .byte)))), (23, (.slice (.pair .str (.pair (.int .i64) (.slice .byte))))), (24, (.pair (.slice (.pair .str (.slice .byte))) (.slice (.pair .str (.pair (.int .i64) (.slice .byte)))))), (25, (.pair (.slice (.pair .str (.slice .byte))) (.slice (.pair .str (.pair (.int .i64) (.slice .byte)))))), (26, (.slice .byte)), (29, (.slice (.pair (.int .i64) (.pair .str (.pair (.int .i64) (.pair (.int .i64) (.slice .byte))))))), (30, (.int .i64)), (33, (.pair (.int .i64) (.pair .str (.pair (.int .i64) (.pair (.int .i64) (.slice .byte)))))), (34, (.pair (.int .i64) (.pair .str (.pair (.int .i64) (.pair (.int .i64) (.slice .byte)))))), (38, (.slice (.int .i64))), (41, (.pair (.int .i64) (.int .i64))), (42, (.pair (.int .i64) (.int .i64))), (43, (.pair (.int .i64) (.int .i64))), (44, (.pair (.int .i64) (.int .i64))), (45, (.slice (.pair (.int .i64) (.int .i64)))), (53, (.ptr (.pair (.slice (.pair .str (.slice .byte))) (.slice (.pair .str (.pair (.int .i64) (.slice .byte))))))), (54, (.int .u64)), (59, (.pair .str (.pair (.int .i64) (.slice .byte)))), (60, (.pair .str (.pair (.int .i64) (.slice .byte)))), (64, (.pair .str (.slice .byte))), (65, (.pair .str (.slice .byte))), (78, (.ptr (.pair .str (.pair (.int .i64) (.slice .byte))))), (87, (.int .u64)), (100, (.pair .byte .byte)), (101, (.pair .byte .byte)), (114, (.int .u32)), (118, (.ptr .byte))]
theorem mixed : Tryd.prog.follows .mixedOrders = true := by kernel_rfl
def Zp (f : Func) : Code := match f.body with | some c => c | none => .skip
end Go.Proofs.YtnehieeplbgaiacDoor
set_option linter.unusedVariables false
set_option maxRecDepth 100000
namespace Go.Proofs
open Go.Shelf
def Tryd.lays106_ren : Go.Shelf.Ren := ⟨fun | 106 => 31 | 213 => 45 | 265 => 53 | n => n, fun | 9 => 9 | 3 => 3 | n => n, fun | n => n⟩
theorem Tryd.lays106 : Go.Proofs.Lays.n106 Tryd.prog Tryd.lays106_ren := {
  mixed := by kernel_rfl
  f106 := Tryd.func31.trans (congrArg some (by kernel_rfl))
  f213 := Tryd.func45.trans (congrArg some (by kernel_rfl))
  f265 := Tryd.func53.trans (congrArg some (by kernel_rfl))
  t3 := Tryd.underlying3
  a3 := Tryd.isAgg3
  z3 := Tryd.sizeOf3
  v3 := Tryd.zeroValue3
  t9 := Tryd.underlying9
  a9 := Tryd.isAgg9
  z9 := Tryd.sizeOf9
  v9 := Tryd.zeroValue9 }
def Tryd.lays160_ren : Go.Shelf.Ren := ⟨fun | 160 => 27 | 232 => 39 | 231 => 38 | 227 => 40 | 234 => 42 | 233 => 41 | 236 => 44 | 235 => 43 | 228 => 49 | 271 => 52 | 151 => 51 | 197 => 50 | 120 => 59 | 152 => 58 | 260 => 57 | 137 => 62 | 119 => 63 | 224 => 64 | 225 => 65 | 217 => 67 | 266 => 68 | n => n, fun | 9 => 9 | 4 => 4 | 3 => 3 | 5 => 5 | 117 => 83 | 116 => 82 | 0 => 0 | 124 => 86 | 21 => 21 | 105 => 92 | 46 => 87 | 119 => 99 | 139 => 102 | 138 => 101 | n => n, fun | 3 => 1 | 4 => 2 | n => n⟩
theorem Tryd.lays160 : Go.Proofs.Lays.n160 Tryd.prog Tryd.lays160_ren := {
  mixed := by kernel_rfl
  f119 := Tryd.func63.trans (congrArg some (by kernel_rfl))
  f120 := Tryd.func59.trans (congrArg some (by kernel_rfl))
  f137 := Tryd.func62.trans (congrArg some (by kernel_rfl))
  f151 := Tryd.func51.trans (congrArg some (by kernel_rfl))
  f152 := Tryd.func58.trans (congrArg some (by kernel_rfl))
  f160 := Tryd.func27.trans (congrArg some (by kernel_rfl))
  f197 := Tryd.func50.trans (congrArg some (by kernel_rfl))
  f217 := Tryd.func67.trans (congrArg some (by kernel_rfl))
  f224 := Tryd.func64.trans (congrArg some (by kernel_rfl))
  f225 := Tryd.func65.trans (congrArg some (by kernel_rfl))
  f227 := Tryd.func40.trans (congrArg some (by kernel_rfl))
  f228 := Tryd.func49.trans (congrArg some (by kernel_rfl))
  f231 := Tryd.func38.trans (congrArg some (by kernel_rfl))
  f232 := Tryd.func39.trans (congrArg some (by kernel_rfl))
  f233 := Tryd.func41.trans (congrArg some (by kernel_rfl))
  f234 := Tryd.func42.trans (congrArg some (by kernel_rfl))
  f235 := Tryd.func43.trans (congrArg some (by kernel_rfl))
  f236 := Tryd.func44.trans (congrArg some (by kernel_rfl))
  f260 := Tryd.func57.trans (congrArg some (by kernel_rfl))
  f266 := Tryd.func68.trans (congrArg some (by kernel_rfl))
  f271 := Tryd.func52.trans (congrArg some (by kernel_rfl))
  t0 := Tryd.underlying0
  a0 := Tryd.isAgg0
  z0 := Tryd.sizeOf0
  v0 := Tryd.zeroValue0
  t3 := Tryd.underlying3
  a3 := Tryd.isAgg3
  z3 := Tryd.sizeOf3
  v3 := Tryd.zeroValue3
  t4 := Tryd.underlying4
  a4 := Tryd.isAgg4
  z4 := Tryd.sizeOf4
  v4 := Tryd.zeroValue4
  t5 := Tryd.underlying5
  a5 := Tryd.isAgg5
  z5 := Tryd.sizeOf5
  v5 := Tryd.zeroValue5
  t9 := Tryd.underlying9
  a9 := Tryd.isAgg9
  z9 := Tryd.sizeOf9
  v9 := Tryd.zeroValue9
  t21 := Tryd.underlying21
  a21 := Tryd.isAgg21
  z21 := Tryd.sizeOf21
  v21 := Tryd.zeroValue21
  t46 := Tryd.underlying87
  a46 := Tryd.isAgg87
  z46 := Tryd.sizeOf87
  v46 := Tryd.zeroValue87
  t105 := Tryd.underlying92
  a105 := Tryd.isAgg92
  z105 := Tryd.sizeOf92
  v105 := Tryd.zeroValue92
  t116 := Tryd.underlying82
  a116 := Tryd.isAgg82
  z116 := Tryd.sizeOf82
  t117 := Tryd.underlying83
  a117 := Tryd.isAgg83
  z117 := Tryd.sizeOf83
  v117 := Tryd.zeroValue83
  t119 := Tryd.underlying99
  a119 := Tryd.isAgg99
  z119 := Tryd.sizeOf99
  t124 := Tryd.underlying86
  a124 := Tryd.isAgg86
  z124 := Tryd.sizeOf86
  v124 := Tryd.zeroValue86
  t138 := Tryd.underlying101
  a138 := Tryd.isAgg101
  z138 := Tryd.sizeOf101
  v138 := Tryd.zeroValue101
  t139 := Tryd.underlying102
  a139 := Tryd.isAgg102
  z139 := Tryd.sizeOf102
  v139 := Tryd.zeroValue102
  g3 := by kernel_rfl
  g4 := by kernel_rfl }
end Go.Proofs
namespace Go.Proofs.YtnehieeplbgaiacDoor
open Go Go.RowKit Go.Shelf Go.Lib Go.Proofs.YtnehieeplbgaiacDoor.Eng
noncomputable def Qx.f (a b : ByteArray) : Option Int := some (Lib.compareBytes a.data.toList b.data.toList)
noncomputable def Qx.fn : TFn := ⟨[.str, .str], [.int .i64], fun x => Qx.f x.1 x.2⟩
theorem Qx.ok : FnOK Tryd.prog 31 Qx.fn := by
  refine ⟨enters_of (c := Zp Tryd.f31) Tryd.func31 (by kernel_rfl) (by kernel_rfl), ?_⟩
  rintro ⟨a, b⟩ r hr
  cases hr
  exact FPure.of_callsS (P := Tryd.prog) (f := 31) (args := [.string a, .string b]) (fun w => Any.strings_Compare Tryd.lays106 a b w)
/-- strings.Trim, at bytes below 128. -/
noncomputable def Q10.f (s cs : ByteArray) : Option ByteArray := ck (s.size ≤ 9223372036854775807 ∧ cs.size < 4294967281 ∧ cs.data.toList.all (fun b => decide (b.toNat < 128)) = true) (some ⟨(Lib.trimS s.data.toList cs.data.toList).toArray⟩)
noncomputable def Q10.fn : TFn := ⟨[.str, .str], [.str], fun x => Q10.f x.1 x.2⟩
theorem Q10.ok : FnOK Tryd.prog 27 Q10.fn := by
  refine ⟨enters_of (c := Zp Tryd.f27) Tryd.func27 (by kernel_rfl) (by kernel_rfl), ?_⟩
  rintro ⟨s, cs⟩ r hr
  obtain ⟨⟨h1, h2, h3⟩, h4⟩ := Z3r (show ck _ _ = some r from hr)
  cases h4
  have h := fun w => Any.strings_Trim_laid Tryd.lays160 (by kernel_rfl) s cs w h1 h2 (ascii_of_all h3)
  exact FPure.of_calls (P := Tryd.prog) (f := 27) (args := [.string s, .string cs]) h
def ren_34 : Go.Shelf.Ren := ⟨fun | 24 => 34 | n => n, fun | 24 => 23 | 9 => 60 | n => n, fun | n => n⟩
theorem sl_34 : SlL Tryd.prog ren_34 ti60 := {
  mixed := by kernel_rfl
  t3 := Tryd.underlying3
  a3 := Tryd.isAgg3
  z3 := Tryd.sizeOf3
  v3 := Tryd.zeroValue3
  t4 := Tryd.underlying4
  a4 := Tryd.isAgg4
  z4 := Tryd.sizeOf4
  v4 := Tryd.zeroValue4
  t24 := Tryd.underlying23
  a24 := Tryd.isAgg23
  z24 := Tryd.sizeOf23
  v24 := Tryd.zeroValue23
  ti := tiok60
  pos := by decide
  bpos := by decide }
theorem tr_34 : TrOK Tryd.prog T 34 false 60 := ⟨ti60, rfl, (enters_of (c := Zp Tryd.f34) Tryd.func34 (by kernel_rfl) (by kernel_rfl)), del_ok sl_34 (nm := Tryd.f34.name) (Tryd.func34.trans (congrArg some (by kernel_rfl)))⟩
def ren_36 : Go.Shelf.Ren := ⟨fun | 22 => 36 | 29 => 47 | 30 => 48 | n => n, fun | 24 => 23 | 9 => 60 | n => n, fun | n => n⟩
theorem sl_36 : SlL Tryd.prog ren_36 ti60 := {
  mixed := by kernel_rfl
  t3 := Tryd.underlying3
  a3 := Tryd.isAgg3
  z3 := Tryd.sizeOf3
  v3 := Tryd.zeroValue3
  t4 := Tryd.underlying4
  a4 := Tryd.isAgg4
  z4 := Tryd.sizeOf4
  v4 := Tryd.zeroValue4
  t24 := Tryd.underlying23
  a24 := Tryd.isAgg23
  z24 := Tryd.sizeOf23
  v24 := Tryd.zeroValue23
  ti := tiok60
  pos := by decide
  bpos := by decide }
theorem ov_36 : OvOK Tryd.prog ren_36 := fun args w => Go.run_callFunc_extern Tryd.func47 (by kernel_rfl) (by kernel_rfl) (by kernel_rfl) (by kernel_rfl) args w
theorem tr_36 : TrOK Tryd.prog T 36 true 60 := ⟨ti60, rfl, (enters_of (c := Zp Tryd.f36) Tryd.func36 (by kernel_rfl) (by kernel_rfl)), Zk9 sl_36 (nm := Tryd.f36.name) (Tryd.func36.trans (congrArg some (by kernel_rfl))) ov_36⟩
def ren_46 : Go.Shelf.Ren := ⟨fun | 22 => 46 | 29 => 54 | 30 => 55 | n => n, fun | 24 => 22 | 9 => 65 | n => n, fun | n => n⟩
theorem sl_46 : SlL Tryd.prog ren_46 ti65 := {
  mixed := by kernel_rfl
  t3 := Tryd.underlying3
  a3 := Tryd.isAgg3
  z3 := Tryd.sizeOf3
  v3 := Tryd.zeroValue3
  t4 := Tryd.underlying4
  a4 := Tryd.isAgg4
  z4 := Tryd.sizeOf4
  v4 := Tryd.zeroValue4
  t24 := Tryd.underlying22
  a24 := Tryd.isAgg22
  z24 := Tryd.sizeOf22
  v24 := Tryd.zeroValue22
  ti := tiok65
  pos := by decide
  bpos := by decide }
theorem ov_46 : OvOK Tryd.prog ren_46 := fun args w => Go.run_callFunc_extern Tryd.func54 (by kernel_rfl) (by kernel_rfl) (by kernel_rfl) (by kernel_rfl) args w
theorem tr_46 : TrOK Tryd.prog T 46 true 65 := ⟨ti65, rfl, (enters_of (c := Zp Tryd.f46) Tryd.func46 (by kernel_rfl) (by kernel_rfl)), Zk9 sl_46 (nm := Tryd.f46.name) (Tryd.func46.trans (congrArg some (by kernel_rfl))) ov_46⟩
end Go.Proofs.YtnehieeplbgaiacDoor
