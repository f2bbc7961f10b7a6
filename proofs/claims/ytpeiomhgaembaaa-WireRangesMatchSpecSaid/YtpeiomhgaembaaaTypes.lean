/-
  The types of this seat's program, as a table. No condition.
-/
import Derived.Test.YtpeiomhgaembaaaProg
import Derived.Test.YtpeiomhgaembaaaTypB
import Derived.KernelRfl
import Derived.Shelf.Abstract
import Derived.Tactics
import Derived.Shelf.SlSortCmp.WholeK
import Derived.Shelf.SlSortCmp.NoneTotal
import Derived.Ground.SlsfProg
import Derived.Sort.Statements
import Derived.WalkKit
import Derived.Lib.BitFns
import Derived.Sort.AssemblyPlain
set_option linter.unusedVariables false
namespace Go.Proofs.Ytpeiomhgaembaaa
open Go Go.RowKit Go.Proofs.Ytpeiomhgaembaaa.Eng
def ti1 : TI := ⟨.other, 1, 8, .nilFunc⟩
def ti2 : TI := ⟨.int .i64, 1, 8, (.int .i64 0)⟩
def ti3 : TI := ⟨.int .i64, 1, 8, (.int .i64 0)⟩
def ti4 : TI := ⟨.bool, 1, 1, (.bool false)⟩
def ti5 : TI := ⟨.int .u8, 1, 1, (.int .u8 0)⟩
def ti9 : TI := ⟨.str, 1, 16, (.string ⟨#[]⟩)⟩
def ti12 : TI := ⟨.int .u64, 1, 8, (.int .u64 0)⟩
def ti17 : TI := ⟨.ptr 113, 1, 8, (.pointer none)⟩
def ti20 : TI := ⟨.other, 1, 16, .nilIface⟩
def ti21 : TI := ⟨.int .i32, 1, 4, (.int .i32 0)⟩
def ti22 : TI := ⟨.struct [(0, 3), (1, 3)], 2, 16, (.agg #[(.int .i64 0), (.int .i64 0)])⟩
def ti23 : TI := ⟨.struct [(0, 3), (1, 3)], 2, 16, (.agg #[(.int .i64 0), (.int .i64 0)])⟩
def ti24 : TI := ⟨.slice 31, 1, 24, (.slice none 0 0)⟩
def ti25 : TI := ⟨.slice 3, 1, 24, (.slice none 0 0)⟩
def ti26 : TI := ⟨.int .i64, 1, 8, (.int .i64 0)⟩
def ti28 : TI := ⟨.other, 1, 8, .nilFunc⟩
def ti29 : TI := ⟨.other, 1, 8, .nilFunc⟩
def ti30 : TI := ⟨.struct [(0, 3), (1, 3)], 2, 16, (.agg #[(.int .i64 0), (.int .i64 0)])⟩
def ti31 : TI := ⟨.struct [(0, 3), (1, 3)], 2, 16, (.agg #[(.int .i64 0), (.int .i64 0)])⟩
def ti33 : TI := ⟨.other, 1, 8, .nilFunc⟩
def ti34 : TI := ⟨.other, 1, 8, .nilFunc⟩
def ti35 : TI := ⟨.other, 1, 8, .nilFunc⟩
def ti36 : TI := ⟨.other, 1, 8, .nilFunc⟩
def ti37 : TI := ⟨.other, 1, 8, .nilFunc⟩
def ti38 : TI := ⟨.other, 1, 8, .nilFunc⟩
def ti39 : TI := ⟨.slice 44, 1, 24, (.slice none 0 0)⟩
def ti40 : TI := ⟨.other, 1, 8, .nilFunc⟩
def ti42 : TI := ⟨.other, 1, 8, .nilFunc⟩
def ti43 : TI := ⟨.other, 1, 8, .nilFunc⟩
def ti44 : TI := ⟨.slice 5, 1, 24, (.slice none 0 0)⟩
def ti45 : TI := ⟨.slice 49, 1, 24, (.slice none 0 0)⟩
def ti46 : TI := ⟨.other, 1, 8, .nilFunc⟩
def ti47 : TI := ⟨.other, 1, 8, .nilFunc⟩
def ti48 : TI := ⟨.struct [(0, 3), (1, 44)], 2, 32, (.agg #[(.int .i64 0), (.slice none 0 0)])⟩
def ti49 : TI := ⟨.struct [(0, 3), (1, 44)], 2, 32, (.agg #[(.int .i64 0), (.slice none 0 0)])⟩
def ti51 : TI := ⟨.other, 1, 8, .nilFunc⟩
def ti52 : TI := ⟨.other, 1, 8, .nilFunc⟩
def ti53 : TI := ⟨.other, 1, 8, .nilFunc⟩
def ti54 : TI := ⟨.slice 58, 1, 24, (.slice none 0 0)⟩
def ti56 : TI := ⟨.other, 1, 8, .nilFunc⟩
def ti57 : TI := ⟨.struct [(0, 3), (1, 3)], 2, 16, (.agg #[(.int .i64 0), (.int .i64 0)])⟩
def ti58 : TI := ⟨.struct [(0, 3), (1, 3)], 2, 16, (.agg #[(.int .i64 0), (.int .i64 0)])⟩
def ti59 : TI := ⟨.other, 1, 8, .nilFunc⟩
def ti60 : TI := ⟨.other, 1, 8, .nilFunc⟩
def ti61 : TI := ⟨.other, 1, 8, .nilFunc⟩
def ti62 : TI := ⟨.other, 1, 8, .nilFunc⟩
def ti63 : TI := ⟨.other, 1, 8, .nilFunc⟩
def ti64 : TI := ⟨.other, 1, 8, .nilFunc⟩
def ti65 : TI := ⟨.other, 1, 8, .nilFunc⟩
def ti66 : TI := ⟨.other, 1, 8, .nilFunc⟩
def ti67 : TI := ⟨.other, 1, 8, .nilFunc⟩
def ti68 : TI := ⟨.map 9 4, 1, 8, (.map none)⟩
def ti69 : TI := ⟨.other, 1, 8, .nilFunc⟩
def ti70 : TI := ⟨.slice 4, 1, 24, (.slice none 0 0)⟩
def ti71 : TI := ⟨.other, 1, 8, .nilFunc⟩
def ti72 : TI := ⟨.other, 1, 8, .nilFunc⟩
def ti73 : TI := ⟨.other, 1, 8, .nilFunc⟩
def ti74 : TI := ⟨.other, 1, 8, .nilFunc⟩
def ti75 : TI := ⟨.other, 1, 8, .nilFunc⟩
def ti76 : TI := ⟨.other, 1, 8, .nilFunc⟩
def ti77 : TI := ⟨.int .u64, 1, 8, (.int .u64 0)⟩
def ti78 : TI := ⟨.other, 1, 8, .nilFunc⟩
def ti79 : TI := ⟨.int .i64, 1, 8, (.int .i64 0)⟩
def ti81 : TI := ⟨.other, 1, 8, .nilFunc⟩
def ti82 : TI := ⟨.other, 1, 8, .nilFunc⟩
def ti83 : TI := ⟨.other, 1, 8, .nilFunc⟩
def ti85 : TI := ⟨.other, 1, 8, .nilFunc⟩
def ti86 : TI := ⟨.other, 1, 8, .nilFunc⟩
def ti87 : TI := ⟨.int .u32, 1, 4, (.int .u32 0)⟩
def ti88 : TI := ⟨.other, 1, 8, .nilFunc⟩
def ti89 : TI := ⟨.int .u64, 1, 8, (.int .u64 0)⟩
def ti90 : TI := ⟨.int .u64, 1, 8, (.int .u64 0)⟩
def ti91 : TI := ⟨.other, 1, 8, .nilFunc⟩
def ti92 : TI := ⟨.other, 1, 8, .nilFunc⟩
def ti93 : TI := ⟨.other, 1, 8, .nilFunc⟩
def ti94 : TI := ⟨.ptr 3, 1, 8, (.pointer none)⟩
def ti95 : TI := ⟨.other, 1, 8, .nilFunc⟩
def ti96 : TI := ⟨.ptr 90, 1, 8, (.pointer none)⟩
def ti98 : TI := ⟨.other, 1, 8, .nilFunc⟩
def ti99 : TI := ⟨.other, 1, 8, .nilFunc⟩
def ti105 : TI := ⟨.other, 1, 8, .nilFunc⟩
def ti108 : TI := ⟨.other, 1, 8, .nilFunc⟩
def ti109 : TI := ⟨.ptr 5, 1, 8, (.pointer none)⟩
def tl : List (Nat × TI) := [(1, ti1), (2, ti2), (3, ti3), (4, ti4), (5, ti5), (9, ti9), (12, ti12), (17, ti17), (20, ti20), (21, ti21), (22, ti22), (23, ti23), (24, ti24), (25, ti25), (26, ti26), (28, ti28), (29, ti29), (30, ti30), (31, ti31), (33, ti33), (34, ti34), (35, ti35), (36, ti36), (37, ti37), (38, ti38), (39, ti39), (40, ti40), (42, ti42), (43, ti43), (44, ti44), (45, ti45), (46, ti46), (47, ti47), (48, ti48), (49, ti49), (51, ti51), (52, ti52), (53, ti53), (54, ti54), (56, ti56), (57, ti57), (58, ti58), (59, ti59), (60, ti60), (61, ti61), (62, ti62), (63, ti63), (64, ti64), (65, ti65), (66, ti66), (67, ti67), (68, ti68), (69, ti69), (70, ti70), (71, ti71), (72, ti72), (73, ti73), (74, ti74), (75, ti75), (76, ti76), (77, ti77), (78, ti78), (79, ti79), (81, ti81), (82, ti82), (83, ti83), (85, ti85), (86, ti86), (87, ti87), (88, ti88), (89, ti89), (90, ti90), (91, ti91), (92, ti92), (93, ti93), (94, ti94), (95, ti95), (96, ti96), (98, ti98), (99, ti99), (105, ti105), (108, ti108), (109, ti109)]
def T : Tab := tabGet tl
theorem tiok1 : TIOk Try.prog 1 ti1 := ⟨⟨_, Try.underlying1, trivial⟩, by kernel_rfl, rfl, rfl⟩
theorem tiok2 : TIOk Try.prog 2 ti2 := ⟨Try.underlying2, by kernel_rfl, rfl, rfl⟩
theorem tiok3 : TIOk Try.prog 3 ti3 := ⟨Try.underlying3, by kernel_rfl, rfl, rfl⟩
theorem tiok4 : TIOk Try.prog 4 ti4 := ⟨Try.underlying4, by kernel_rfl, rfl, rfl⟩
theorem tiok5 : TIOk Try.prog 5 ti5 := ⟨Try.underlying5, by kernel_rfl, rfl, rfl⟩
theorem tiok9 : TIOk Try.prog 9 ti9 := ⟨Try.underlying9, by kernel_rfl, rfl, rfl⟩
theorem tiok12 : TIOk Try.prog 12 ti12 := ⟨Try.underlying12, by kernel_rfl, rfl, rfl⟩
theorem tiok17 : TIOk Try.prog 17 ti17 := ⟨Try.underlying17, by kernel_rfl, rfl, rfl⟩
theorem tiok20 : TIOk Try.prog 20 ti20 := ⟨⟨_, Try.underlying20, trivial⟩, by kernel_rfl, rfl, rfl⟩
theorem tiok21 : TIOk Try.prog 21 ti21 := ⟨Try.underlying21, by kernel_rfl, rfl, rfl⟩
theorem tiok22 : TIOk Try.prog 22 ti22 := ⟨⟨_, Try.underlying22, rfl⟩, by kernel_rfl, rfl, rfl⟩
theorem tiok23 : TIOk Try.prog 23 ti23 := ⟨⟨_, Try.underlying23, rfl⟩, by kernel_rfl, rfl, rfl⟩
theorem tiok24 : TIOk Try.prog 24 ti24 := ⟨Try.underlying24, by kernel_rfl, rfl, rfl⟩
theorem tiok25 : TIOk Try.prog 25 ti25 := ⟨Try.underlying25, by kernel_rfl, rfl, rfl⟩
theorem tiok26 : TIOk Try.prog 26 ti26 := ⟨Try.underlying26, by kernel_rfl, rfl, rfl⟩
theorem tiok28 : TIOk Try.prog 28 ti28 := ⟨⟨_, Try.underlying28, trivial⟩, by kernel_rfl, rfl, rfl⟩
theorem tiok29 : TIOk Try.prog 29 ti29 := ⟨⟨_, Try.underlying29, trivial⟩, by kernel_rfl, rfl, rfl⟩
theorem tiok30 : TIOk Try.prog 30 ti30 := ⟨⟨_, Try.underlying30, rfl⟩, by kernel_rfl, rfl, rfl⟩
theorem tiok31 : TIOk Try.prog 31 ti31 := ⟨⟨_, Try.underlying31, rfl⟩, by kernel_rfl, rfl, rfl⟩
theorem tiok33 : TIOk Try.prog 33 ti33 := ⟨⟨_, Try.underlying33, trivial⟩, by kernel_rfl, rfl, rfl⟩
theorem tiok34 : TIOk Try.prog 34 ti34 := ⟨⟨_, Try.underlying34, trivial⟩, by kernel_rfl, rfl, rfl⟩
theorem tiok35 : TIOk Try.prog 35 ti35 := ⟨⟨_, Try.underlying35, trivial⟩, by kernel_rfl, rfl, rfl⟩
theorem tiok36 : TIOk Try.prog 36 ti36 := ⟨⟨_, Try.underlying36, trivial⟩, by kernel_rfl, rfl, rfl⟩
theorem tiok37 : TIOk Try.prog 37 ti37 := ⟨⟨_, Try.underlying37, trivial⟩, by kernel_rfl, rfl, rfl⟩
theorem tiok38 : TIOk Try.prog 38 ti38 := ⟨⟨_, Try.underlying38, trivial⟩, by kernel_rfl, rfl, rfl⟩
theorem tiok39 : TIOk Try.prog 39 ti39 := ⟨Try.underlying39, by kernel_rfl, rfl, rfl⟩
theorem tiok40 : TIOk Try.prog 40 ti40 := ⟨⟨_, Try.underlying40, trivial⟩, by kernel_rfl, rfl, rfl⟩
theorem tiok42 : TIOk Try.prog 42 ti42 := ⟨⟨_, Try.underlying42, trivial⟩, by kernel_rfl, rfl, rfl⟩
theorem tiok43 : TIOk Try.prog 43 ti43 := ⟨⟨_, Try.underlying43, trivial⟩, by kernel_rfl, rfl, rfl⟩
theorem tiok44 : TIOk Try.prog 44 ti44 := ⟨Try.underlying44, by kernel_rfl, rfl, rfl⟩
theorem tiok45 : TIOk Try.prog 45 ti45 := ⟨Try.underlying45, by kernel_rfl, rfl, rfl⟩
theorem tiok46 : TIOk Try.prog 46 ti46 := ⟨⟨_, Try.underlying46, trivial⟩, by kernel_rfl, rfl, rfl⟩
theorem tiok47 : TIOk Try.prog 47 ti47 := ⟨⟨_, Try.underlying47, trivial⟩, by kernel_rfl, rfl, rfl⟩
theorem tiok48 : TIOk Try.prog 48 ti48 := ⟨⟨_, Try.underlying48, rfl⟩, by kernel_rfl, rfl, rfl⟩
theorem tiok49 : TIOk Try.prog 49 ti49 := ⟨⟨_, Try.underlying49, rfl⟩, by kernel_rfl, rfl, rfl⟩
theorem tiok51 : TIOk Try.prog 51 ti51 := ⟨⟨_, Try.underlying51, trivial⟩, by kernel_rfl, rfl, rfl⟩
theorem tiok52 : TIOk Try.prog 52 ti52 := ⟨⟨_, Try.underlying52, trivial⟩, by kernel_rfl, rfl, rfl⟩
theorem tiok53 : TIOk Try.prog 53 ti53 := ⟨⟨_, Try.underlying53, trivial⟩, by kernel_rfl, rfl, rfl⟩
theorem tiok54 : TIOk Try.prog 54 ti54 := ⟨Try.underlying54, by kernel_rfl, rfl, rfl⟩
theorem tiok56 : TIOk Try.prog 56 ti56 := ⟨⟨_, Try.underlying56, trivial⟩, by kernel_rfl, rfl, rfl⟩
theorem tiok57 : TIOk Try.prog 57 ti57 := ⟨⟨_, Try.underlying57, rfl⟩, by kernel_rfl, rfl, rfl⟩
theorem tiok58 : TIOk Try.prog 58 ti58 := ⟨⟨_, Try.underlying58, rfl⟩, by kernel_rfl, rfl, rfl⟩
theorem tiok59 : TIOk Try.prog 59 ti59 := ⟨⟨_, Try.underlying59, trivial⟩, by kernel_rfl, rfl, rfl⟩
theorem tiok60 : TIOk Try.prog 60 ti60 := ⟨⟨_, Try.underlying60, trivial⟩, by kernel_rfl, rfl, rfl⟩
theorem tiok61 : TIOk Try.prog 61 ti61 := ⟨⟨_, Try.underlying61, trivial⟩, by kernel_rfl, rfl, rfl⟩
theorem tiok62 : TIOk Try.prog 62 ti62 := ⟨⟨_, Try.underlying62, trivial⟩, by kernel_rfl, rfl, rfl⟩
theorem tiok63 : TIOk Try.prog 63 ti63 := ⟨⟨_, Try.underlying63, trivial⟩, by kernel_rfl, rfl, rfl⟩
theorem tiok64 : TIOk Try.prog 64 ti64 := ⟨⟨_, Try.underlying64, trivial⟩, by kernel_rfl, rfl, rfl⟩
theorem tiok65 : TIOk Try.prog 65 ti65 := ⟨⟨_, Try.underlying65, trivial⟩, by kernel_rfl, rfl, rfl⟩
theorem tiok66 : TIOk Try.prog 66 ti66 := ⟨⟨_, Try.underlying66, trivial⟩, by kernel_rfl, rfl, rfl⟩
theorem tiok67 : TIOk Try.prog 67 ti67 := ⟨⟨_, Try.underlying67, trivial⟩, by kernel_rfl, rfl, rfl⟩
theorem tiok68 : TIOk Try.prog 68 ti68 := ⟨Try.underlying68, by kernel_rfl, rfl, rfl⟩
theorem tiok69 : TIOk Try.prog 69 ti69 := ⟨⟨_, Try.underlying69, trivial⟩, by kernel_rfl, rfl, rfl⟩
theorem tiok70 : TIOk Try.prog 70 ti70 := ⟨Try.underlying70, by kernel_rfl, rfl, rfl⟩
theorem tiok71 : TIOk Try.prog 71 ti71 := ⟨⟨_, Try.underlying71, trivial⟩, by kernel_rfl, rfl, rfl⟩
theorem tiok72 : TIOk Try.prog 72 ti72 := ⟨⟨_, Try.underlying72, trivial⟩, by kernel_rfl, rfl, rfl⟩
theorem tiok73 : TIOk Try.prog 73 ti73 := ⟨⟨_, Try.underlying73, trivial⟩, by kernel_rfl, rfl, rfl⟩
theorem tiok74 : TIOk Try.prog 74 ti74 := ⟨⟨_, Try.underlying74, trivial⟩, by kernel_rfl, rfl, rfl⟩
theorem tiok75 : TIOk Try.prog 75 ti75 := ⟨⟨_, Try.underlying75, trivial⟩, by kernel_rfl, rfl, rfl⟩
theorem tiok76 : TIOk Try.prog 76 ti76 := ⟨⟨_, Try.underlying76, trivial⟩, by kernel_rfl, rfl, rfl⟩
theorem tiok77 : TIOk Try.prog 77 ti77 := ⟨Try.underlying77, by kernel_rfl, rfl, rfl⟩
theorem tiok78 : TIOk Try.prog 78 ti78 := ⟨⟨_, Try.underlying78, trivial⟩, by kernel_rfl, rfl, rfl⟩
theorem tiok79 : TIOk Try.prog 79 ti79 := ⟨Try.underlying79, by kernel_rfl, rfl, rfl⟩
theorem tiok81 : TIOk Try.prog 81 ti81 := ⟨⟨_, Try.underlying81, trivial⟩, by kernel_rfl, rfl, rfl⟩
theorem tiok82 : TIOk Try.prog 82 ti82 := ⟨⟨_, Try.underlying82, trivial⟩, by kernel_rfl, rfl, rfl⟩
theorem tiok83 : TIOk Try.prog 83 ti83 := ⟨⟨_, Try.underlying83, trivial⟩, by kernel_rfl, rfl, rfl⟩
theorem tiok85 : TIOk Try.prog 85 ti85 := ⟨⟨_, Try.underlying85, trivial⟩, by kernel_rfl, rfl, rfl⟩
theorem tiok86 : TIOk Try.prog 86 ti86 := ⟨⟨_, Try.underlying86, trivial⟩, by kernel_rfl, rfl, rfl⟩
theorem tiok87 : TIOk Try.prog 87 ti87 := ⟨Try.underlying87, by kernel_rfl, rfl, rfl⟩
theorem tiok88 : TIOk Try.prog 88 ti88 := ⟨⟨_, Try.underlying88, trivial⟩, by kernel_rfl, rfl, rfl⟩
theorem tiok89 : TIOk Try.prog 89 ti89 := ⟨Try.underlying89, by kernel_rfl, rfl, rfl⟩
theorem tiok90 : TIOk Try.prog 90 ti90 := ⟨Try.underlying90, by kernel_rfl, rfl, rfl⟩
theorem tiok91 : TIOk Try.prog 91 ti91 := ⟨⟨_, Try.underlying91, trivial⟩, by kernel_rfl, rfl, rfl⟩
theorem tiok92 : TIOk Try.prog 92 ti92 := ⟨⟨_, Try.underlying92, trivial⟩, by kernel_rfl, rfl, rfl⟩
theorem tiok93 : TIOk Try.prog 93 ti93 := ⟨⟨_, Try.underlying93, trivial⟩, by kernel_rfl, rfl, rfl⟩
theorem tiok94 : TIOk Try.prog 94 ti94 := ⟨Try.underlying94, by kernel_rfl, rfl, rfl⟩
theorem tiok95 : TIOk Try.prog 95 ti95 := ⟨⟨_, Try.underlying95, trivial⟩, by kernel_rfl, rfl, rfl⟩
theorem tiok96 : TIOk Try.prog 96 ti96 := ⟨Try.underlying96, by kernel_rfl, rfl, rfl⟩
theorem tiok98 : TIOk Try.prog 98 ti98 := ⟨⟨_, Try.underlying98, trivial⟩, by kernel_rfl, rfl, rfl⟩
theorem tiok99 : TIOk Try.prog 99 ti99 := ⟨⟨_, Try.underlying99, trivial⟩, by kernel_rfl, rfl, rfl⟩
theorem tiok105 : TIOk Try.prog 105 ti105 := ⟨⟨_, Try.underlying105, trivial⟩, by kernel_rfl, rfl, rfl⟩
theorem tiok108 : TIOk Try.prog 108 ti108 := ⟨⟨_, Try.underlying108, trivial⟩, by kernel_rfl, rfl, rfl⟩
theorem tiok109 : TIOk Try.prog 109 ti109 := ⟨Try.underlying109, by kernel_rfl, rfl, rfl⟩
theorem tabOK : TabOK Try.prog T := by
 refine tabOK_of ?_
 simp only [tl, List.forall_mem_cons]
 exact ⟨tiok1, tiok2, tiok3, tiok4, tiok5, tiok9, tiok12, tiok17, tiok20, tiok21, tiok22, tiok23, tiok24, tiok25, tiok26, tiok28, tiok29, tiok30, tiok31, tiok33, tiok34, tiok35, tiok36, tiok37, tiok38, tiok39, tiok40, tiok42, tiok43, tiok44, tiok45, tiok46, tiok47, tiok48, tiok49, tiok51, tiok52, tiok53, tiok54, tiok56, tiok57, tiok58, tiok59, tiok60, tiok61, tiok62, tiok63, tiok64, tiok65, tiok66, tiok67, tiok68, tiok69, tiok70, tiok71, tiok72, tiok73, tiok74, tiok75, tiok76, tiok77, tiok78, tiok79, tiok81, tiok82, tiok83, tiok85, tiok86, tiok87, tiok88, tiok89, tiok90, tiok91, tiok92, tiok93, tiok94, tiok95, tiok96, tiok98, tiok99, tiok105, tiok108, tiok109, fun _ h => by cases h⟩
def TYt : Nat → Option Ty := lkT [(2, (.int .i64)), (3, (.int .i64)), (4, .bool), (5, .byte), (9, .str), (12, (.int .u64)), (21, (.int .i32)), (22, (.pair (.int .i64) (.int .i64))), (23, (.pair (.int .i64) (.int .i64))), (24, (.slice (.pair (.int .i64) (.int .i64)))), (25, (.slice (.int .i64))), (26, (.int .i64)), (30, (.pair (.int .i64) (.int .i64))), (31, (.pair (.int .i64) (.int .i64))), (39, (.slice (.slice .byte))), (44, (.slice .byte)), (45, (.slice (.pair (.int .i64) (.slice .byte)))), (48, (.pair (.int .i64) (.slice .byte))), (49, (.pair (.int .i64) (.slice .byte))), (54, (.slice (.pair (.int .i64) (.int .i64)))), (57, (.pair (.int .i64) (.int .i64))), (58, (.pair (.int .i64) (.int .i64))), (70, (.slice .bool)), (77, (.int .u64)), (79, (.int .i64)), (87, (.int .u32)), (89, (.int .u64)), (90, (.int .u64)), (94, (.ptr (.int .i64))), (96, (.ptr (.int .u64))), (109, (.ptr .byte))]
theorem mixed : Try.prog.follows .mixedOrders = true := by kernel_rfl
def bodyOf (f : Func) : Code := match f.body with | some c => c | none => .skip
end Go.Proofs.Ytpeiomhgaembaaa
set_option linter.unusedVariables false
set_option linter.unusedSimpArgs false
namespace Go.Proofs.Ytpeiomhgaembaaa
open Go Go.Proofs.Ytpeiomhgaembaaa.Eng
abbrev Sp := Int × Int
def covS (l : List Sp) (i : Int) : Prop := ∃ x ∈ l, x.1 ≤ i ∧ i < x.2
theorem covS_nil (i : Int) : ¬ covS [] i := fun ⟨x, h, _⟩ => by cases h
theorem covS_cons {x : Sp} {l : List Sp} {i : Int} : covS (x :: l) i ↔ (x.1 ≤ i ∧ i < x.2) ∨ covS l i := by
 constructor
 ·rintro ⟨y, hy, h⟩
  rcases List.mem_cons.1 hy with rfl | hy
  ·exact .inl h
  ·exact .inr ⟨y, hy, h⟩
 ·rintro (h | ⟨y, hy, h⟩)
  ·exact ⟨x, List.mem_cons_self .., h⟩
  ·exact ⟨y, List.mem_cons_of_mem _ hy, h⟩
theorem covS_app {a b : List Sp} {i : Int} : covS (a ++ b) i ↔ covS a i ∨ covS b i := by
 constructor
 ·rintro ⟨y, hy, h⟩
  rcases List.mem_append.1 hy with hy | hy
  ·exact .inl ⟨y, hy, h⟩
  ·exact .inr ⟨y, hy, h⟩
 ·rintro (⟨y, hy, h⟩ | ⟨y, hy, h⟩)
  ·exact ⟨y, List.mem_append_left _ hy, h⟩
  ·exact ⟨y, List.mem_append_right _ hy, h⟩
theorem covS_one {x : Sp} {i : Int} : covS [x] i ↔ x.1 ≤ i ∧ i < x.2 := by
 rw [covS_cons]
 exact ⟨fun h => h.elim id (fun h => absurd h (covS_nil i)), .inl⟩
theorem covS_perm {a b : List Sp} (h : a.Perm b) (i : Int) : covS a i ↔ covS b i :=
 ⟨fun ⟨x, hx, h1⟩ => ⟨x, h.mem_iff.1 hx, h1⟩, fun ⟨x, hx, h1⟩ => ⟨x, h.mem_iff.2 hx, h1⟩⟩
structure NF (l : List Sp) : Prop where
 all : ∀ x ∈ l, 0 ≤ x.1 ∧ x.1 < x.2
 ord : l.Pairwise fun x y => x.2 < y.1
theorem NF.nil : NF [] := ⟨fun x h => (by cases h), List.Pairwise.nil⟩
theorem NF.tail {x : Sp} {l : List Sp} (h : NF (x :: l)) : NF l := ⟨fun y hy => h.all y (List.mem_cons_of_mem _ hy), (List.pairwise_cons.1 h.ord).2⟩
theorem NF.ge {x : Sp} {l : List Sp} (h : NF (x :: l)) {i : Int} (hc : covS l i) : x.2 < i := by
 obtain ⟨y, hy, h1, _⟩ := hc
 have := (List.pairwise_cons.1 h.ord).1 y hy
 omega
theorem NF.empty {l : List Sp} (h : NF l) (hc : ∀ i, ¬ covS l i) : l = [] := by
 cases l with
 | nil => rfl
 | cons x l =>
  have h1 := h.all x (List.mem_cons_self ..)
  exact absurd (covS_cons.2 (.inl ⟨Int.le_refl _, h1.2⟩)) (hc x.1)
theorem nf_unique : ∀ {a b : List Sp}, NF a → NF b → (∀ i, covS a i ↔ covS b i) → a = b
 | [], b, _, hb, h => (hb.empty (fun i hi => covS_nil i ((h i).2 hi))).symm
 | x :: a, [], ha, _, h => ha.empty (fun i hi => covS_nil i ((h i).1 hi))
 | x :: a, y :: b, ha, hb, h => by
  have h1 := ha.all x (List.mem_cons_self ..)
  have h2 := hb.all y (List.mem_cons_self ..)
  have lo : ∀ {x : Sp} {a : List Sp}, NF (x :: a) → x.1 < x.2 → ∀ i, covS (x :: a) i → x.1 ≤ i := fun {x a} ha hx i hi => by
   rcases covS_cons.1 hi with hi | hi
   ·exact hi.1
   ·have := ha.ge hi; omega
  have e1 : x.1 = y.1 := by
   have a1 := lo hb h2.2 x.1 ((h x.1).1 (covS_cons.2 (.inl ⟨Int.le_refl _, h1.2⟩)))
   have a2 := lo ha h1.2 y.1 ((h y.1).2 (covS_cons.2 (.inl ⟨Int.le_refl _, h2.2⟩)))
   omega
  have no : ∀ {x : Sp} {a : List Sp}, NF (x :: a) → ¬ covS (x :: a) x.2 := fun {x a} ha hi => by
   rcases covS_cons.1 hi with hi | hi
   ·omega
   ·have := ha.ge hi; omega
  have e2 : x.2 = y.2 := by
   rcases Int.lt_trichotomy x.2 y.2 with hlt | he | hlt
   ·exact absurd ((h x.2).2 (covS_cons.2 (.inl ⟨by omega, hlt⟩))) (no ha)
   ·exact he
   ·exact absurd ((h y.2).1 (covS_cons.2 (.inl ⟨by omega, hlt⟩))) (no hb)
  have hxy : x = y := Prod.ext e1 e2
  subst hxy
  have := nf_unique ha.tail hb.tail (fun i => ⟨fun hi => by
   have hg := ha.ge hi
   rcases covS_cons.1 ((h i).1 (covS_cons.2 (.inr hi))) with h3 | h3
   ·omega
   ·exact h3, fun hi => by
   have hg := hb.ge hi
   rcases covS_cons.1 ((h i).2 (covS_cons.2 (.inr hi))) with h3 | h3
   ·omega
   ·exact h3⟩)
  rw [this]
def outW (size : Int) : Int → List Sp → List Sp
 | _, [] => []
 | at_, x :: l => (if at_ < x.1 then [(at_, x.1)] else []) ++ (if x.1 < x.2 then outW size (max at_ x.2) l else if x.1 = size then [] else outW size at_ l)
def ndS : Int → List Sp → Prop
 | _, [] => True
 | b, x :: l => b ≤ x.1 ∧ x.1 < x.2 ∧ ndS x.1 l
theorem ndS_mono {b c : Int} (h : c ≤ b) : ∀ {l : List Sp}, ndS b l → ndS c l
 | [], _ => trivial
 | x :: l, h1 => ⟨by have := h1.1; omega, h1.2⟩
theorem outW_nd (size : Int) : ∀ (l : List Sp) (a : Int), ndS a (outW size a l)
 | [], a => trivial
 | x :: l, a => by
  have rest : ndS a (if x.1 < x.2 then outW size (max a x.2) l else if x.1 = size then [] else outW size a l) := by
   by_cases h1 : x.1 < x.2
   ·rw [if_pos h1]; exact ndS_mono (by omega) (outW_nd size l _)
   ·rw [if_neg h1]
    by_cases h2 : x.1 = size
    ·rw [if_pos h2]; trivial
    ·rw [if_neg h2]; exact outW_nd size l a
  simp only [outW]
  by_cases h : a < x.1
  ·rw [if_pos h]; exact ⟨Int.le_refl _, h, rest⟩
  ·rw [if_neg h]; exact rest
theorem outW_len (size : Int) : ∀ (l : List Sp) (a : Int), (outW size a l).length ≤ l.length
 | [], a => by simp [outW]
 | x :: l, a => by
  have rest : (if x.1 < x.2 then outW size (max a x.2) l else if x.1 = size then [] else outW size a l).length ≤ l.length := by
   by_cases h1 : x.1 < x.2
   ·rw [if_pos h1]; exact outW_len size l _
   ·rw [if_neg h1]
    by_cases h2 : x.1 = size
    ·rw [if_pos h2]; simp
    ·rw [if_neg h2]; exact outW_len size l a
  simp only [outW, List.length_append, List.length_cons]
  by_cases h : a < x.1
  ·rw [if_pos h]; simp only [List.length_cons, List.length_nil]; omega
  ·rw [if_neg h]; simp only [List.length_nil]; omega
theorem outW_cov {size : Int} : ∀ (l : List Sp) (a : Int), (∀ x ∈ l, x.1 ≤ x.2 ∧ x.2 ≤ size) → l.Pairwise (fun x y => x.1 ≤ y.1) → ∀ i, covS (outW size a (l ++ [(size, size)])) i ↔ a ≤ i ∧ i < size ∧ ¬ covS l i
 | [], a, _, _, i => by
  have e : outW size a ([] ++ [(size, size)]) = if a < size then [(a, size)] else [] := by
   simp [outW]
  rw [e]
  by_cases h : a < size
  ·rw [if_pos h, covS_one]
   exact ⟨fun h => ⟨h.1, h.2, covS_nil i⟩, fun h => ⟨h.1, h.2.1⟩⟩
  ·rw [if_neg h]
   exact ⟨fun h => absurd h (covS_nil i), fun h1 => by omega⟩
 | x :: l, a, hv, hs, i => by
  have hx := hv x (List.mem_cons_self ..)
  have hv' : ∀ y ∈ l, y.1 ≤ y.2 ∧ y.2 ≤ size := fun y hy => hv y (List.mem_cons_of_mem _ hy)
  obtain ⟨hs1, hs2⟩ := List.pairwise_cons.1 hs
  have later : covS l i → x.1 ≤ i := fun ⟨y, hy, h1, _⟩ => Int.le_trans (hs1 y hy) h1
  have piece : covS (if a < x.1 then [(a, x.1)] else []) i ↔ a ≤ i ∧ i < x.1 := by
   by_cases h : a < x.1
   ·rw [if_pos h, covS_one]
   ·rw [if_neg h]
    exact ⟨fun h => absurd h (covS_nil i), fun h1 => by omega⟩
  have e : outW size a (x :: l ++ [(size, size)]) = (if a < x.1 then [(a, x.1)] else []) ++ (if x.1 < x.2 then outW size (max a x.2) (l ++ [(size, size)]) else if x.1 = size then [] else outW size a (l ++ [(size, size)])) := rfl
  rw [e, covS_app, piece, covS_cons]
  by_cases h1 : x.1 < x.2
  ·rw [if_pos h1, outW_cov l (max a x.2) hv' hs2 i]
   constructor
   ·rintro (h | ⟨h2, h3, h4⟩)
    ·exact ⟨h.1, by omega, fun h5 => by
      rcases h5 with h5 | h5
      ·omega
      ·have := later h5; omega⟩
    ·exact ⟨by omega, h3, fun h5 => by
      rcases h5 with h5 | h5
      ·omega
      ·exact h4 h5⟩
   ·rintro ⟨h2, h3, h4⟩
    by_cases h5 : i < x.1
    ·exact .inl ⟨h2, h5⟩
    ·right
     refine ⟨?_, h3, fun h6 => h4 (.inr h6)⟩
     have : x.2 ≤ i := by
      rcases Int.lt_or_le i x.2 with h6 | h6
      ·exact absurd (Or.inl ⟨by omega, h6⟩) h4
      ·exact h6
     omega
  ·rw [if_neg h1]
   by_cases h2 : x.1 = size
   ·rw [if_pos h2]
    constructor
    ·rintro (h | h)
     ·exact ⟨h.1, by omega, fun h5 => by
       rcases h5 with h5 | h5
       ·omega
       ·have := later h5; omega⟩
     ·exact absurd h (covS_nil i)
    ·rintro ⟨h3, h4, _⟩
     exact .inl ⟨h3, by omega⟩
   ·rw [if_neg h2, outW_cov l a hv' hs2 i]
    constructor
    ·rintro (h | ⟨h3, h4, h5⟩)
     ·exact ⟨h.1, by omega, fun h5 => by
       rcases h5 with h5 | h5
       ·omega
       ·have := later h5; omega⟩
     ·exact ⟨h3, h4, fun h6 => by
       rcases h6 with h6 | h6
       ·omega
       ·exact h5 h6⟩
    ·rintro ⟨h3, h4, h5⟩
     exact .inr ⟨h3, h4, fun h6 => h5 (.inr h6)⟩
def joinF : Sp → List Sp → List Sp
 | c, [] => [c]
 | c, x :: l => if x.1 ≤ c.2 then joinF (c.1, max c.2 x.2) l else c :: joinF x l
def joinA : List Sp → List Sp
 | [] => []
 | x :: l => joinF x l
theorem joinF_len : ∀ (l : List Sp) (c : Sp), (joinF c l).length ≤ l.length + 1
 | [], c => by simp [joinF]
 | x :: l, c => by
  simp only [joinF, List.length_cons]
  split
  ·have := joinF_len l (c.1, max c.2 x.2); omega
  ·have := joinF_len l x; simp only [List.length_cons]; omega
theorem joinF_cov : ∀ (l : List Sp) (c : Sp), c.1 < c.2 → ndS c.1 l → ∀ i, covS (joinF c l) i ↔ covS (c :: l) i
 | [], c, _, _, i => Iff.rfl
 | x :: l, c, hc, hn, i => by
  obtain ⟨h1, h2, h3⟩ := hn
  simp only [joinF]
  by_cases h : x.1 ≤ c.2
  ·rw [if_pos h, joinF_cov l (c.1, max c.2 x.2) (by show c.1 < max c.2 x.2; omega) (ndS_mono h1 h3) i, covS_cons, covS_cons, covS_cons]
   constructor
   ·rintro (h4 | h4)
    ·have h5 : c.1 ≤ i ∧ i < max c.2 x.2 := h4
     rcases Int.lt_or_le i c.2 with h6 | h6
     ·exact .inl ⟨h5.1, h6⟩
     ·exact .inr (.inl ⟨by omega, by omega⟩)
    ·exact .inr (.inr h4)
   ·rintro (h4 | h4 | h4)
    ·exact .inl (show c.1 ≤ i ∧ i < max c.2 x.2 by omega)
    ·exact .inl (show c.1 ≤ i ∧ i < max c.2 x.2 by omega)
    ·exact .inr h4
  ·rw [if_neg h, covS_cons, joinF_cov l x h2 h3 i]
   exact covS_cons.symm
theorem joinF_nf : ∀ (l : List Sp) (c : Sp), 0 ≤ c.1 → c.1 < c.2 → ndS c.1 l → NF (joinF c l) ∧ ∀ y ∈ joinF c l, c.1 ≤ y.1
 | [], c, h0, hc, _ => ⟨⟨fun x hx => by obtain rfl := List.mem_singleton.1 hx; exact ⟨h0, hc⟩, List.pairwise_singleton ..⟩, fun y hy => by obtain rfl := List.mem_singleton.1 hy; exact Int.le_refl _⟩
 | x :: l, c, h0, hc, hn => by
  obtain ⟨h1, h2, h3⟩ := hn
  simp only [joinF]
  by_cases h : x.1 ≤ c.2
  ·rw [if_pos h]
   exact joinF_nf l (c.1, max c.2 x.2) h0 (by show c.1 < max c.2 x.2; omega) (ndS_mono h1 h3)
  ·rw [if_neg h]
   obtain ⟨h4, h5⟩ := joinF_nf l x (by omega) h2 h3
   refine ⟨⟨fun y hy => ?_, List.pairwise_cons.2 ⟨fun y hy => ?_, h4.ord⟩⟩, fun y hy => ?_⟩
   ·rcases List.mem_cons.1 hy with rfl | hy
    ·exact ⟨h0, hc⟩
    ·exact h4.all y hy
   ·have := h5 y hy; omega
   ·rcases List.mem_cons.1 hy with rfl | hy
    ·exact Int.le_refl _
    ·have := h5 y hy; omega
theorem joinA_ok {l : List Sp} (h : ndS 0 l) : NF (joinA l) ∧ (∀ i, covS (joinA l) i ↔ covS l i) ∧ (joinA l).length ≤ l.length + 1 := by
 cases l with
 | nil => exact ⟨NF.nil, fun i => Iff.rfl, by simp [joinA]⟩
 | cons x l =>
  obtain ⟨h1, h2, h3⟩ := h
  exact ⟨(joinF_nf l x h1 h2 h3).1, joinF_cov l x h2 h3, by have := joinF_len l x; simp only [joinA, List.length_cons]; omega⟩
end Go.Proofs.Ytpeiomhgaembaaa
set_option linter.unusedVariables false
set_option maxRecDepth 100000
namespace Go.Proofs
open Go.Shelf
def Try.sortSpan_ren : Go.Shelf.Ren := ⟨fun | 6 => 42 | 15 => 48 | 14 => 47 | 28 => 57 | 29 => 58 | 20 => 49 | 21 => 50 | 22 => 51 | 23 => 52 | 24 => 53 | 25 => 54 | 26 => 55 | 27 => 56 | 46 => 59 | 47 => 60 | 48 => 61 | 49 => 62 | 50 => 63 | 57 => 64 | n => n, fun | 22 => 54 | 24 => 58 | 25 => 73 | 3 => 3 | 39 => 77 | 0 => 0 | 53 => 87 | 55 => 89 | 4 => 4 | 46 => 80 | 45 => 79 | 50 => 84 | 5 => 5 | 9 => 9 | 66 => 90 | 70 => 94 | 76 => 96 | 77 => 97 | n => n, fun | n => n⟩
theorem Try.sortSpan : Go.Proofs.SlLaysF0.n6 Try.prog Try.sortSpan_ren := {
 mixed := by kernel_rfl
 f6 := ⟨Try.f42.name, by decide, Try.func42.trans (congrArg some (by kernel_rfl))⟩
 f14 := ⟨Try.f47.name, by decide, Try.func47.trans (congrArg some (by kernel_rfl))⟩
 f15 := Try.func48.trans (congrArg some (by kernel_rfl))
 f20 := ⟨Try.f49.name, by decide, Try.func49.trans (congrArg some (by kernel_rfl))⟩
 f21 := ⟨Try.f50.name, by decide, Try.func50.trans (congrArg some (by kernel_rfl))⟩
 f22 := ⟨Try.f51.name, by decide, Try.func51.trans (congrArg some (by kernel_rfl))⟩
 f23 := ⟨Try.f52.name, by decide, Try.func52.trans (congrArg some (by kernel_rfl))⟩
 f24 := ⟨Try.f53.name, by decide, Try.func53.trans (congrArg some (by kernel_rfl))⟩
 f25 := ⟨Try.f54.name, by decide, Try.func54.trans (congrArg some (by kernel_rfl))⟩
 f26 := ⟨Try.f55.name, by decide, Try.func55.trans (congrArg some (by kernel_rfl))⟩
 f27 := ⟨Try.f56.name, by decide, Try.func56.trans (congrArg some (by kernel_rfl))⟩
 f28 := Try.func57.trans (congrArg some (by kernel_rfl))
 f29 := Try.func58.trans (congrArg some (by kernel_rfl))
 f46 := ⟨Try.f59.name, by decide, Try.func59.trans (congrArg some (by kernel_rfl))⟩
 f47 := Try.func60.trans (congrArg some (by kernel_rfl))
 f48 := Try.func61.trans (congrArg some (by kernel_rfl))
 f49 := ⟨Try.f62.name, by decide, Try.func62.trans (congrArg some (by kernel_rfl))⟩
 f50 := ⟨Try.f63.name, by decide, Try.func63.trans (congrArg some (by kernel_rfl))⟩
 f57 := ⟨Try.f64.name, by decide, Try.func64.trans (congrArg some (by kernel_rfl))⟩
 t0 := Try.underlying0
 a0 := Try.isAgg0
 z0 := Try.sizeOf0
 v0 := Try.zeroValue0
 t3 := Try.underlying3
 a3 := Try.isAgg3
 z3 := Try.sizeOf3
 v3 := Try.zeroValue3
 t4 := Try.underlying4
 a4 := Try.isAgg4
 z4 := Try.sizeOf4
 v4 := Try.zeroValue4
 t5 := Try.underlying5
 a5 := Try.isAgg5
 z5 := Try.sizeOf5
 v5 := Try.zeroValue5
 t9 := Try.underlying9
 a9 := Try.isAgg9
 z9 := Try.sizeOf9
 v9 := Try.zeroValue9
 t22 := Try.underlying54
 a22 := Try.isAgg54
 z22 := Try.sizeOf54
 v22 := Try.zeroValue54
 t25 := Try.underlying73
 a25 := Try.isAgg73
 z25 := Try.sizeOf73
 v25 := Try.zeroValue73
 t39 := Try.underlying77
 a39 := Try.isAgg77
 z39 := Try.sizeOf77
 v39 := Try.zeroValue77
 t45 := Try.underlying79
 a45 := Try.isAgg79
 z45 := Try.sizeOf79
 v45 := Try.zeroValue79
 t46 := Try.underlying80
 a46 := Try.isAgg80
 z46 := Try.sizeOf80
 v46 := Try.zeroValue80
 t50 := Try.underlying84
 a50 := Try.isAgg84
 z50 := Try.sizeOf84
 v50 := Try.zeroValue84
 t53 := Try.underlying87
 a53 := Try.isAgg87
 z53 := Try.sizeOf87
 v53 := Try.zeroValue87
 t55 := Try.underlying89
 a55 := Try.isAgg89
 z55 := Try.sizeOf89
 v55 := Try.zeroValue89
 t66 := Try.underlying90
 a66 := Try.isAgg90
 z66 := Try.sizeOf90
 v66 := Try.zeroValue90
 t70 := Try.underlying94
 a70 := Try.isAgg94
 z70 := Try.sizeOf94
 v70 := Try.zeroValue94
 t76 := Try.underlying96
 a76 := Try.isAgg96
 z76 := Try.sizeOf96
 v76 := Try.zeroValue96
 t77 := Try.underlying97
 a77 := Try.isAgg97
 z77 := Try.sizeOf97
 v77 := Try.zeroValue97 }
end Go.Proofs
namespace Go.Proofs.Ytpeiomhgaembaaa
open Go Go.RowKit Go.Shelf Go.Lib Go.Sort Go.Proofs.Ytpeiomhgaembaaa.Eng
structure SpB where
 v : Int × Int
 ok : 0 ≤ v.1 ∧ v.1 ≤ 2000000000
instance : Inhabited SpB := ⟨⟨(0, 0), by decide⟩⟩
def encB (x : SpB) : List Value := [.int .i64 x.v.1, .int .i64 x.v.2]
def cfB (x y : SpB) : Int := x.v.1 - y.v.1
theorem ltB (x y : SpB) : ltOf cfB x y = decide (x.v.1 < y.v.1) := by
 unfold ltOf cfB
 by_cases h : x.v.1 < y.v.1
 ·rw [decide_eq_true h, decide_eq_true (by omega)]
 ·rw [decide_eq_false h, decide_eq_false (by omega)]
theorem swoB : SWO (ltOf cfB) where
 irrefl x := by rw [ltB]; simp
 trans x y z h1 h2 := by rw [ltB] at *; simp at *; omega
 ntrans x y z h1 h2 := by rw [ltB] at *; simp at *; omega
def toB (xs : List (Int × Int)) (h : ∀ x ∈ xs, 0 ≤ x.1 ∧ x.1 ≤ 2000000000) : Array SpB := (xs.pmap (fun x hx => SpB.mk x hx) h).toArray
theorem toB_val {xs : List (Int × Int)} (h : ∀ x ∈ xs, 0 ≤ x.1 ∧ x.1 ≤ 2000000000) : (toB xs h).toList.map SpB.v = xs := by
 unfold toB
 show (xs.pmap (fun x hx => SpB.mk x hx) h).map SpB.v = xs
 rw [List.map_pmap]
 simp
noncomputable def sortB (xs : List (Int × Int)) (h : ∀ x ∈ xs, 0 ≤ x.1 ∧ x.1 ≤ 2000000000) : List (Int × Int) :=
 (pdq (ltOf cfB) (toB xs h) 0 (toB xs h).size (Lib.bitLen (toB xs h).size) true true).toList.map SpB.v
theorem sortB_ok (xs : List (Int × Int)) (h : ∀ x ∈ xs, 0 ≤ x.1 ∧ x.1 ≤ 2000000000) : (sortB xs h).Perm xs ∧ (sortB xs h).Pairwise (fun x y => x.1 ≤ y.1) := by
 have hdl := toB_val h
 unfold sortB
 generalize toB xs h = d at hdl ⊢
 have hp := pdq_sorts (ltOf cfB) swoB d 0 d.size (Lib.bitLen d.size) true true (Nat.zero_le _) (Nat.le_refl _) (Or.inl rfl)
 generalize pdq (ltOf cfB) d 0 d.size (Lib.bitLen d.size) true true = d' at hp
 obtain ⟨⟨h1, h2, h3⟩, h4⟩ := hp
 have e1 : (d'.extract 0 d.size).toList = d'.toList := by rw [← h1]; simp
 have e2 : (d.extract 0 d.size).toList = d.toList := by simp
 rw [e1, e2] at h3
 refine ⟨by rw [← hdl]; exact h3.map _, ?_⟩
 rw [List.pairwise_map]
 rw [List.pairwise_iff_getElem]
 intro i j hi hj hij
 have hs : j < d.size := by rw [← h1]; simpa using hj
 have h5 := h4 i j (Nat.zero_le _) hij hs
 rw [ltB] at h5
 have h6 : ¬ (d'[j]!).v.1 < (d'[i]!).v.1 := by simpa using h5
 have gi : d'[i]! = d'.toList[i] := by rw [getElem!_pos d' i (by simpa using hi)]; simp
 have gj : d'[j]! = d'.toList[j] := by rw [getElem!_pos d' j (by simpa using hj)]; simp
 rw [gi, gj] at h6
 omega
open Classical in
noncomputable def srt_42_43_run (xs : List (Int × Int)) : Option (List (Int × Int)) := if h : ∀ x ∈ xs, 0 ≤ x.1 ∧ x.1 ≤ 2000000000 then (if xs.length ≤ 1000000 then some (sortB xs h) else none) else none
noncomputable def srt_42_43 : SFn := ⟨.pair (.int .i64) (.int .i64), srt_42_43_run⟩
set_option maxHeartbeats 1000000 in
theorem closureB (x y : SpB) (W : World) : Calls Try.prog 43 #[.agg #[.int .i64 x.v.1, .int .i64 x.v.2], .agg #[.int .i64 y.v.1, .int .i64 y.v.2]] W fun e w' => e = .returned (.int .i64 (cfB x y)) ∧ ∃ q os', w' = grow (W.drewN q) os' := by
 have hw : IntKind.wrap .i64 (x.v.1 - y.v.1) = x.v.1 - y.v.1 := IntWalk.i64_in _ ⟨by have := x.ok; have := y.ok; omega, by have := x.ok; have := y.ok; omega⟩
 generalize hc : cfB x y = c
 have hw2 : IntKind.wrap .i64 (x.v.1 - y.v.1) = c := hw.trans hc
 go_enter Try.func43, Try.ntmps43
 go_wp2
 go_ret
 refine ⟨?_, 0, _, by rw [alloc_eq_grow, alloc_eq_grow, grow_grow]; rfl⟩
 rw [← hc]; rfl
def vB (x : Int × Int) : List Value := [.int .i64 x.1, .int .i64 x.2]
theorem flatB (d : Array SpB) : flatK encB 2 d = (d.toList.map fun x : SpB => vB x.v).flatten.toArray := by
 have hl : ∀ c ∈ d.toList.map (fun x : SpB => vB x.v), c.length = 2 := fun c hc => by
  obtain ⟨x, _, rfl⟩ := List.mem_map.1 hc
  rfl
 apply Array.ext
 ·rw [size_flatK]; simp only [List.size_toArray]; rw [flatten_len hl]; simp
 ·intro t h1 h2
  rw [size_flatK] at h1
  have h3 := get_flatK encB 2 d t h1
  rw [getElem!_pos _ t (by rw [size_flatK]; exact h1)] at h3
  rw [h3]
  have hi : t / 2 < d.size := by omega
  have hj : t % 2 < 2 := Nat.mod_lt _ (by omega)
  have e : t = t / 2 * 2 + t % 2 := by omega
  have hget : (d.toList.map (fun x : SpB => vB x.v))[t / 2]? = some (vB d[t / 2].v) := by
   rw [List.getElem?_map, Array.getElem?_toList, Array.getElem?_eq_getElem hi]; rfl
  have h4 := flatten_get hl hget hj
  rw [← e] at h4
  have h5 : (d.toList.map (fun x : SpB => vB x.v)).flatten.toArray[t]? = (vB d[t / 2].v)[t % 2]? := by simpa using h4
  rw [Array.getElem?_eq_getElem h2] at h5
  have h6 : d[t / 2]! = d[t / 2] := getElem!_pos d _ hi
  rw [h6]
  have h7 : encB d[t / 2] = vB d[t / 2].v := rfl
  rw [h7]
  generalize vB d[t / 2].v = L at h5 ⊢
  cases hL : L[t % 2]? with
  | none => rw [hL] at h5; cases h5
  | some u =>
   rw [hL] at h5
   have h8 := Option.some.inj h5
   rw [h8]
   obtain ⟨h9, h10⟩ := List.getElem?_eq_some_iff.1 hL
   rw [getElem!_pos L _ h9]; exact h10
theorem valsB (xs : List (Int × Int)) (h : ∀ x ∈ xs, 0 ≤ x.1 ∧ x.1 ≤ 2000000000) : (toB xs h).toList.map (fun x : SpB => vB x.v) = xs.map vB := by
 have := congrArg (List.map (fun x : Int × Int => [Value.int .i64 x.1, Value.int .i64 x.2])) (toB_val h)
 rw [List.map_map] at this
 exact this
theorem enters43 : ∀ args w, (callFunc 43 args).run Try.prog w = .ok (.enter 43 args) w := enters_of Try.func43 (by kernel_rfl) rfl
theorem sortPairB (xs ys : List (Int × Int)) (hr : srt_42_43_run xs = some ys) : SortPair Try.prog 42 43 2 (xs.map vB) (ys.map vB) := by
 unfold srt_42_43_run at hr
 split at hr
 ·rename_i h
  split at hr
  case isFalse => cases hr
  rename_i hlen
  cases hr
  have hperm := (sortB_ok xs h).1
  refine ⟨by rw [List.length_map, List.length_map]; exact hperm.length_eq, fun c hc => ?_, fun c hc v hv => ?_, fun h0 p cap w => ?_, fun h0 blk off cap w hH hblk => ?_⟩
  ·obtain ⟨x, _, rfl⟩ := List.mem_map.1 hc
   rfl
  ·obtain ⟨x, _, rfl⟩ := List.mem_map.1 hc
   have hv' : v ∈ [Value.int .i64 x.1, Value.int .i64 x.2] := hv
   simp at hv'
   rcases hv' with rfl | rfl <;> rfl
  ·exact AnyF.slices_SortFunc_none Try.sortSpan p cap (.func (.func 43) #[] #[]) w
  ·have hsz : (toB xs h).size = xs.length := by simp [toB]
   have hfl : (xs.map vB).flatten.toArray = flatK encB 2 (toB xs h) := by rw [flatB, valsB]
   rw [hfl] at hH
   have hbig : (toB xs h).size < 4611686018427387904 := by omega
   ·have hcon := AnyQ.slices_SortFunc_eq Try.sortSpan 2 (fun w => tiok58.agg_run) (fun w => tiok58.size_run) encB (fun _ => rfl) (fun x v hv => by simp [encB] at hv; rcases hv with rfl | rfl <;> rfl) cfB swoB 43 #[] blk off cap (toB xs h) w enters43 (fun _ _ _ _ x y => closureB x y _) hH hblk hbig
    rw [List.length_map, ← hsz]
    refine Calls.mono hcon ?_
    rintro e w' ⟨he, n, os, hw⟩
    refine ⟨he, n, os, ?_⟩
    rw [hw]
    unfold sortWorldK putRowK sortB
    rw [flatB, List.map_map]
    rfl
 ·cases hr
theorem srt_42_43_ok : SoOK Try.prog 42 43 srt_42_43 := ⟨enters_of (c := bodyOf Try.f42) Try.func42 (by kernel_rfl) (by kernel_rfl), rfl, fun xs ys h => sortPairB xs ys h⟩
end Go.Proofs.Ytpeiomhgaembaaa
