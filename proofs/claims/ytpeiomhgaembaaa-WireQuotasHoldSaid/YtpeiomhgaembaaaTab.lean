/-
  The types of this seat's program, as a table. No condition.
-/
import Derived.Test.YtpeiomhgaembaaaProg
import Derived.Test.YtpeiomhgaembaaaEngTwo
import Derived.KernelRfl
set_option linter.unusedVariables false
namespace Go.Proofs.Ytpeiomhgaembaaa
open Go Go.Proofs.Ytpeiomhgaembaaa.Eng
/-- The types of this seat's program, as a table. -/
def ti1 : TI := ⟨.other, 1, 8, .nilFunc⟩
def ti2 : TI := ⟨.int .i64, 1, 8, (.int .i64 0)⟩
def ti3 : TI := ⟨.int .i64, 1, 8, (.int .i64 0)⟩
def ti4 : TI := ⟨.bool, 1, 1, (.bool false)⟩
def ti5 : TI := ⟨.int .u8, 1, 1, (.int .u8 0)⟩
def ti9 : TI := ⟨.str, 1, 16, (.string ⟨#[]⟩)⟩
def ti12 : TI := ⟨.int .u64, 1, 8, (.int .u64 0)⟩
def ti17 : TI := ⟨.ptr 113, 1, 8, (.pointer none)⟩
def ti20 : TI := ⟨.other, 1, 16, .nilIface⟩
def ti21 : TI := ⟨.int .i32, 1, 4, (.int .i32 0)⟩
def ti22 : TI := ⟨.struct [(0, 3), (1, 3)], 2, 16, (.agg #[(.int .i64 0), (.int .i64 0)])⟩
def ti23 : TI := ⟨.struct [(0, 3), (1, 3)], 2, 16, (.agg #[(.int .i64 0), (.int .i64 0)])⟩
def ti24 : TI := ⟨.slice 31, 1, 24, (.slice none 0 0)⟩
def ti25 : TI := ⟨.slice 3, 1, 24, (.slice none 0 0)⟩
def ti26 : TI := ⟨.int .i64, 1, 8, (.int .i64 0)⟩
def ti28 : TI := ⟨.other, 1, 8, .nilFunc⟩
def ti29 : TI := ⟨.other, 1, 8, .nilFunc⟩
def ti30 : TI := ⟨.struct [(0, 3), (1, 3)], 2, 16, (.agg #[(.int .i64 0), (.int .i64 0)])⟩
def ti31 : TI := ⟨.struct [(0, 3), (1, 3)], 2, 16, (.agg #[(.int .i64 0), (.int .i64 0)])⟩
def ti33 : TI := ⟨.other, 1, 8, .nilFunc⟩
def ti34 : TI := ⟨.other, 1, 8, .nilFunc⟩
def ti35 : TI := ⟨.other, 1, 8, .nilFunc⟩
def ti36 : TI := ⟨.other, 1, 8, .nilFunc⟩
def ti37 : TI := ⟨.other, 1, 8, .nilFunc⟩
def ti38 : TI := ⟨.other, 1, 8, .nilFunc⟩
def ti39 : TI := ⟨.slice 44, 1, 24, (.slice none 0 0)⟩
def ti40 : TI := ⟨.other, 1, 8, .nilFunc⟩
def ti42 : TI := ⟨.other, 1, 8, .nilFunc⟩
def ti43 : TI := ⟨.other, 1, 8, .nilFunc⟩
def ti44 : TI := ⟨.slice 5, 1, 24, (.slice none 0 0)⟩
def ti45 : TI := ⟨.slice 49, 1, 24, (.slice none 0 0)⟩
def ti46 : TI := ⟨.other, 1, 8, .nilFunc⟩
def ti47 : TI := ⟨.other, 1, 8, .nilFunc⟩
def ti48 : TI := ⟨.struct [(0, 3), (1, 44)], 2, 32, (.agg #[(.int .i64 0), (.slice none 0 0)])⟩
def ti49 : TI := ⟨.struct [(0, 3), (1, 44)], 2, 32, (.agg #[(.int .i64 0), (.slice none 0 0)])⟩
def ti51 : TI := ⟨.other, 1, 8, .nilFunc⟩
def ti52 : TI := ⟨.other, 1, 8, .nilFunc⟩
def ti53 : TI := ⟨.other, 1, 8, .nilFunc⟩
def ti54 : TI := ⟨.slice 58, 1, 24, (.slice none 0 0)⟩
def ti56 : TI := ⟨.other, 1, 8, .nilFunc⟩
def ti57 : TI := ⟨.struct [(0, 3), (1, 3)], 2, 16, (.agg #[(.int .i64 0), (.int .i64 0)])⟩
def ti58 : TI := ⟨.struct [(0, 3), (1, 3)], 2, 16, (.agg #[(.int .i64 0), (.int .i64 0)])⟩
def ti59 : TI := ⟨.other, 1, 8, .nilFunc⟩
def ti60 : TI := ⟨.other, 1, 8, .nilFunc⟩
def ti61 : TI := ⟨.other, 1, 8, .nilFunc⟩
def ti62 : TI := ⟨.other, 1, 8, .nilFunc⟩
def ti63 : TI := ⟨.other, 1, 8, .nilFunc⟩
def ti64 : TI := ⟨.other, 1, 8, .nilFunc⟩
def ti65 : TI := ⟨.other, 1, 8, .nilFunc⟩
def ti66 : TI := ⟨.other, 1, 8, .nilFunc⟩
def ti67 : TI := ⟨.other, 1, 8, .nilFunc⟩
def ti68 : TI := ⟨.map 9 4, 1, 8, (.map none)⟩
def ti69 : TI := ⟨.other, 1, 8, .nilFunc⟩
def ti70 : TI := ⟨.slice 4, 1, 24, (.slice none 0 0)⟩
def ti71 : TI := ⟨.other, 1, 8, .nilFunc⟩
def ti72 : TI := ⟨.other, 1, 8, .nilFunc⟩
def ti73 : TI := ⟨.other, 1, 8, .nilFunc⟩
def ti74 : TI := ⟨.other, 1, 8, .nilFunc⟩
def ti75 : TI := ⟨.other, 1, 8, .nilFunc⟩
def ti76 : TI := ⟨.other, 1, 8, .nilFunc⟩
def ti77 : TI := ⟨.int .u64, 1, 8, (.int .u64 0)⟩
def ti78 : TI := ⟨.other, 1, 8, .nilFunc⟩
def ti79 : TI := ⟨.int .i64, 1, 8, (.int .i64 0)⟩
def ti81 : TI := ⟨.other, 1, 8, .nilFunc⟩
def ti82 : TI := ⟨.other, 1, 8, .nilFunc⟩
def ti83 : TI := ⟨.other, 1, 8, .nilFunc⟩
def ti85 : TI := ⟨.other, 1, 8, .nilFunc⟩
def ti86 : TI := ⟨.other, 1, 8, .nilFunc⟩
def ti87 : TI := ⟨.int .u32, 1, 4, (.int .u32 0)⟩
def ti88 : TI := ⟨.other, 1, 8, .nilFunc⟩
def ti89 : TI := ⟨.int .u64, 1, 8, (.int .u64 0)⟩
def ti90 : TI := ⟨.int .u64, 1, 8, (.int .u64 0)⟩
def ti91 : TI := ⟨.other, 1, 8, .nilFunc⟩
def ti92 : TI := ⟨.other, 1, 8, .nilFunc⟩
def ti93 : TI := ⟨.other, 1, 8, .nilFunc⟩
def ti94 : TI := ⟨.ptr 3, 1, 8, (.pointer none)⟩
def ti95 : TI := ⟨.other, 1, 8, .nilFunc⟩
def ti96 : TI := ⟨.ptr 90, 1, 8, (.pointer none)⟩
def ti98 : TI := ⟨.other, 1, 8, .nilFunc⟩
def ti99 : TI := ⟨.other, 1, 8, .nilFunc⟩
def ti105 : TI := ⟨.other, 1, 8, .nilFunc⟩
def ti108 : TI := ⟨.other, 1, 8, .nilFunc⟩
def ti109 : TI := ⟨.ptr 5, 1, 8, (.pointer none)⟩
def tl : List (Nat × TI) := [(1, ti1), (2, ti2), (3, ti3), (4, ti4), (5, ti5), (9, ti9), (12, ti12), (17, ti17), (20, ti20), (21, ti21), (22, ti22), (23, ti23), (24, ti24), (25, ti25), (26, ti26), (28, ti28), (29, ti29), (30, ti30), (31, ti31), (33, ti33), (34, ti34), (35, ti35), (36, ti36), (37, ti37), (38, ti38), (39, ti39), (40, ti40), (42, ti42), (43, ti43), (44, ti44), (45, ti45), (46, ti46), (47, ti47), (48, ti48), (49, ti49), (51, ti51), (52, ti52), (53, ti53), (54, ti54), (56, ti56), (57, ti57), (58, ti58), (59, ti59), (60, ti60), (61, ti61), (62, ti62), (63, ti63), (64, ti64), (65, ti65), (66, ti66), (67, ti67), (68, ti68), (69, ti69), (70, ti70), (71, ti71), (72, ti72), (73, ti73), (74, ti74), (75, ti75), (76, ti76), (77, ti77), (78, ti78), (79, ti79), (81, ti81), (82, ti82), (83, ti83), (85, ti85), (86, ti86), (87, ti87), (88, ti88), (89, ti89), (90, ti90), (91, ti91), (92, ti92), (93, ti93), (94, ti94), (95, ti95), (96, ti96), (98, ti98), (99, ti99), (105, ti105), (108, ti108), (109, ti109)]
def T : Tab := tabGet tl
theorem tiok1 : TIOk Try.prog 1 ti1 := ⟨⟨_, Try.underlying1, trivial⟩, by kernel_rfl, rfl, rfl⟩
theorem T1 : T 1 = some ⟨.other, 1, 8, .nilFunc⟩ := rfl
theorem tiok2 : TIOk Try.prog 2 ti2 := ⟨Try.underlying2, by kernel_rfl, rfl, rfl⟩
theorem T2 : T 2 = some ⟨.int .i64, 1, 8, (.int .i64 0)⟩ := rfl
theorem tiok3 : TIOk Try.prog 3 ti3 := ⟨Try.underlying3, by kernel_rfl, rfl, rfl⟩
theorem T3 : T 3 = some ⟨.int .i64, 1, 8, (.int .i64 0)⟩ := rfl
theorem tiok4 : TIOk Try.prog 4 ti4 := ⟨Try.underlying4, by kernel_rfl, rfl, rfl⟩
theorem T4 : T 4 = some ⟨.bool, 1, 1, (.bool false)⟩ := rfl
theorem tiok5 : TIOk Try.prog 5 ti5 := ⟨Try.underlying5, by kernel_rfl, rfl, rfl⟩
theorem T5 : T 5 = some ⟨.int .u8, 1, 1, (.int .u8 0)⟩ := rfl
theorem tiok9 : TIOk Try.prog 9 ti9 := ⟨Try.underlying9, by kernel_rfl, rfl, rfl⟩
theorem T9 : T 9 = some ⟨.str, 1, 16, (.string ⟨#[]⟩)⟩ := rfl
theorem tiok12 : TIOk Try.prog 12 ti12 := ⟨Try.underlying12, by kernel_rfl, rfl, rfl⟩
theorem T12 : T 12 = some ⟨.int .u64, 1, 8, (.int .u64 0)⟩ := rfl
theorem tiok17 : TIOk Try.prog 17 ti17 := ⟨Try.underlying17, by kernel_rfl, rfl, rfl⟩
theorem T17 : T 17 = some ⟨.ptr 113, 1, 8, (.pointer none)⟩ := rfl
theorem tiok20 : TIOk Try.prog 20 ti20 := ⟨⟨_, Try.underlying20, trivial⟩, by kernel_rfl, rfl, rfl⟩
theorem T20 : T 20 = some ⟨.other, 1, 16, .nilIface⟩ := rfl
theorem tiok21 : TIOk Try.prog 21 ti21 := ⟨Try.underlying21, by kernel_rfl, rfl, rfl⟩
theorem T21 : T 21 = some ⟨.int .i32, 1, 4, (.int .i32 0)⟩ := rfl
theorem tiok22 : TIOk Try.prog 22 ti22 := ⟨⟨_, Try.underlying22, rfl⟩, by kernel_rfl, rfl, rfl⟩
theorem T22 : T 22 = some ⟨.struct [(0, 3), (1, 3)], 2, 16, (.agg #[(.int .i64 0), (.int .i64 0)])⟩ := rfl
theorem tiok23 : TIOk Try.prog 23 ti23 := ⟨⟨_, Try.underlying23, rfl⟩, by kernel_rfl, rfl, rfl⟩
theorem T23 : T 23 = some ⟨.struct [(0, 3), (1, 3)], 2, 16, (.agg #[(.int .i64 0), (.int .i64 0)])⟩ := rfl
theorem tiok24 : TIOk Try.prog 24 ti24 := ⟨Try.underlying24, by kernel_rfl, rfl, rfl⟩
theorem T24 : T 24 = some ⟨.slice 31, 1, 24, (.slice none 0 0)⟩ := rfl
theorem tiok25 : TIOk Try.prog 25 ti25 := ⟨Try.underlying25, by kernel_rfl, rfl, rfl⟩
theorem T25 : T 25 = some ⟨.slice 3, 1, 24, (.slice none 0 0)⟩ := rfl
theorem tiok26 : TIOk Try.prog 26 ti26 := ⟨Try.underlying26, by kernel_rfl, rfl, rfl⟩
theorem T26 : T 26 = some ⟨.int .i64, 1, 8, (.int .i64 0)⟩ := rfl
theorem tiok28 : TIOk Try.prog 28 ti28 := ⟨⟨_, Try.underlying28, trivial⟩, by kernel_rfl, rfl, rfl⟩
theorem T28 : T 28 = some ⟨.other, 1, 8, .nilFunc⟩ := rfl
theorem tiok29 : TIOk Try.prog 29 ti29 := ⟨⟨_, Try.underlying29, trivial⟩, by kernel_rfl, rfl, rfl⟩
theorem T29 : T 29 = some ⟨.other, 1, 8, .nilFunc⟩ := rfl
theorem tiok30 : TIOk Try.prog 30 ti30 := ⟨⟨_, Try.underlying30, rfl⟩, by kernel_rfl, rfl, rfl⟩
theorem T30 : T 30 = some ⟨.struct [(0, 3), (1, 3)], 2, 16, (.agg #[(.int .i64 0), (.int .i64 0)])⟩ := rfl
theorem tiok31 : TIOk Try.prog 31 ti31 := ⟨⟨_, Try.underlying31, rfl⟩, by kernel_rfl, rfl, rfl⟩
theorem T31 : T 31 = some ⟨.struct [(0, 3), (1, 3)], 2, 16, (.agg #[(.int .i64 0), (.int .i64 0)])⟩ := rfl
theorem tiok33 : TIOk Try.prog 33 ti33 := ⟨⟨_, Try.underlying33, trivial⟩, by kernel_rfl, rfl, rfl⟩
theorem T33 : T 33 = some ⟨.other, 1, 8, .nilFunc⟩ := rfl
theorem tiok34 : TIOk Try.prog 34 ti34 := ⟨⟨_, Try.underlying34, trivial⟩, by kernel_rfl, rfl, rfl⟩
theorem T34 : T 34 = some ⟨.other, 1, 8, .nilFunc⟩ := rfl
theorem tiok35 : TIOk Try.prog 35 ti35 := ⟨⟨_, Try.underlying35, trivial⟩, by kernel_rfl, rfl, rfl⟩
theorem T35 : T 35 = some ⟨.other, 1, 8, .nilFunc⟩ := rfl
theorem tiok36 : TIOk Try.prog 36 ti36 := ⟨⟨_, Try.underlying36, trivial⟩, by kernel_rfl, rfl, rfl⟩
theorem T36 : T 36 = some ⟨.other, 1, 8, .nilFunc⟩ := rfl
theorem tiok37 : TIOk Try.prog 37 ti37 := ⟨⟨_, Try.underlying37, trivial⟩, by kernel_rfl, rfl, rfl⟩
theorem T37 : T 37 = some ⟨.other, 1, 8, .nilFunc⟩ := rfl
theorem tiok38 : TIOk Try.prog 38 ti38 := ⟨⟨_, Try.underlying38, trivial⟩, by kernel_rfl, rfl, rfl⟩
theorem T38 : T 38 = some ⟨.other, 1, 8, .nilFunc⟩ := rfl
theorem tiok39 : TIOk Try.prog 39 ti39 := ⟨Try.underlying39, by kernel_rfl, rfl, rfl⟩
theorem T39 : T 39 = some ⟨.slice 44, 1, 24, (.slice none 0 0)⟩ := rfl
theorem tiok40 : TIOk Try.prog 40 ti40 := ⟨⟨_, Try.underlying40, trivial⟩, by kernel_rfl, rfl, rfl⟩
theorem T40 : T 40 = some ⟨.other, 1, 8, .nilFunc⟩ := rfl
theorem tiok42 : TIOk Try.prog 42 ti42 := ⟨⟨_, Try.underlying42, trivial⟩, by kernel_rfl, rfl, rfl⟩
theorem T42 : T 42 = some ⟨.other, 1, 8, .nilFunc⟩ := rfl
theorem tiok43 : TIOk Try.prog 43 ti43 := ⟨⟨_, Try.underlying43, trivial⟩, by kernel_rfl, rfl, rfl⟩
theorem T43 : T 43 = some ⟨.other, 1, 8, .nilFunc⟩ := rfl
theorem tiok44 : TIOk Try.prog 44 ti44 := ⟨Try.underlying44, by kernel_rfl, rfl, rfl⟩
theorem T44 : T 44 = some ⟨.slice 5, 1, 24, (.slice none 0 0)⟩ := rfl
theorem tiok45 : TIOk Try.prog 45 ti45 := ⟨Try.underlying45, by kernel_rfl, rfl, rfl⟩
theorem T45 : T 45 = some ⟨.slice 49, 1, 24, (.slice none 0 0)⟩ := rfl
theorem tiok46 : TIOk Try.prog 46 ti46 := ⟨⟨_, Try.underlying46, trivial⟩, by kernel_rfl, rfl, rfl⟩
theorem T46 : T 46 = some ⟨.other, 1, 8, .nilFunc⟩ := rfl
theorem tiok47 : TIOk Try.prog 47 ti47 := ⟨⟨_, Try.underlying47, trivial⟩, by kernel_rfl, rfl, rfl⟩
theorem T47 : T 47 = some ⟨.other, 1, 8, .nilFunc⟩ := rfl
theorem tiok48 : TIOk Try.prog 48 ti48 := ⟨⟨_, Try.underlying48, rfl⟩, by kernel_rfl, rfl, rfl⟩
theorem T48 : T 48 = some ⟨.struct [(0, 3), (1, 44)], 2, 32, (.agg #[(.int .i64 0), (.slice none 0 0)])⟩ := rfl
theorem tiok49 : TIOk Try.prog 49 ti49 := ⟨⟨_, Try.underlying49, rfl⟩, by kernel_rfl, rfl, rfl⟩
theorem T49 : T 49 = some ⟨.struct [(0, 3), (1, 44)], 2, 32, (.agg #[(.int .i64 0), (.slice none 0 0)])⟩ := rfl
theorem tiok51 : TIOk Try.prog 51 ti51 := ⟨⟨_, Try.underlying51, trivial⟩, by kernel_rfl, rfl, rfl⟩
theorem T51 : T 51 = some ⟨.other, 1, 8, .nilFunc⟩ := rfl
theorem tiok52 : TIOk Try.prog 52 ti52 := ⟨⟨_, Try.underlying52, trivial⟩, by kernel_rfl, rfl, rfl⟩
theorem T52 : T 52 = some ⟨.other, 1, 8, .nilFunc⟩ := rfl
theorem tiok53 : TIOk Try.prog 53 ti53 := ⟨⟨_, Try.underlying53, trivial⟩, by kernel_rfl, rfl, rfl⟩
theorem T53 : T 53 = some ⟨.other, 1, 8, .nilFunc⟩ := rfl
theorem tiok54 : TIOk Try.prog 54 ti54 := ⟨Try.underlying54, by kernel_rfl, rfl, rfl⟩
theorem T54 : T 54 = some ⟨.slice 58, 1, 24, (.slice none 0 0)⟩ := rfl
theorem tiok56 : TIOk Try.prog 56 ti56 := ⟨⟨_, Try.underlying56, trivial⟩, by kernel_rfl, rfl, rfl⟩
theorem T56 : T 56 = some ⟨.other, 1, 8, .nilFunc⟩ := rfl
theorem tiok57 : TIOk Try.prog 57 ti57 := ⟨⟨_, Try.underlying57, rfl⟩, by kernel_rfl, rfl, rfl⟩
theorem T57 : T 57 = some ⟨.struct [(0, 3), (1, 3)], 2, 16, (.agg #[(.int .i64 0), (.int .i64 0)])⟩ := rfl
theorem tiok58 : TIOk Try.prog 58 ti58 := ⟨⟨_, Try.underlying58, rfl⟩, by kernel_rfl, rfl, rfl⟩
theorem T58 : T 58 = some ⟨.struct [(0, 3), (1, 3)], 2, 16, (.agg #[(.int .i64 0), (.int .i64 0)])⟩ := rfl
theorem tiok59 : TIOk Try.prog 59 ti59 := ⟨⟨_, Try.underlying59, trivial⟩, by kernel_rfl, rfl, rfl⟩
theorem T59 : T 59 = some ⟨.other, 1, 8, .nilFunc⟩ := rfl
theorem tiok60 : TIOk Try.prog 60 ti60 := ⟨⟨_, Try.underlying60, trivial⟩, by kernel_rfl, rfl, rfl⟩
theorem T60 : T 60 = some ⟨.other, 1, 8, .nilFunc⟩ := rfl
theorem tiok61 : TIOk Try.prog 61 ti61 := ⟨⟨_, Try.underlying61, trivial⟩, by kernel_rfl, rfl, rfl⟩
theorem T61 : T 61 = some ⟨.other, 1, 8, .nilFunc⟩ := rfl
theorem tiok62 : TIOk Try.prog 62 ti62 := ⟨⟨_, Try.underlying62, trivial⟩, by kernel_rfl, rfl, rfl⟩
theorem T62 : T 62 = some ⟨.other, 1, 8, .nilFunc⟩ := rfl
theorem tiok63 : TIOk Try.prog 63 ti63 := ⟨⟨_, Try.underlying63, trivial⟩, by kernel_rfl, rfl, rfl⟩
theorem T63 : T 63 = some ⟨.other, 1, 8, .nilFunc⟩ := rfl
theorem tiok64 : TIOk Try.prog 64 ti64 := ⟨⟨_, Try.underlying64, trivial⟩, by kernel_rfl, rfl, rfl⟩
theorem T64 : T 64 = some ⟨.other, 1, 8, .nilFunc⟩ := rfl
theorem tiok65 : TIOk Try.prog 65 ti65 := ⟨⟨_, Try.underlying65, trivial⟩, by kernel_rfl, rfl, rfl⟩
theorem T65 : T 65 = some ⟨.other, 1, 8, .nilFunc⟩ := rfl
theorem tiok66 : TIOk Try.prog 66 ti66 := ⟨⟨_, Try.underlying66, trivial⟩, by kernel_rfl, rfl, rfl⟩
theorem T66 : T 66 = some ⟨.other, 1, 8, .nilFunc⟩ := rfl
theorem tiok67 : TIOk Try.prog 67 ti67 := ⟨⟨_, Try.underlying67, trivial⟩, by kernel_rfl, rfl, rfl⟩
theorem T67 : T 67 = some ⟨.other, 1, 8, .nilFunc⟩ := rfl
theorem tiok68 : TIOk Try.prog 68 ti68 := ⟨Try.underlying68, by kernel_rfl, rfl, rfl⟩
theorem T68 : T 68 = some ⟨.map 9 4, 1, 8, (.map none)⟩ := rfl
theorem tiok69 : TIOk Try.prog 69 ti69 := ⟨⟨_, Try.underlying69, trivial⟩, by kernel_rfl, rfl, rfl⟩
theorem T69 : T 69 = some ⟨.other, 1, 8, .nilFunc⟩ := rfl
theorem tiok70 : TIOk Try.prog 70 ti70 := ⟨Try.underlying70, by kernel_rfl, rfl, rfl⟩
theorem T70 : T 70 = some ⟨.slice 4, 1, 24, (.slice none 0 0)⟩ := rfl
theorem tiok71 : TIOk Try.prog 71 ti71 := ⟨⟨_, Try.underlying71, trivial⟩, by kernel_rfl, rfl, rfl⟩
theorem T71 : T 71 = some ⟨.other, 1, 8, .nilFunc⟩ := rfl
theorem tiok72 : TIOk Try.prog 72 ti72 := ⟨⟨_, Try.underlying72, trivial⟩, by kernel_rfl, rfl, rfl⟩
theorem T72 : T 72 = some ⟨.other, 1, 8, .nilFunc⟩ := rfl
theorem tiok73 : TIOk Try.prog 73 ti73 := ⟨⟨_, Try.underlying73, trivial⟩, by kernel_rfl, rfl, rfl⟩
theorem T73 : T 73 = some ⟨.other, 1, 8, .nilFunc⟩ := rfl
theorem tiok74 : TIOk Try.prog 74 ti74 := ⟨⟨_, Try.underlying74, trivial⟩, by kernel_rfl, rfl, rfl⟩
theorem T74 : T 74 = some ⟨.other, 1, 8, .nilFunc⟩ := rfl
theorem tiok75 : TIOk Try.prog 75 ti75 := ⟨⟨_, Try.underlying75, trivial⟩, by kernel_rfl, rfl, rfl⟩
theorem T75 : T 75 = some ⟨.other, 1, 8, .nilFunc⟩ := rfl
theorem tiok76 : TIOk Try.prog 76 ti76 := ⟨⟨_, Try.underlying76, trivial⟩, by kernel_rfl, rfl, rfl⟩
theorem T76 : T 76 = some ⟨.other, 1, 8, .nilFunc⟩ := rfl
theorem tiok77 : TIOk Try.prog 77 ti77 := ⟨Try.underlying77, by kernel_rfl, rfl, rfl⟩
theorem T77 : T 77 = some ⟨.int .u64, 1, 8, (.int .u64 0)⟩ := rfl
theorem tiok78 : TIOk Try.prog 78 ti78 := ⟨⟨_, Try.underlying78, trivial⟩, by kernel_rfl, rfl, rfl⟩
theorem T78 : T 78 = some ⟨.other, 1, 8, .nilFunc⟩ := rfl
theorem tiok79 : TIOk Try.prog 79 ti79 := ⟨Try.underlying79, by kernel_rfl, rfl, rfl⟩
theorem T79 : T 79 = some ⟨.int .i64, 1, 8, (.int .i64 0)⟩ := rfl
theorem tiok81 : TIOk Try.prog 81 ti81 := ⟨⟨_, Try.underlying81, trivial⟩, by kernel_rfl, rfl, rfl⟩
theorem T81 : T 81 = some ⟨.other, 1, 8, .nilFunc⟩ := rfl
theorem tiok82 : TIOk Try.prog 82 ti82 := ⟨⟨_, Try.underlying82, trivial⟩, by kernel_rfl, rfl, rfl⟩
theorem T82 : T 82 = some ⟨.other, 1, 8, .nilFunc⟩ := rfl
theorem tiok83 : TIOk Try.prog 83 ti83 := ⟨⟨_, Try.underlying83, trivial⟩, by kernel_rfl, rfl, rfl⟩
theorem T83 : T 83 = some ⟨.other, 1, 8, .nilFunc⟩ := rfl
theorem tiok85 : TIOk Try.prog 85 ti85 := ⟨⟨_, Try.underlying85, trivial⟩, by kernel_rfl, rfl, rfl⟩
theorem T85 : T 85 = some ⟨.other, 1, 8, .nilFunc⟩ := rfl
theorem tiok86 : TIOk Try.prog 86 ti86 := ⟨⟨_, Try.underlying86, trivial⟩, by kernel_rfl, rfl, rfl⟩
theorem T86 : T 86 = some ⟨.other, 1, 8, .nilFunc⟩ := rfl
theorem tiok87 : TIOk Try.prog 87 ti87 := ⟨Try.underlying87, by kernel_rfl, rfl, rfl⟩
theorem T87 : T 87 = some ⟨.int .u32, 1, 4, (.int .u32 0)⟩ := rfl
theorem tiok88 : TIOk Try.prog 88 ti88 := ⟨⟨_, Try.underlying88, trivial⟩, by kernel_rfl, rfl, rfl⟩
theorem T88 : T 88 = some ⟨.other, 1, 8, .nilFunc⟩ := rfl
theorem tiok89 : TIOk Try.prog 89 ti89 := ⟨Try.underlying89, by kernel_rfl, rfl, rfl⟩
theorem T89 : T 89 = some ⟨.int .u64, 1, 8, (.int .u64 0)⟩ := rfl
theorem tiok90 : TIOk Try.prog 90 ti90 := ⟨Try.underlying90, by kernel_rfl, rfl, rfl⟩
theorem T90 : T 90 = some ⟨.int .u64, 1, 8, (.int .u64 0)⟩ := rfl
theorem tiok91 : TIOk Try.prog 91 ti91 := ⟨⟨_, Try.underlying91, trivial⟩, by kernel_rfl, rfl, rfl⟩
theorem T91 : T 91 = some ⟨.other, 1, 8, .nilFunc⟩ := rfl
theorem tiok92 : TIOk Try.prog 92 ti92 := ⟨⟨_, Try.underlying92, trivial⟩, by kernel_rfl, rfl, rfl⟩
theorem T92 : T 92 = some ⟨.other, 1, 8, .nilFunc⟩ := rfl
theorem tiok93 : TIOk Try.prog 93 ti93 := ⟨⟨_, Try.underlying93, trivial⟩, by kernel_rfl, rfl, rfl⟩
theorem T93 : T 93 = some ⟨.other, 1, 8, .nilFunc⟩ := rfl
theorem tiok94 : TIOk Try.prog 94 ti94 := ⟨Try.underlying94, by kernel_rfl, rfl, rfl⟩
theorem T94 : T 94 = some ⟨.ptr 3, 1, 8, (.pointer none)⟩ := rfl
theorem tiok95 : TIOk Try.prog 95 ti95 := ⟨⟨_, Try.underlying95, trivial⟩, by kernel_rfl, rfl, rfl⟩
theorem T95 : T 95 = some ⟨.other, 1, 8, .nilFunc⟩ := rfl
theorem tiok96 : TIOk Try.prog 96 ti96 := ⟨Try.underlying96, by kernel_rfl, rfl, rfl⟩
theorem T96 : T 96 = some ⟨.ptr 90, 1, 8, (.pointer none)⟩ := rfl
theorem tiok98 : TIOk Try.prog 98 ti98 := ⟨⟨_, Try.underlying98, trivial⟩, by kernel_rfl, rfl, rfl⟩
theorem T98 : T 98 = some ⟨.other, 1, 8, .nilFunc⟩ := rfl
theorem tiok99 : TIOk Try.prog 99 ti99 := ⟨⟨_, Try.underlying99, trivial⟩, by kernel_rfl, rfl, rfl⟩
theorem T99 : T 99 = some ⟨.other, 1, 8, .nilFunc⟩ := rfl
theorem tiok105 : TIOk Try.prog 105 ti105 := ⟨⟨_, Try.underlying105, trivial⟩, by kernel_rfl, rfl, rfl⟩
theorem T105 : T 105 = some ⟨.other, 1, 8, .nilFunc⟩ := rfl
theorem tiok108 : TIOk Try.prog 108 ti108 := ⟨⟨_, Try.underlying108, trivial⟩, by kernel_rfl, rfl, rfl⟩
theorem T108 : T 108 = some ⟨.other, 1, 8, .nilFunc⟩ := rfl
theorem tiok109 : TIOk Try.prog 109 ti109 := ⟨Try.underlying109, by kernel_rfl, rfl, rfl⟩
theorem T109 : T 109 = some ⟨.ptr 5, 1, 8, (.pointer none)⟩ := rfl
theorem tabOK : TabOK Try.prog T := by
  refine tabOK_of ?_
  simp only [tl, List.forall_mem_cons]
  exact ⟨tiok1, tiok2, tiok3, tiok4, tiok5, tiok9, tiok12, tiok17, tiok20, tiok21, tiok22, tiok23, tiok24, tiok25, tiok26, tiok28, tiok29, tiok30, tiok31, tiok33, tiok34, tiok35, tiok36, tiok37, tiok38, tiok39, tiok40, tiok42, tiok43, tiok44, tiok45, tiok46, tiok47, tiok48, tiok49, tiok51, tiok52, tiok53, tiok54, tiok56, tiok57, tiok58, tiok59, tiok60, tiok61, tiok62, tiok63, tiok64, tiok65, tiok66, tiok67, tiok68, tiok69, tiok70, tiok71, tiok72, tiok73, tiok74, tiok75, tiok76, tiok77, tiok78, tiok79, tiok81, tiok82, tiok83, tiok85, tiok86, tiok87, tiok88, tiok89, tiok90, tiok91, tiok92, tiok93, tiok94, tiok95, tiok96, tiok98, tiok99, tiok105, tiok108, tiok109, fun _ h => by cases h⟩
end Go.Proofs.Ytpeiomhgaembaaa
