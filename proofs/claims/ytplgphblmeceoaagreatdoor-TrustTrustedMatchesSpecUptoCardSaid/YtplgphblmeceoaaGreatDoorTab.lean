/-
  The types of this program, as a table.
-/
import Derived.Test.YtplgphblmeceoaaGreatDoorProg
import Derived.Test.YtplgphblmeceoaaGreatDoorTypC
import Derived.KernelRfl
import Derived.Shelf.Abstract
import Derived.Tactics
set_option linter.unusedVariables false
set_option maxRecDepth 100000
namespace Go.Proofs.YtplgphblmeceoaaGreatDoor
open Go Go.RowKit Go.Proofs.YtplgphblmeceoaaGreatDoor.Eng
def ti3 : TI := ⟨.int .i64, 1, 8, (.int .i64 0)⟩
def ti4 : TI := ⟨.bool, 1, 1, (.bool false)⟩
def ti5 : TI := ⟨.int .u8, 1, 1, (.int .u8 0)⟩
def ti9 : TI := ⟨.str, 1, 16, (.string ⟨#[]⟩)⟩
def ti21 : TI := ⟨.int .i32, 1, 4, (.int .i32 0)⟩
def ti22 : TI := ⟨.slice 40, 1, 24, (.slice none 0 0)⟩
def ti23 : TI := ⟨.slice 43, 1, 24, (.slice none 0 0)⟩
def ti24 : TI := ⟨.slice 29, 1, 24, (.slice none 0 0)⟩
def ti28 : TI := ⟨.struct [(0, 3), (1, 9), (2, 3)], 3, 32, (.agg #[(.int .i64 0), (.string ⟨#[]⟩), (.int .i64 0)])⟩
def ti29 : TI := ⟨.struct [(0, 3), (1, 9), (2, 3)], 3, 32, (.agg #[(.int .i64 0), (.string ⟨#[]⟩), (.int .i64 0)])⟩
def ti30 : TI := ⟨.int .i64, 1, 8, (.int .i64 0)⟩
def ti38 : TI := ⟨.slice 9, 1, 24, (.slice none 0 0)⟩
def ti39 : TI := ⟨.struct [(0, 9), (1, 9), (2, 38), (3, 3), (4, 3)], 5, 72, (.agg #[(.string ⟨#[]⟩), (.string ⟨#[]⟩), (.slice none 0 0), (.int .i64 0), (.int .i64 0)])⟩
def ti40 : TI := ⟨.struct [(0, 9), (1, 9), (2, 38), (3, 3), (4, 3)], 5, 72, (.agg #[(.string ⟨#[]⟩), (.string ⟨#[]⟩), (.slice none 0 0), (.int .i64 0), (.int .i64 0)])⟩
def ti42 : TI := ⟨.struct [(0, 9), (1, 9), (2, 9), (3, 9), (4, 3), (5, 38), (6, 9)], 7, 112, (.agg #[(.string ⟨#[]⟩), (.string ⟨#[]⟩), (.string ⟨#[]⟩), (.string ⟨#[]⟩), (.int .i64 0), (.slice none 0 0), (.string ⟨#[]⟩)])⟩
def ti43 : TI := ⟨.struct [(0, 9), (1, 9), (2, 9), (3, 9), (4, 3), (5, 38), (6, 9)], 7, 112, (.agg #[(.string ⟨#[]⟩), (.string ⟨#[]⟩), (.string ⟨#[]⟩), (.string ⟨#[]⟩), (.int .i64 0), (.slice none 0 0), (.string ⟨#[]⟩)])⟩
def ti47 : TI := ⟨.other, 1, 8, .nilFunc⟩
def ti49 : TI := ⟨.slice 4, 1, 24, (.slice none 0 0)⟩
def ti55 : TI := ⟨.struct [(0, 49), (1, 49), (2, 49), (3, 38)], 4, 96, (.agg #[(.slice none 0 0), (.slice none 0 0), (.slice none 0 0), (.slice none 0 0)])⟩
def ti56 : TI := ⟨.struct [(0, 49), (1, 49), (2, 49), (3, 38)], 4, 96, (.agg #[(.slice none 0 0), (.slice none 0 0), (.slice none 0 0), (.slice none 0 0)])⟩
def ti65 : TI := ⟨.map 9 4, 1, 8, (.map none)⟩
def ti66 : TI := ⟨.struct [(0, 49), (1, 49), (2, 65)], 3, 56, (.agg #[(.slice none 0 0), (.slice none 0 0), (.map none)])⟩
def ti67 : TI := ⟨.struct [(0, 49), (1, 49), (2, 65)], 3, 56, (.agg #[(.slice none 0 0), (.slice none 0 0), (.map none)])⟩
def ti69 : TI := ⟨.map 9 3, 1, 8, (.map none)⟩
def ti94 : TI := ⟨.other, 1, 8, .nilFunc⟩
def ti96 : TI := ⟨.slice 5, 1, 24, (.slice none 0 0)⟩
def ti100 : TI := ⟨.int .u64, 1, 8, (.int .u64 0)⟩
def ti102 : TI := ⟨.struct [(0, 9), (1, 9)], 2, 32, (.agg #[(.string ⟨#[]⟩), (.string ⟨#[]⟩)])⟩
def ti103 : TI := ⟨.struct [(0, 9), (1, 9)], 2, 32, (.agg #[(.string ⟨#[]⟩), (.string ⟨#[]⟩)])⟩
def ti108 : TI := ⟨.other, 1, 8, .nilFunc⟩
def ti113 : TI := ⟨.int .u64, 1, 8, (.int .u64 0)⟩
def tl : List (Nat × TI) := [(3, ti3), (4, ti4), (5, ti5), (9, ti9), (21, ti21), (22, ti22), (23, ti23), (24, ti24), (28, ti28), (29, ti29), (30, ti30), (38, ti38), (39, ti39), (40, ti40), (42, ti42), (43, ti43), (47, ti47), (49, ti49), (55, ti55), (56, ti56), (65, ti65), (66, ti66), (67, ti67), (69, ti69), (94, ti94), (96, ti96), (100, ti100), (102, ti102), (103, ti103), (108, ti108), (113, ti113)]
def T : Tab := tabGet tl
theorem tiok3 : TIOk Tryz.prog 3 ti3 := ⟨Tryz.underlying3, by kernel_rfl, rfl, rfl⟩
theorem tiok4 : TIOk Tryz.prog 4 ti4 := ⟨Tryz.underlying4, by kernel_rfl, rfl, rfl⟩
theorem tiok5 : TIOk Tryz.prog 5 ti5 := ⟨Tryz.underlying5, by kernel_rfl, rfl, rfl⟩
theorem tiok9 : TIOk Tryz.prog 9 ti9 := ⟨Tryz.underlying9, by kernel_rfl, rfl, rfl⟩
theorem tiok21 : TIOk Tryz.prog 21 ti21 := ⟨Tryz.underlying21, by kernel_rfl, rfl, rfl⟩
theorem tiok22 : TIOk Tryz.prog 22 ti22 := ⟨Tryz.underlying22, by kernel_rfl, rfl, rfl⟩
theorem tiok23 : TIOk Tryz.prog 23 ti23 := ⟨Tryz.underlying23, by kernel_rfl, rfl, rfl⟩
theorem tiok24 : TIOk Tryz.prog 24 ti24 := ⟨Tryz.underlying24, by kernel_rfl, rfl, rfl⟩
theorem tiok28 : TIOk Tryz.prog 28 ti28 := ⟨⟨_, Tryz.underlying28, rfl⟩, by kernel_rfl, rfl, rfl⟩
theorem tiok29 : TIOk Tryz.prog 29 ti29 := ⟨⟨_, Tryz.underlying29, rfl⟩, by kernel_rfl, rfl, rfl⟩
theorem tiok30 : TIOk Tryz.prog 30 ti30 := ⟨Tryz.underlying30, by kernel_rfl, rfl, rfl⟩
theorem tiok38 : TIOk Tryz.prog 38 ti38 := ⟨Tryz.underlying38, by kernel_rfl, rfl, rfl⟩
theorem tiok39 : TIOk Tryz.prog 39 ti39 := ⟨⟨_, Tryz.underlying39, rfl⟩, by kernel_rfl, rfl, rfl⟩
theorem tiok40 : TIOk Tryz.prog 40 ti40 := ⟨⟨_, Tryz.underlying40, rfl⟩, by kernel_rfl, rfl, rfl⟩
theorem tiok42 : TIOk Tryz.prog 42 ti42 := ⟨⟨_, Tryz.underlying42, rfl⟩, by kernel_rfl, rfl, rfl⟩
theorem tiok43 : TIOk Tryz.prog 43 ti43 := ⟨⟨_, Tryz.underlying43, rfl⟩, by kernel_rfl, rfl, rfl⟩
theorem tiok47 : TIOk Tryz.prog 47 ti47 := ⟨⟨_, Tryz.underlying47, trivial⟩, by kernel_rfl, rfl, rfl⟩
theorem tiok49 : TIOk Tryz.prog 49 ti49 := ⟨Tryz.underlying49, by kernel_rfl, rfl, rfl⟩
theorem tiok55 : TIOk Tryz.prog 55 ti55 := ⟨⟨_, Tryz.underlying55, rfl⟩, by kernel_rfl, rfl, rfl⟩
theorem tiok56 : TIOk Tryz.prog 56 ti56 := ⟨⟨_, Tryz.underlying56, rfl⟩, by kernel_rfl, rfl, rfl⟩
theorem tiok65 : TIOk Tryz.prog 65 ti65 := ⟨Tryz.underlying65, by kernel_rfl, rfl, rfl⟩
theorem tiok66 : TIOk Tryz.prog 66 ti66 := ⟨⟨_, Tryz.underlying66, rfl⟩, by kernel_rfl, rfl, rfl⟩
theorem tiok67 : TIOk Tryz.prog 67 ti67 := ⟨⟨_, Tryz.underlying67, rfl⟩, by kernel_rfl, rfl, rfl⟩
theorem tiok69 : TIOk Tryz.prog 69 ti69 := ⟨Tryz.underlying69, by kernel_rfl, rfl, rfl⟩
theorem tiok94 : TIOk Tryz.prog 94 ti94 := ⟨⟨_, Tryz.underlying94, trivial⟩, by kernel_rfl, rfl, rfl⟩
theorem tiok96 : TIOk Tryz.prog 96 ti96 := ⟨Tryz.underlying96, by kernel_rfl, rfl, rfl⟩
theorem tiok100 : TIOk Tryz.prog 100 ti100 := ⟨Tryz.underlying100, by kernel_rfl, rfl, rfl⟩
theorem tiok102 : TIOk Tryz.prog 102 ti102 := ⟨⟨_, Tryz.underlying102, rfl⟩, by kernel_rfl, rfl, rfl⟩
theorem tiok103 : TIOk Tryz.prog 103 ti103 := ⟨⟨_, Tryz.underlying103, rfl⟩, by kernel_rfl, rfl, rfl⟩
theorem tiok108 : TIOk Tryz.prog 108 ti108 := ⟨⟨_, Tryz.underlying108, trivial⟩, by kernel_rfl, rfl, rfl⟩
theorem tiok113 : TIOk Tryz.prog 113 ti113 := ⟨Tryz.underlying113, by kernel_rfl, rfl, rfl⟩
theorem tabOK : Zo Tryz.prog T := by
 refine Zii ?_
 simp only [tl, List.forall_mem_cons]
 exact ⟨tiok3, tiok4, tiok5, tiok9, tiok21, tiok22, tiok23, tiok24, tiok28, tiok29, tiok30, tiok38, tiok39, tiok40, tiok42, tiok43, tiok47, tiok49, tiok55, tiok56, tiok65, tiok66, tiok67, tiok69, tiok94, tiok96, tiok100, tiok102, tiok103, tiok108, tiok113, fun _ h => by cases h⟩
def TYt : Nat → Option Ty := lkT [(3, (.int .i64)), (4, .bool), (5, .byte), (9, .str), (21, (.int .i32)), (22, (.slice (.pair .str (.pair .str (.pair (.slice .str) (.pair (.int .i64) (.int .i64))))))), (23, (.slice (.pair .str (.pair .str (.pair .str (.pair .str (.pair (.int .i64) (.pair (.slice .str) .str)))))))), (24, (.slice (.pair (.int .i64) (.pair .str (.int .i64))))), (28, (.pair (.int .i64) (.pair .str (.int .i64)))), (29, (.pair (.int .i64) (.pair .str (.int .i64)))), (30, (.int .i64)), (38, (.slice .str)), (39, (.pair .str (.pair .str (.pair (.slice .str) (.pair (.int .i64) (.int .i64)))))), (40, (.pair .str (.pair .str (.pair (.slice .str) (.pair (.int .i64) (.int .i64)))))), (42, (.pair .str (.pair .str (.pair .str (.pair .str (.pair (.int .i64) (.pair (.slice .str) .str))))))), (43, (.pair .str (.pair .str (.pair .str (.pair .str (.pair (.int .i64) (.pair (.slice .str) .str))))))), (49, (.slice .bool)), (55, (.pair (.slice .bool) (.pair (.slice .bool) (.pair (.slice .bool) (.slice .str))))), (56, (.pair (.slice .bool) (.pair (.slice .bool) (.pair (.slice .bool) (.slice .str))))), (65, (.mp .bool)), (66, (.pair (.slice .bool) (.pair (.slice .bool) (.mp .bool)))), (67, (.pair (.slice .bool) (.pair (.slice .bool) (.mp .bool)))), (69, (.mp (.int .i64))), (96, (.slice .byte)), (100, (.int .u64)), (102, (.pair .str .str)), (103, (.pair .str .str)), (113, (.int .u64))]
theorem mixed : Tryz.prog.follows .mixedOrders = true := by kernel_rfl
def Z6 (f : Func) : Code := match f.body with | some c => c | none => .skip
end Go.Proofs.YtplgphblmeceoaaGreatDoor
