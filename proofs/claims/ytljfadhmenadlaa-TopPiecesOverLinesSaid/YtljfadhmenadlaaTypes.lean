/-
  The types of this seat's program, as a table. No condition.
-/
import Derived.Test.YtljfadhmenadlaaProg
import Derived.Test.YtljfadhmenadlaaTypB
import Derived.KernelRfl
import Derived.Shelf.Abstract
import Derived.Tactics
set_option linter.unusedVariables false
namespace Go.Proofs.Ytljfadhmenadlaa
open Go Go.RowKit Go.Proofs.Ytljfadhmenadlaa.Eng
/-- The types of this seat's program, as a table. -/
def ti1 : TI := ⟨.other, 1, 8, .nilFunc⟩
def ti2 : TI := ⟨.int .i64, 1, 8, (.int .i64 0)⟩
def ti3 : TI := ⟨.int .i64, 1, 8, (.int .i64 0)⟩
def ti4 : TI := ⟨.bool, 1, 1, (.bool false)⟩
def ti5 : TI := ⟨.int .u8, 1, 1, (.int .u8 0)⟩
def ti9 : TI := ⟨.str, 1, 16, (.string ⟨#[]⟩)⟩
def ti12 : TI := ⟨.int .u64, 1, 8, (.int .u64 0)⟩
def ti17 : TI := ⟨.ptr 57, 1, 8, (.pointer none)⟩
def ti20 : TI := ⟨.other, 1, 16, .nilIface⟩
def ti21 : TI := ⟨.int .i32, 1, 4, (.int .i32 0)⟩
def ti22 : TI := ⟨.slice 5, 1, 24, (.slice none 0 0)⟩
def ti23 : TI := ⟨.slice 3, 1, 24, (.slice none 0 0)⟩
def ti24 : TI := ⟨.int .i64, 1, 8, (.int .i64 0)⟩
def ti26 : TI := ⟨.other, 1, 8, .nilFunc⟩
def ti27 : TI := ⟨.other, 1, 8, .nilFunc⟩
def ti28 : TI := ⟨.slice 22, 1, 24, (.slice none 0 0)⟩
def ti29 : TI := ⟨.other, 1, 8, .nilFunc⟩
def ti31 : TI := ⟨.other, 1, 8, .nilFunc⟩
def ti32 : TI := ⟨.other, 1, 8, .nilFunc⟩
def ti34 : TI := ⟨.other, 1, 8, .nilFunc⟩
def ti35 : TI := ⟨.other, 1, 8, .nilFunc⟩
def ti36 : TI := ⟨.other, 1, 8, .nilFunc⟩
def ti37 : TI := ⟨.other, 1, 8, .nilFunc⟩
def ti38 : TI := ⟨.other, 1, 8, .nilFunc⟩
def ti39 : TI := ⟨.map 9 4, 1, 8, (.map none)⟩
def ti40 : TI := ⟨.int .u32, 1, 4, (.int .u32 0)⟩
def ti41 : TI := ⟨.int .u64, 1, 8, (.int .u64 0)⟩
def ti42 : TI := ⟨.int .u64, 1, 8, (.int .u64 0)⟩
def ti43 : TI := ⟨.other, 1, 8, .nilFunc⟩
def ti49 : TI := ⟨.other, 1, 8, .nilFunc⟩
def ti52 : TI := ⟨.other, 1, 8, .nilFunc⟩
def ti53 : TI := ⟨.ptr 5, 1, 8, (.pointer none)⟩
def tl : List (Nat × TI) := [(1, ti1), (2, ti2), (3, ti3), (4, ti4), (5, ti5), (9, ti9), (12, ti12), (17, ti17), (20, ti20), (21, ti21), (22, ti22), (23, ti23), (24, ti24), (26, ti26), (27, ti27), (28, ti28), (29, ti29), (31, ti31), (32, ti32), (34, ti34), (35, ti35), (36, ti36), (37, ti37), (38, ti38), (39, ti39), (40, ti40), (41, ti41), (42, ti42), (43, ti43), (49, ti49), (52, ti52), (53, ti53)]
def T : Tab := tabGet tl
theorem tiok1 : TIOk Try.prog 1 ti1 := ⟨⟨_, Try.underlying1, trivial⟩, by kernel_rfl, rfl, rfl⟩
theorem tiok2 : TIOk Try.prog 2 ti2 := ⟨Try.underlying2, by kernel_rfl, rfl, rfl⟩
theorem tiok3 : TIOk Try.prog 3 ti3 := ⟨Try.underlying3, by kernel_rfl, rfl, rfl⟩
theorem tiok4 : TIOk Try.prog 4 ti4 := ⟨Try.underlying4, by kernel_rfl, rfl, rfl⟩
theorem tiok5 : TIOk Try.prog 5 ti5 := ⟨Try.underlying5, by kernel_rfl, rfl, rfl⟩
theorem tiok9 : TIOk Try.prog 9 ti9 := ⟨Try.underlying9, by kernel_rfl, rfl, rfl⟩
theorem tiok12 : TIOk Try.prog 12 ti12 := ⟨Try.underlying12, by kernel_rfl, rfl, rfl⟩
theorem tiok17 : TIOk Try.prog 17 ti17 := ⟨Try.underlying17, by kernel_rfl, rfl, rfl⟩
theorem tiok20 : TIOk Try.prog 20 ti20 := ⟨⟨_, Try.underlying20, trivial⟩, by kernel_rfl, rfl, rfl⟩
theorem tiok21 : TIOk Try.prog 21 ti21 := ⟨Try.underlying21, by kernel_rfl, rfl, rfl⟩
theorem tiok22 : TIOk Try.prog 22 ti22 := ⟨Try.underlying22, by kernel_rfl, rfl, rfl⟩
theorem tiok23 : TIOk Try.prog 23 ti23 := ⟨Try.underlying23, by kernel_rfl, rfl, rfl⟩
theorem tiok24 : TIOk Try.prog 24 ti24 := ⟨Try.underlying24, by kernel_rfl, rfl, rfl⟩
theorem tiok26 : TIOk Try.prog 26 ti26 := ⟨⟨_, Try.underlying26, trivial⟩, by kernel_rfl, rfl, rfl⟩
theorem tiok27 : TIOk Try.prog 27 ti27 := ⟨⟨_, Try.underlying27, trivial⟩, by kernel_rfl, rfl, rfl⟩
theorem tiok28 : TIOk Try.prog 28 ti28 := ⟨Try.underlying28, by kernel_rfl, rfl, rfl⟩
theorem tiok29 : TIOk Try.prog 29 ti29 := ⟨⟨_, Try.underlying29, trivial⟩, by kernel_rfl, rfl, rfl⟩
theorem tiok31 : TIOk Try.prog 31 ti31 := ⟨⟨_, Try.underlying31, trivial⟩, by kernel_rfl, rfl, rfl⟩
theorem tiok32 : TIOk Try.prog 32 ti32 := ⟨⟨_, Try.underlying32, trivial⟩, by kernel_rfl, rfl, rfl⟩
theorem tiok34 : TIOk Try.prog 34 ti34 := ⟨⟨_, Try.underlying34, trivial⟩, by kernel_rfl, rfl, rfl⟩
theorem tiok35 : TIOk Try.prog 35 ti35 := ⟨⟨_, Try.underlying35, trivial⟩, by kernel_rfl, rfl, rfl⟩
theorem tiok36 : TIOk Try.prog 36 ti36 := ⟨⟨_, Try.underlying36, trivial⟩, by kernel_rfl, rfl, rfl⟩
theorem tiok37 : TIOk Try.prog 37 ti37 := ⟨⟨_, Try.underlying37, trivial⟩, by kernel_rfl, rfl, rfl⟩
theorem tiok38 : TIOk Try.prog 38 ti38 := ⟨⟨_, Try.underlying38, trivial⟩, by kernel_rfl, rfl, rfl⟩
theorem tiok39 : TIOk Try.prog 39 ti39 := ⟨Try.underlying39, by kernel_rfl, rfl, rfl⟩
theorem tiok40 : TIOk Try.prog 40 ti40 := ⟨Try.underlying40, by kernel_rfl, rfl, rfl⟩
theorem tiok41 : TIOk Try.prog 41 ti41 := ⟨Try.underlying41, by kernel_rfl, rfl, rfl⟩
theorem tiok42 : TIOk Try.prog 42 ti42 := ⟨Try.underlying42, by kernel_rfl, rfl, rfl⟩
theorem tiok43 : TIOk Try.prog 43 ti43 := ⟨⟨_, Try.underlying43, trivial⟩, by kernel_rfl, rfl, rfl⟩
theorem tiok49 : TIOk Try.prog 49 ti49 := ⟨⟨_, Try.underlying49, trivial⟩, by kernel_rfl, rfl, rfl⟩
theorem tiok52 : TIOk Try.prog 52 ti52 := ⟨⟨_, Try.underlying52, trivial⟩, by kernel_rfl, rfl, rfl⟩
theorem tiok53 : TIOk Try.prog 53 ti53 := ⟨Try.underlying53, by kernel_rfl, rfl, rfl⟩
theorem tabOK : TabOK Try.prog T := by
  refine tabOK_of ?_
  simp only [tl, List.forall_mem_cons]
  exact ⟨tiok1, tiok2, tiok3, tiok4, tiok5, tiok9, tiok12, tiok17, tiok20, tiok21, tiok22, tiok23, tiok24, tiok26, tiok27, tiok28, tiok29, tiok31, tiok32, tiok34, tiok35, tiok36, tiok37, tiok38, tiok39, tiok40, tiok41, tiok42, tiok43, tiok49, tiok52, tiok53, fun _ h => by cases h⟩
def TYt : Nat → Option Ty := lkT [(2, (.int .i64)), (3, (.int .i64)), (4, .bool), (5, .byte), (9, .str), (12, (.int .u64)), (21, (.int .i32)), (22, (.slice .byte)), (23, (.slice (.int .i64))), (24, (.int .i64)), (28, (.slice (.slice .byte))), (40, (.int .u32)), (41, (.int .u64)), (42, (.int .u64)), (53, (.ptr .byte))]
theorem mixed : Try.prog.follows .mixedOrders = true := by kernel_rfl
def bodyOf (f : Func) : Code := match f.body with | some c => c | none => .skip
end Go.Proofs.Ytljfadhmenadlaa
