/-
  The types of this seat's program, as a table. No condition.
-/
import Derived.Test.YtcphmeggalaplaaDoorProg
import Derived.Test.YtcphmeggalaplaaDoorTypC
import Derived.KernelRfl
import Derived.Shelf.Abstract
import Derived.Tactics
import Derived.Shelf.LaysM
import Derived.WalkKit
import Derived.Ground.NamesProg
import Derived.Shelf.Small.Strs
import Derived.Shelf.Strings.Search2
import Derived.Shelf.Strings.Count
import Derived.Shelf.Slices.Reverse
import Derived.Shelf.Strings.SlTrimAscii
set_option linter.unusedVariables false
set_option maxRecDepth 100000
namespace Go.Proofs.YtcphmeggalaplaaDoor
open Go Go.RowKit Go.Proofs.YtcphmeggalaplaaDoor.Eng
/-- The types of this seat's program, as a table. -/
def ti3 : TI := ⟨.int .i64, 1, 8, (.int .i64 0)⟩
def ti4 : TI := ⟨.bool, 1, 1, (.bool false)⟩
def ti5 : TI := ⟨.int .u8, 1, 1, (.int .u8 0)⟩
def ti9 : TI := ⟨.str, 1, 16, (.string ⟨#[]⟩)⟩
def ti21 : TI := ⟨.int .i32, 1, 4, (.int .i32 0)⟩
def ti22 : TI := ⟨.slice 32, 1, 24, (.slice none 0 0)⟩
def ti23 : TI := ⟨.slice 3, 1, 24, (.slice none 0 0)⟩
def ti24 : TI := ⟨.int .i64, 1, 8, (.int .i64 0)⟩
def ti28 : TI := ⟨.slice 34, 1, 24, (.slice none 0 0)⟩
def ti29 : TI := ⟨.slice 76, 1, 24, (.slice none 0 0)⟩
def ti30 : TI := ⟨.slice 9, 1, 24, (.slice none 0 0)⟩
def ti31 : TI := ⟨.struct [(0, 9), (1, 29), (2, 3), (3, 30)], 4, 72, (.agg #[(.string ⟨#[]⟩), (.slice none 0 0), (.int .i64 0), (.slice none 0 0)])⟩
def ti32 : TI := ⟨.struct [(0, 9), (1, 29), (2, 3), (3, 30)], 4, 72, (.agg #[(.string ⟨#[]⟩), (.slice none 0 0), (.int .i64 0), (.slice none 0 0)])⟩
def ti33 : TI := ⟨.struct [(0, 9), (1, 9), (2, 30), (3, 30), (4, 30), (5, 3)], 6, 112, (.agg #[(.string ⟨#[]⟩), (.string ⟨#[]⟩), (.slice none 0 0), (.slice none 0 0), (.slice none 0 0), (.int .i64 0)])⟩
def ti34 : TI := ⟨.struct [(0, 9), (1, 9), (2, 30), (3, 30), (4, 30), (5, 3)], 6, 112, (.agg #[(.string ⟨#[]⟩), (.string ⟨#[]⟩), (.slice none 0 0), (.slice none 0 0), (.slice none 0 0), (.int .i64 0)])⟩
def ti41 : TI := ⟨.slice 5, 1, 24, (.slice none 0 0)⟩
def ti42 : TI := ⟨.ptr 49, 1, 8, (.pointer none)⟩
def ti47 : TI := ⟨.slice 23, 1, 24, (.slice none 0 0)⟩
def ti48 : TI := ⟨.struct [(0, 28), (1, 47), (2, 47)], 3, 72, (.agg #[(.slice none 0 0), (.slice none 0 0), (.slice none 0 0)])⟩
def ti49 : TI := ⟨.struct [(0, 28), (1, 47), (2, 47)], 3, 72, (.agg #[(.slice none 0 0), (.slice none 0 0), (.slice none 0 0)])⟩
def ti56 : TI := ⟨.other, 1, 8, .nilFunc⟩
def ti57 : TI := ⟨.other, 1, 8, .nilFunc⟩
def ti58 : TI := ⟨.int .u64, 1, 8, (.int .u64 0)⟩
def ti59 : TI := ⟨.int .u64, 1, 8, (.int .u64 0)⟩
def ti63 : TI := ⟨.other, 1, 8, .nilFunc⟩
def ti68 : TI := ⟨.other, 1, 8, .nilFunc⟩
def ti69 : TI := ⟨.slice 4, 1, 24, (.slice none 0 0)⟩
def ti71 : TI := ⟨.other, 1, 8, .nilFunc⟩
def ti75 : TI := ⟨.struct [(0, 9), (1, 9)], 2, 32, (.agg #[(.string ⟨#[]⟩), (.string ⟨#[]⟩)])⟩
def ti76 : TI := ⟨.struct [(0, 9), (1, 9)], 2, 32, (.agg #[(.string ⟨#[]⟩), (.string ⟨#[]⟩)])⟩
def ti80 : TI := ⟨.other, 1, 8, .nilFunc⟩
def ti88 : TI := ⟨.struct [(0, 9), (1, 9)], 2, 32, (.agg #[(.string ⟨#[]⟩), (.string ⟨#[]⟩)])⟩
def ti89 : TI := ⟨.struct [(0, 9), (1, 9)], 2, 32, (.agg #[(.string ⟨#[]⟩), (.string ⟨#[]⟩)])⟩
def tl : List (Nat × TI) := [(3, ti3), (4, ti4), (5, ti5), (9, ti9), (21, ti21), (22, ti22), (23, ti23), (24, ti24), (28, ti28), (29, ti29), (30, ti30), (31, ti31), (32, ti32), (33, ti33), (34, ti34), (41, ti41), (42, ti42), (47, ti47), (48, ti48), (49, ti49), (56, ti56), (57, ti57), (58, ti58), (59, ti59), (63, ti63), (68, ti68), (69, ti69), (71, ti71), (75, ti75), (76, ti76), (80, ti80), (88, ti88), (89, ti89)]
def T : Tab := tabGet tl
theorem tiok3 : TIOk Tryd.prog 3 ti3 := ⟨Tryd.underlying3, by kernel_rfl, rfl, rfl⟩
theorem tiok4 : TIOk Tryd.prog 4 ti4 := ⟨Tryd.underlying4, by kernel_rfl, rfl, rfl⟩
theorem tiok5 : TIOk Tryd.prog 5 ti5 := ⟨Tryd.underlying5, by kernel_rfl, rfl, rfl⟩
theorem tiok9 : TIOk Tryd.prog 9 ti9 := ⟨Tryd.underlying9, by kernel_rfl, rfl, rfl⟩
theorem tiok21 : TIOk Tryd.prog 21 ti21 := ⟨Tryd.underlying21, by kernel_rfl, rfl, rfl⟩
theorem tiok22 : TIOk Tryd.prog 22 ti22 := ⟨Tryd.underlying22, by kernel_rfl, rfl, rfl⟩
theorem tiok23 : TIOk Tryd.prog 23 ti23 := ⟨Tryd.underlying23, by kernel_rfl, rfl, rfl⟩
theorem tiok24 : TIOk Tryd.prog 24 ti24 := ⟨Tryd.underlying24, by kernel_rfl, rfl, rfl⟩
theorem tiok28 : TIOk Tryd.prog 28 ti28 := ⟨Tryd.underlying28, by kernel_rfl, rfl, rfl⟩
theorem tiok29 : TIOk Tryd.prog 29 ti29 := ⟨Tryd.underlying29, by kernel_rfl, rfl, rfl⟩
theorem tiok30 : TIOk Tryd.prog 30 ti30 := ⟨Tryd.underlying30, by kernel_rfl, rfl, rfl⟩
theorem tiok31 : TIOk Tryd.prog 31 ti31 := ⟨⟨_, Tryd.underlying31, rfl⟩, by kernel_rfl, rfl, rfl⟩
theorem tiok32 : TIOk Tryd.prog 32 ti32 := ⟨⟨_, Tryd.underlying32, rfl⟩, by kernel_rfl, rfl, rfl⟩
theorem tiok33 : TIOk Tryd.prog 33 ti33 := ⟨⟨_, Tryd.underlying33, rfl⟩, by kernel_rfl, rfl, rfl⟩
theorem tiok34 : TIOk Tryd.prog 34 ti34 := ⟨⟨_, Tryd.underlying34, rfl⟩, by kernel_rfl, rfl, rfl⟩
theorem tiok41 : TIOk Tryd.prog 41 ti41 := ⟨Tryd.underlying41, by kernel_rfl, rfl, rfl⟩
theorem tiok42 : TIOk Tryd.prog 42 ti42 := ⟨Tryd.underlying42, by kernel_rfl, rfl, rfl⟩
theorem tiok47 : TIOk Tryd.prog 47 ti47 := ⟨Tryd.underlying47, by kernel_rfl, rfl, rfl⟩
theorem tiok48 : TIOk Tryd.prog 48 ti48 := ⟨⟨_, Tryd.underlying48, rfl⟩, by kernel_rfl, rfl, rfl⟩
theorem tiok49 : TIOk Tryd.prog 49 ti49 := ⟨⟨_, Tryd.underlying49, rfl⟩, by kernel_rfl, rfl, rfl⟩
theorem tiok56 : TIOk Tryd.prog 56 ti56 := ⟨⟨_, Tryd.underlying56, trivial⟩, by kernel_rfl, rfl, rfl⟩
theorem tiok57 : TIOk Tryd.prog 57 ti57 := ⟨⟨_, Tryd.underlying57, trivial⟩, by kernel_rfl, rfl, rfl⟩
theorem tiok58 : TIOk Tryd.prog 58 ti58 := ⟨Tryd.underlying58, by kernel_rfl, rfl, rfl⟩
theorem tiok59 : TIOk Tryd.prog 59 ti59 := ⟨Tryd.underlying59, by kernel_rfl, rfl, rfl⟩
theorem tiok63 : TIOk Tryd.prog 63 ti63 := ⟨⟨_, Tryd.underlying63, trivial⟩, by kernel_rfl, rfl, rfl⟩
theorem tiok68 : TIOk Tryd.prog 68 ti68 := ⟨⟨_, Tryd.underlying68, trivial⟩, by kernel_rfl, rfl, rfl⟩
theorem tiok69 : TIOk Tryd.prog 69 ti69 := ⟨Tryd.underlying69, by kernel_rfl, rfl, rfl⟩
theorem tiok71 : TIOk Tryd.prog 71 ti71 := ⟨⟨_, Tryd.underlying71, trivial⟩, by kernel_rfl, rfl, rfl⟩
theorem tiok75 : TIOk Tryd.prog 75 ti75 := ⟨⟨_, Tryd.underlying75, rfl⟩, by kernel_rfl, rfl, rfl⟩
theorem tiok76 : TIOk Tryd.prog 76 ti76 := ⟨⟨_, Tryd.underlying76, rfl⟩, by kernel_rfl, rfl, rfl⟩
theorem tiok80 : TIOk Tryd.prog 80 ti80 := ⟨⟨_, Tryd.underlying80, trivial⟩, by kernel_rfl, rfl, rfl⟩
theorem tiok88 : TIOk Tryd.prog 88 ti88 := ⟨⟨_, Tryd.underlying88, rfl⟩, by kernel_rfl, rfl, rfl⟩
theorem tiok89 : TIOk Tryd.prog 89 ti89 := ⟨⟨_, Tryd.underlying89, rfl⟩, by kernel_rfl, rfl, rfl⟩
theorem tabOK : Zf Tryd.prog T := by
  refine Zi9 ?_
  simp only [tl, List.forall_mem_cons]
  exact ⟨tiok3, tiok4, tiok5, tiok9, tiok21, tiok22, tiok23, tiok24, tiok28, tiok29, tiok30, tiok31, tiok32, tiok33, tiok34, tiok41, tiok42, tiok47, tiok48, tiok49, tiok56, tiok57, tiok58, tiok59, tiok63, tiok68, tiok69, tiok71, tiok75, tiok76, tiok80, tiok88, tiok89, fun _ h => by cases h⟩
def TYt : Nat → Option Ty := lkT [(3, (.int .i64)), (4, .bool), (5, .byte), (9, .str), (21, (.int .i32)), (22, (.slice (.pair .str (.pair (.slice (.pair .str .str)) (.pair (.int .i64) (.slice .str)))))), (23, (.slice (.int .i64))), (24, (.int .i64)), (28, (.slice (.pair .str (.pair .str (.pair (.slice .str) (.pair (.slice .str) (.pair (.slice .str) (.int .i64)))))))), (29, (.slice (.pair .str .str))), (30, (.slice .str)), (31, (.pair .str (.pair (.slice (.pair .str .str)) (.pair (.int .i64) (.slice .str))))), (32, (.pair .str (.pair (.slice (.pair .str .str)) (.pair (.int .i64) (.slice .str))))), (33, (.pair .str (.pair .str (.pair (.slice .str) (.pair (.slice .str) (.pair (.slice .str) (.int .i64))))))), (34, (.pair .str (.pair .str (.pair (.slice .str) (.pair (.slice .str) (.pair (.slice .str) (.int .i64))))))), (41, (.slice .byte)), (42, (.ptr (.pair (.slice (.pair .str (.pair .str (.pair (.slice .str) (.pair (.slice .str) (.pair (.slice .str) (.int .i64))))))) (.pair (.slice (.slice (.int .i64))) (.slice (.slice (.int .i64))))))), (47, (.slice (.slice (.int .i64)))), (48, (.pair (.slice (.pair .str (.pair .str (.pair (.slice .str) (.pair (.slice .str) (.pair (.slice .str) (.int .i64))))))) (.pair (.slice (.slice (.int .i64))) (.slice (.slice (.int .i64)))))), (49, (.pair (.slice (.pair .str (.pair .str (.pair (.slice .str) (.pair (.slice .str) (.pair (.slice .str) (.int .i64))))))) (.pair (.slice (.slice (.int .i64))) (.slice (.slice (.int .i64)))))), (58, (.int .u64)), (59, (.int .u64)), (69, (.slice .bool)), (75, (.pair .str .str)), (76, (.pair .str .str)), (88, (.pair .str .str)), (89, (.pair .str .str))]
theorem mixed : Tryd.prog.follows .mixedOrders = true := by kernel_rfl
def Z5 (f : Func) : Code := match f.body with | some c => c | none => .skip
end Go.Proofs.YtcphmeggalaplaaDoor
set_option linter.unusedVariables false
set_option maxRecDepth 100000
namespace Go.Proofs
open Go.Shelf
def Tryd.lays106_ren : Go.Shelf.Ren := ⟨fun | 106 => 25 | 213 => 32 | 265 => 48 | n => n, fun | 9 => 9 | 3 => 3 | n => n, fun | n => n⟩
theorem Tryd.lays106 : Go.Proofs.Lays.n106 Tryd.prog Tryd.lays106_ren := {
  mixed := by kernel_rfl
  f106 := Tryd.func25.trans (congrArg some (by kernel_rfl))
  f213 := Tryd.func32.trans (congrArg some (by kernel_rfl))
  f265 := Tryd.func48.trans (congrArg some (by kernel_rfl))
  t3 := Tryd.underlying3
  a3 := Tryd.isAgg3
  z3 := Tryd.sizeOf3
  v3 := Tryd.zeroValue3
  t9 := Tryd.underlying9
  a9 := Tryd.isAgg9
  z9 := Tryd.sizeOf9
  v9 := Tryd.zeroValue9 }
def Tryd.lays217_ren : Go.Shelf.Ren := ⟨fun | 217 => 90 | 266 => 92 | n => n, fun | 9 => 9 | 5 => 5 | 3 => 3 | n => n, fun | n => n⟩
theorem Tryd.lays217 : Go.Proofs.Lays.n217 Tryd.prog Tryd.lays217_ren := {
  mixed := by kernel_rfl
  f217 := Tryd.func90.trans (congrArg some (by kernel_rfl))
  f266 := Tryd.func92.trans (congrArg some (by kernel_rfl))
  t3 := Tryd.underlying3
  a3 := Tryd.isAgg3
  z3 := Tryd.sizeOf3
  v3 := Tryd.zeroValue3
  t5 := Tryd.underlying5
  a5 := Tryd.isAgg5
  z5 := Tryd.sizeOf5
  v5 := Tryd.zeroValue5
  t9 := Tryd.underlying9
  a9 := Tryd.isAgg9
  z9 := Tryd.sizeOf9
  v9 := Tryd.zeroValue9 }
def Tryd.lays219_ren : Go.Shelf.Ren := ⟨fun | 219 => 86 | 217 => 90 | 225 => 85 | 224 => 84 | 267 => 91 | 266 => 92 | 314 => 93 | n => n, fun | 9 => 9 | 3 => 3 | 4 => 4 | 5 => 5 | 46 => 59 | 146 => 120 | 51 => 119 | n => n, fun | 1 => 0 | n => n⟩
theorem Tryd.lays219 : Go.Proofs.Lays.n219 Tryd.prog Tryd.lays219_ren := {
  mixed := by kernel_rfl
  f217 := Tryd.func90.trans (congrArg some (by kernel_rfl))
  f219 := Tryd.func86.trans (congrArg some (by kernel_rfl))
  f224 := Tryd.func84.trans (congrArg some (by kernel_rfl))
  f225 := Tryd.func85.trans (congrArg some (by kernel_rfl))
  f266 := Tryd.func92.trans (congrArg some (by kernel_rfl))
  f267 := Tryd.func91.trans (congrArg some (by kernel_rfl))
  f314 := Tryd.func93.trans (congrArg some (by kernel_rfl))
  t3 := Tryd.underlying3
  a3 := Tryd.isAgg3
  z3 := Tryd.sizeOf3
  v3 := Tryd.zeroValue3
  t4 := Tryd.underlying4
  a4 := Tryd.isAgg4
  z4 := Tryd.sizeOf4
  v4 := Tryd.zeroValue4
  t5 := Tryd.underlying5
  a5 := Tryd.isAgg5
  z5 := Tryd.sizeOf5
  v5 := Tryd.zeroValue5
  t9 := Tryd.underlying9
  a9 := Tryd.isAgg9
  z9 := Tryd.sizeOf9
  v9 := Tryd.zeroValue9
  t46 := Tryd.underlying59
  a46 := Tryd.isAgg59
  z46 := Tryd.sizeOf59
  v46 := Tryd.zeroValue59
  t51 := Tryd.underlying119
  a51 := Tryd.isAgg119
  z51 := Tryd.sizeOf119
  v51 := Tryd.zeroValue119
  t146 := Tryd.underlying120
  a146 := Tryd.isAgg120
  z146 := Tryd.sizeOf120
  v146 := Tryd.zeroValue120
  g1 := by kernel_rfl }
def Tryd.lays138_ren : Go.Shelf.Ren := ⟨fun | 138 => 79 | 195 => 88 | 218 => 89 | 143 => 80 | 219 => 86 | 217 => 90 | 225 => 85 | 224 => 84 | 267 => 91 | 266 => 92 | 314 => 93 | n => n, fun | 9 => 9 | 3 => 3 | 4 => 4 | 5 => 5 | 0 => 0 | 46 => 59 | 146 => 120 | 51 => 119 | n => n, fun | 1 => 0 | n => n⟩
theorem Tryd.lays138 : Go.Proofs.Lays.n138 Tryd.prog Tryd.lays138_ren := {
  mixed := by kernel_rfl
  f138 := Tryd.func79.trans (congrArg some (by kernel_rfl))
  f143 := Tryd.func80.trans (congrArg some (by kernel_rfl))
  f195 := Tryd.func88.trans (congrArg some (by kernel_rfl))
  f217 := Tryd.func90.trans (congrArg some (by kernel_rfl))
  f218 := Tryd.func89.trans (congrArg some (by kernel_rfl))
  f219 := Tryd.func86.trans (congrArg some (by kernel_rfl))
  f224 := Tryd.func84.trans (congrArg some (by kernel_rfl))
  f225 := Tryd.func85.trans (congrArg some (by kernel_rfl))
  f266 := Tryd.func92.trans (congrArg some (by kernel_rfl))
  f267 := Tryd.func91.trans (congrArg some (by kernel_rfl))
  f314 := Tryd.func93.trans (congrArg some (by kernel_rfl))
  t0 := Tryd.underlying0
  a0 := Tryd.isAgg0
  z0 := Tryd.sizeOf0
  v0 := Tryd.zeroValue0
  t3 := Tryd.underlying3
  a3 := Tryd.isAgg3
  z3 := Tryd.sizeOf3
  v3 := Tryd.zeroValue3
  t4 := Tryd.underlying4
  a4 := Tryd.isAgg4
  z4 := Tryd.sizeOf4
  v4 := Tryd.zeroValue4
  t5 := Tryd.underlying5
  a5 := Tryd.isAgg5
  z5 := Tryd.sizeOf5
  v5 := Tryd.zeroValue5
  t9 := Tryd.underlying9
  a9 := Tryd.isAgg9
  z9 := Tryd.sizeOf9
  v9 := Tryd.zeroValue9
  t46 := Tryd.underlying59
  a46 := Tryd.isAgg59
  z46 := Tryd.sizeOf59
  v46 := Tryd.zeroValue59
  t51 := Tryd.underlying119
  a51 := Tryd.isAgg119
  z51 := Tryd.sizeOf119
  v51 := Tryd.zeroValue119
  t146 := Tryd.underlying120
  a146 := Tryd.isAgg120
  z146 := Tryd.sizeOf120
  v146 := Tryd.zeroValue120
  g1 := by kernel_rfl }
def Tryd.lays160_ren : Go.Shelf.Ren := ⟨fun | 160 => 31 | 232 => 42 | 231 => 41 | 227 => 43 | 234 => 45 | 233 => 44 | 236 => 47 | 235 => 46 | 228 => 60 | 271 => 63 | 151 => 62 | 197 => 61 | 120 => 75 | 152 => 74 | 260 => 73 | 137 => 81 | 119 => 83 | 224 => 84 | 225 => 85 | 217 => 90 | 266 => 92 | n => n, fun | 9 => 9 | 4 => 4 | 3 => 3 | 5 => 5 | 117 => 84 | 116 => 83 | 0 => 0 | 124 => 87 | 21 => 21 | 105 => 100 | 46 => 59 | 119 => 112 | 139 => 115 | 138 => 114 | n => n, fun | 3 => 1 | 4 => 2 | n => n⟩
theorem Tryd.lays160 : Go.Proofs.Lays.n160 Tryd.prog Tryd.lays160_ren := {
  mixed := by kernel_rfl
  f119 := Tryd.func83.trans (congrArg some (by kernel_rfl))
  f120 := Tryd.func75.trans (congrArg some (by kernel_rfl))
  f137 := Tryd.func81.trans (congrArg some (by kernel_rfl))
  f151 := Tryd.func62.trans (congrArg some (by kernel_rfl))
  f152 := Tryd.func74.trans (congrArg some (by kernel_rfl))
  f160 := Tryd.func31.trans (congrArg some (by kernel_rfl))
  f197 := Tryd.func61.trans (congrArg some (by kernel_rfl))
  f217 := Tryd.func90.trans (congrArg some (by kernel_rfl))
  f224 := Tryd.func84.trans (congrArg some (by kernel_rfl))
  f225 := Tryd.func85.trans (congrArg some (by kernel_rfl))
  f227 := Tryd.func43.trans (congrArg some (by kernel_rfl))
  f228 := Tryd.func60.trans (congrArg some (by kernel_rfl))
  f231 := Tryd.func41.trans (congrArg some (by kernel_rfl))
  f232 := Tryd.func42.trans (congrArg some (by kernel_rfl))
  f233 := Tryd.func44.trans (congrArg some (by kernel_rfl))
  f234 := Tryd.func45.trans (congrArg some (by kernel_rfl))
  f235 := Tryd.func46.trans (congrArg some (by kernel_rfl))
  f236 := Tryd.func47.trans (congrArg some (by kernel_rfl))
  f260 := Tryd.func73.trans (congrArg some (by kernel_rfl))
  f266 := Tryd.func92.trans (congrArg some (by kernel_rfl))
  f271 := Tryd.func63.trans (congrArg some (by kernel_rfl))
  t0 := Tryd.underlying0
  a0 := Tryd.isAgg0
  z0 := Tryd.sizeOf0
  v0 := Tryd.zeroValue0
  t3 := Tryd.underlying3
  a3 := Tryd.isAgg3
  z3 := Tryd.sizeOf3
  v3 := Tryd.zeroValue3
  t4 := Tryd.underlying4
  a4 := Tryd.isAgg4
  z4 := Tryd.sizeOf4
  v4 := Tryd.zeroValue4
  t5 := Tryd.underlying5
  a5 := Tryd.isAgg5
  z5 := Tryd.sizeOf5
  v5 := Tryd.zeroValue5
  t9 := Tryd.underlying9
  a9 := Tryd.isAgg9
  z9 := Tryd.sizeOf9
  v9 := Tryd.zeroValue9
  t21 := Tryd.underlying21
  a21 := Tryd.isAgg21
  z21 := Tryd.sizeOf21
  v21 := Tryd.zeroValue21
  t46 := Tryd.underlying59
  a46 := Tryd.isAgg59
  z46 := Tryd.sizeOf59
  v46 := Tryd.zeroValue59
  t105 := Tryd.underlying100
  a105 := Tryd.isAgg100
  z105 := Tryd.sizeOf100
  v105 := Tryd.zeroValue100
  t116 := Tryd.underlying83
  a116 := Tryd.isAgg83
  z116 := Tryd.sizeOf83
  t117 := Tryd.underlying84
  a117 := Tryd.isAgg84
  z117 := Tryd.sizeOf84
  v117 := Tryd.zeroValue84
  t119 := Tryd.underlying112
  a119 := Tryd.isAgg112
  z119 := Tryd.sizeOf112
  t124 := Tryd.underlying87
  a124 := Tryd.isAgg87
  z124 := Tryd.sizeOf87
  v124 := Tryd.zeroValue87
  t138 := Tryd.underlying114
  a138 := Tryd.isAgg114
  z138 := Tryd.sizeOf114
  v138 := Tryd.zeroValue114
  t139 := Tryd.underlying115
  a139 := Tryd.isAgg115
  z139 := Tryd.sizeOf115
  v139 := Tryd.zeroValue115
  g3 := by kernel_rfl
  g4 := by kernel_rfl }
def Tryd.lays112_ren : Go.Shelf.Ren := ⟨fun | 112 => 12 | n => n, fun | 28 => 23 | 3 => 3 | 4 => 4 | 0 => 0 | n => n, fun | n => n⟩
theorem Tryd.lays112 : Go.Proofs.Lays.n112 Tryd.prog Tryd.lays112_ren := {
 mixed := by kernel_rfl
 f112 := Tryd.func12.trans (congrArg some (by kernel_rfl))
 t0 := Tryd.underlying0
 a0 := Tryd.isAgg0
 z0 := Tryd.sizeOf0
 v0 := Tryd.zeroValue0
 t3 := Tryd.underlying3
 a3 := Tryd.isAgg3
 z3 := Tryd.sizeOf3
 v3 := Tryd.zeroValue3
 t4 := Tryd.underlying4
 a4 := Tryd.isAgg4
 z4 := Tryd.sizeOf4
 v4 := Tryd.zeroValue4
 t28 := Tryd.underlying23
 a28 := Tryd.isAgg23
 z28 := Tryd.sizeOf23
 v28 := Tryd.zeroValue23 }
end Go.Proofs
namespace Go.Proofs.YtcphmeggalaplaaDoor
open Go Go.RowKit Go.Shelf Go.Lib Go.Proofs.YtcphmeggalaplaaDoor.Eng
noncomputable def Q1y.f (a b : ByteArray) : Option Int := some (Lib.compareBytes a.data.toList b.data.toList)
noncomputable def Q1y.fn : TFn := ⟨[.str, .str], [.int .i64], fun x => Q1y.f x.1 x.2⟩
theorem Q1y.ok : FnOK Tryd.prog 25 Q1y.fn := by
  refine ⟨enters_of (c := Z5 Tryd.f25) Tryd.func25 (by kernel_rfl) (by kernel_rfl), ?_⟩
  rintro ⟨a, b⟩ r hr
  cases hr
  exact FPure.of_callsS (P := Tryd.prog) (f := 25) (args := [.string a, .string b]) (fun w => Any.strings_Compare Tryd.lays106 a b w)
noncomputable def Q1l.f (s : ByteArray) (c : UInt8) : Option Int := some (Lib.indexByte s.data.toList c)
noncomputable def Q1l.fn : TFn := ⟨[.str, .byte], [.int .i64], fun x => Q1l.f x.1 x.2⟩
theorem Q1l.ok : FnOK Tryd.prog 90 Q1l.fn := by
  refine ⟨enters_of (c := Z5 Tryd.f90) Tryd.func90 (by kernel_rfl) (by kernel_rfl), ?_⟩
  rintro ⟨s, c⟩ r hr
  cases hr
  refine FPure.of_callsS (P := Tryd.prog) (f := 90) (args := [.string s, .int .u8 (c.toNat : Int)]) (fun w => ?_)
  have h := Any.stringslite_IndexByte Tryd.lays217 s (c.toNat : Int) w
  have e : ((c.toNat : Int)).toNat.toUInt8 = c := by
    show UInt8.ofNat (c.toNat) = c
    exact UInt8.ofNat_toNat
  rw [e] at h
  exact h
noncomputable def Q19.f (s sep : ByteArray) : Option Int := ck (sep.data.toList.length = 1) (some (Lib.indexByte s.data.toList (sep.data.toList.headD 0)))
noncomputable def Q19.fn : TFn := ⟨[.str, .str], [.int .i64], fun x => Q19.f x.1 x.2⟩
theorem Q19.ok : FnOK Tryd.prog 86 Q19.fn := by
  refine ⟨enters_of (c := Z5 Tryd.f86) Tryd.func86 (by kernel_rfl) (by kernel_rfl), ?_⟩
  rintro ⟨s, sep⟩ r hr
  obtain ⟨h1, h2⟩ := Z1f (show ck _ _ = some r from hr)
  cases h2
  obtain ⟨c, hc⟩ := List.length_eq_one_iff.1 h1
  have hs : sep = ⟨#[c]⟩ := by
    apply ByteArray.ext
    apply Array.toList_inj.1
    exact hc
  subst hs
  exact FPure.of_callsS (P := Tryd.prog) (f := 86) (args := [.string s, .string ⟨#[c]⟩]) (fun w => Any.stringslite_Index_one Tryd.lays219 s c w)
noncomputable def Q24.f (s sep : ByteArray) : Option Int := ck (sep.data.toList.length = 1) (some ((Lib.countByte s.data.toList (sep.data.toList.headD 0) : Nat)))
noncomputable def Q24.fn : TFn := ⟨[.str, .str], [.int .i64], fun x => Q24.f x.1 x.2⟩
theorem Q24.ok : FnOK Tryd.prog 79 Q24.fn := by
  refine ⟨enters_of (c := Z5 Tryd.f79) Tryd.func79 (by kernel_rfl) (by kernel_rfl), ?_⟩
  rintro ⟨s, sep⟩ r hr
  obtain ⟨h1, h2⟩ := Z1f (show ck _ _ = some r from hr)
  cases h2
  obtain ⟨c, hc⟩ := List.length_eq_one_iff.1 h1
  have hs : sep = ⟨#[c]⟩ := by
    apply ByteArray.ext
    apply Array.toList_inj.1
    exact hc
  subst hs
  exact FPure.of_callsS (P := Tryd.prog) (f := 79) (args := [.string s, .string ⟨#[c]⟩]) (fun w => Any.strings_Count_one Tryd.lays138 s c w)
noncomputable def Q28.f (s cs : ByteArray) : Option ByteArray := ck (s.size ≤ 9223372036854775807 ∧ cs.size < 4294967281 ∧ cs.data.toList.all (fun b => decide (b.toNat < 128)) = true) (some ⟨(Lib.trimS s.data.toList cs.data.toList).toArray⟩)
noncomputable def Q28.fn : TFn := ⟨[.str, .str], [.str], fun x => Q28.f x.1 x.2⟩
theorem Q28.ok : FnOK Tryd.prog 31 Q28.fn := by
  refine ⟨enters_of (c := Z5 Tryd.f31) Tryd.func31 (by kernel_rfl) (by kernel_rfl), ?_⟩
  rintro ⟨s, cs⟩ r hr
  obtain ⟨⟨h1, h2, h3⟩, h4⟩ := Z1f (show ck _ _ = some r from hr)
  cases h4
  have h := fun w => Any.strings_Trim_laid Tryd.lays160 (by kernel_rfl) s cs w h1 h2 (ascii_of_all h3)
  exact FPure.of_calls (P := Tryd.prog) (f := 31) (args := [.string s, .string cs]) h
def vI (x : Int) : List Value := [.int .i64 x]
theorem flatI : ∀ l : List Int, (l.map vI).flatten = l.map (Value.int .i64)
 | [] => rfl
 | x :: r => by simp only [List.map_cons, List.flatten_cons, flatI r]; rfl
theorem revPair (xs : List Int) (hlen : xs.length ≤ 1000000000) : SortPair Tryd.prog 12 1000000 1 (xs.map vI) (xs.reverse.map vI) := by
 refine ⟨by simp, fun c hc => ?_, fun c hc v hv => ?_, fun h0 p cap w => ?_, fun h0 blk off cap w hH hblk => ?_⟩
 ·obtain ⟨x, _, rfl⟩ := List.mem_map.1 hc
  rfl
 ·obtain ⟨x, _, rfl⟩ := List.mem_map.1 hc
  have hv' : v ∈ [Value.int .i64 x] := hv
  rw [List.mem_singleton.1 hv']; rfl
 ·exact Any.slices_Reverse_int_empty Tryd.lays112 p cap w
 ·rw [flatI] at hH
  have hH' : Sort.Holds (Value.int .i64) w blk off xs.toArray := by
   intro j hj
   have hj' : j < xs.length := by simpa using hj
   have h1 := hH j (by simpa using hj')
   have e2 : (xs.map (Value.int .i64)).toArray[j]! = .int .i64 (xs.toArray[j]!) := by
    rw [getElem!_pos _ j (by simpa using hj'), getElem!_pos _ j (by simpa using hj')]
    simp
   rw [e2] at h1
   exact h1
  have hcon := Any.slices_Reverse_int Tryd.lays112 blk off cap xs w hH' (by omega)
  rw [List.length_map]
  refine Calls.mono hcon ?_
  rintro e w' ⟨he, n, hw⟩
  refine ⟨he, n, #[], ?_⟩
  rw [hw, Sort.grow_empty, flatI]
  unfold Sort.putRow Sort.putCells
  congr 1
  funext c
  apply Array.ext
  ·simp
  ·intro t h1 h2
   simp only [Array.getElem_mapIdx, List.size_toArray, List.length_map, List.length_reverse]
   by_cases hc : off ≤ t ∧ t < off + xs.length
   ·rw [if_pos hc, if_pos hc, getElem!_pos _ (t - off) (by simp; omega), getElem!_pos _ (t - off) (by simp; omega)]
    simp
   ·rw [if_neg hc, if_neg hc]
noncomputable def Z12 (xs : List Int) : Option (List Int) := ck (xs.length ≤ 1000000000) (some xs.reverse)
noncomputable def srt_12_1000000 : SFn := ⟨.int .i64, Z12, none⟩
theorem srt_12_1000000_ok : SoOK Tryd.prog 12 1000000 srt_12_1000000 := by
 refine ⟨enters_of (c := Z5 Tryd.f12) Tryd.func12 (by kernel_rfl) (by kernel_rfl), rfl, fun xs ys h => ?_⟩
 obtain ⟨hlen, h⟩ := Z1f (show ck _ _ = some ys from h)
 cases h
 exact revPair xs hlen
noncomputable def bwC : Cx := ⟨T, TYt, lkF [], lkO [], lkD [], lkP [], [], [], false, [], [], lkS [], 4, lkW [], 0⟩
theorem bw_hC : CxOK Tryd.prog bwC := ⟨tabOK, FsOK.nil, OsOK.nil, mixed, (fun t h => by cases h), (fun t e h => by cases h), SsOK.nil, WsOK.nil⟩
noncomputable def Q1r.f (l : List Int) : Option (List Int) := some l
noncomputable def Q1r.fn : TFn := ⟨[.slice (Ty.int .i64)], [.clo 28 (.ref (.slice (Ty.int .i64)))], fun x => Q1r.f x⟩
noncomputable def bw_root : Code := Z5 Tryd.f17
theorem Q1r.ok : FnOK Tryd.prog 17 Q1r.fn :=
  FnOK.of (L := lkL []) (root := bw_root) bw_hC (enters_of (c := bw_root) Tryd.func17 (by kernel_rfl) (by kernel_rfl)) Tryd.func17 (by kernel_rfl) (rs := [.tmp 2]) (by kernel_rfl) (by kernel_rfl) LsOK.nil (fun x => by kernel_rfl)
def Zf3 (root : Code) (p : List Nat) : List Oper := match atC root p with
  | some (.region _ ops _) => ops.toList
  | _ => []
noncomputable def bi_root : Code := Z5 Tryd.f28
noncomputable def bi_oc : Oper := (Zf3 bi_root [0, 0, 0, 1, 0, 0, 1]).getD 6 default
noncomputable def bi_on : Oper := (Zf3 bi_root [0, 0, 0, 1, 0, 0, 1]).getD 7 default
def elB (cs : List AV) : AV := Z1b ti3 cs
theorem bi_shape : bi_root = .seq (.region 0 (Zf3 bi_root [0]).toArray false) (.block 0 (.loop (.seq (.seq (.region 1 (Zf3 bi_root [0, 0, 0, 0, 1]).toArray false) (.cond (.tmp 8) .skip (.exit 0)))
    (.seq (.block 1 (.seq (.region 3 ((Zf3 bi_root [0, 0, 0, 1, 0, 0, 1]).take 6 ++ [bi_oc, bi_on]).toArray false) (.cond (.tmp 18) .ret .skip))) (.region 2 (Zf3 bi_root [1, 1, 0, 0, 1]).toArray false))))) := by kernel_rfl
theorem Zgt {env : List (Nat × AV)} : ∀ (small : List (Nat × AV)), (∀ p ∈ small, envGet small p.1 = envGet env p.1) → St.le ⟨env, []⟩ ⟨small, []⟩ := by
  intro small h
  refine ⟨rfl, fun i => ?_⟩
  by_cases hi : ∃ p ∈ small, p.1 = i
  · obtain ⟨p, hp, rfl⟩ := hi
    show AV.le (envGet env p.1) (envGet small p.1)
    rw [h p hp]; exact .refl _
  · have : ∀ l : List (Nat × AV), (¬ ∃ p ∈ l, p.1 = i) → envGet l i = .any := by
      intro l
      induction l with
      | nil => exact fun _ => rfl
      | cons q r ih =>
        intro h
        simp only [envGet]
        rw [if_neg (fun e => h ⟨q, List.mem_cons_self .., e.symm⟩)]
        exact ih (fun ⟨p, hp, e⟩ => h ⟨p, List.mem_cons_of_mem _ hp, e⟩)
    show AV.le (envGet env i) (envGet small i)
    rw [this small hi]; exact .any _
theorem back28 : BackIter Tryd.prog 28 1 elB := by
  refine BackIter.of (T := T) (n := 19) (root := bi_root) tabOK (enters_of (c := bi_root) Tryd.func28 (by kernel_rfl) (by kernel_rfl)) Tryd.func28 (by kernel_rfl) (by kernel_rfl) (by kernel_rfl) (by omega) (i0 := 0) (i1 := 1) (i2 := 2) (i3 := 3) (b0 := 0) (b1 := 1) (by omega) bi_shape (ts := #[3, 3]) (by kernel_rfl) (by kernel_rfl) (by kernel_rfl) (by kernel_rfl) (by kernel_rfl) (by kernel_rfl) (by kernel_rfl) (by kernel_rfl) ?_ ?_ ?_ ?_ ?_
  · intro yv es hb
    refine ⟨_, ⟨[(3, .v (.int .i64 (IntKind.i64.wrap ((es.length : Int) - 1)))), (6, .v (.int .i64 (IntKind.i64.wrap ((es.length : Int) - 1)))), (5, .v (.int .i64 (es.length : Int))), (4, .ro 1 es), (1, .rp [.ro 1 es]), (0, .v yv)], []⟩, rfl, by simp [ti23, TK.agg], ?_⟩
    rw [IntWalk.i64_in _ (by omega)]
    exact Zgt _ (by simp [envGet])
  · intro yv es k
    refine ⟨_, ⟨[(8, .v (.bool (decide (0 ≤ k)))), (7, .v (.int .i64 k)), (3, .v (.int .i64 k)), (1, .rp [.ro 1 es]), (0, .v yv)], []⟩, rfl, by simp, ?_⟩
    exact Zgt _ (by simp [envGet])
  · intro yv es k cs hk hc
    refine ⟨_, ⟨[(16, Z1b ti3 (getRow es ((k : Int).toNat))), (15, .rp (getRow es ((k : Int).toNat))), (14, .v (.int .i64 (k : Int))), (13, .ro 1 es), (12, .v (.int .i64 (k : Int))), (11, .v yv), (3, .v (.int .i64 (k : Int))), (1, .rp [.ro 1 es]), (0, .v yv)], []⟩, rfl, ?_, ?_⟩
    · have h1 : getRow es k = cs := by simp [getRow, hk]
      have hkl := (List.getElem?_eq_some_iff.1 hk).1
      simp [ti23, ti3, TK.agg, h1, hc]
      omega
    · have h1 : getRow es k = cs := by simp [getRow, hk]
      rw [Int.toNat_natCast, h1]
      exact Zgt _ (by simp [envGet, elB])
  · intro yv es k b
    refine ⟨_, ⟨[(18, .v (.bool !b)), (17, .v (.bool b)), (3, .v (.int .i64 k)), (1, .rp [.ro 1 es]), (0, .v yv)], []⟩, rfl, by simp, ?_⟩
    exact Zgt _ (by simp [envGet])
  · intro yv es k hb hk
    refine ⟨_, ⟨[(3, .v (.int .i64 (IntKind.i64.wrap ((k : Int) - 1)))), (10, .v (.int .i64 (IntKind.i64.wrap ((k : Int) - 1)))), (9, .v (.int .i64 (k : Int))), (3, .v (.int .i64 (k : Int))), (1, .rp [.ro 1 es]), (0, .v yv)], []⟩, rfl, by simp, ?_⟩
    rw [IntWalk.i64_in _ (by omega)]
    exact Zgt _ (by simp [envGet])
theorem el28_ok (x : Int) : elB ((Ty.int .i64).cells x) = (Ty.int .i64).av x := by
  rfl
end Go.Proofs.YtcphmeggalaplaaDoor
