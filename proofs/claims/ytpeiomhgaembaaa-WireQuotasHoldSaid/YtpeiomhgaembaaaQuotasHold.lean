/-
  The law WireQuotasHold hands back true for every argument, and leaves its arguments as they were. No condition.
-/
import Derived.Test.YtpeiomhgaembaaaQuotasB
import Derived.Test.YtpeiomhgaembaaaEngTwo
import Derived.Test.YtpeiomhgaembaaaRows
set_option linter.unusedVariables false
set_option linter.unusedSimpArgs false
set_option maxRecDepth 10000
set_option maxHeartbeats 4000000
namespace Go.Proofs.Ytpeiomhgaembaaa
open Go Go.RowKit Go.Proofs.Ytpeiomhgaembaaa.Eng

theorem starts_bad {r b : Int} {l : List (Int × Int)} (h : (starts r b l).2 ≠ 0) : (starts r b l).1 = [] := by
  unfold starts at h ⊢
  split
  · rfl
  · split
    · rfl
    · split
      · rfl
      · dsimp only at h ⊢
        split
        · rfl
        · rename_i h1 h2 h3 h4
          simp [h1, h2, h3, h4] at h
theorem law_QuotasHold (r b : Int) (l : List (Int × Int)) (p q : Int) : FPure Try.prog 3 [.agg [.v (.int .i64 r), .v (.int .i64 b)], .ro 2 (asks l), .v (.int .i64 p), .v (.int .i64 q)] (.v (.bool true)) := by
  refine FPost.of (n := 95) (rs := [.tmp 8]) tabOK B4ok Try.func3 rfl rfl rfl (fun X hn hm => ?_)
  have hal : (asks l).length = l.length := by simp [asks]
  simp only [ex_skip, ex_region, ex_drawn, ex_seq, ex_cond, ex_block, ex_exit, ex_ret, ex_loop, exOps_nil, exOps_cons, exOp_at, exOpB, then_normal, then_exit, then_ret, block_normal, block_exit, block_ret, exDraw_nil, exDraw_cons, exVal, St.ev, envGet, envSub, St.put, enumFrom, evBin, evInt, evStr, evShift, arith, nthDst, dOK, Qret, Ret, Qpure, Done, AV.full, AV.one, cellsOf, cellsAs, TK.agg, objCells, bnds, List.getElem?_cons_zero, List.getElem?_cons_succ, List.getElem?_nil, List.drop_zero, List.drop_succ_cons, List.drop_nil, List.take_zero, List.take_succ_cons, List.take_nil, Option.getD_some, Option.map_some, Option.map_none, List.map_cons, List.map_nil, List.all_cons, List.all_nil, putA, freezeAll, St.freeze, frzAt, AV.idsL, AV.ids, AV.subL, List.nil_append, List.cons_append, List.singleton_append, exStill, nthOp, dropL, rowOK_nil, rowOK_cons, List.range_succ, List.range_zero, AV.flat, Value.oneCell', exAppend, elemsOf, St.appended, killAt, Tells_at, St.trim, trimAt, AObj.sub, leEnv, AV.le_self, AV.le_any, List.set_cons_zero, List.set_cons_succ, Value.cells, Int.natCast_zero, Int.natCast_add, Int.natCast_one, Int.toNat_natCast, AV.le_v, AV.le_nil, List.length_map, Value.int.injEq, Value.bool.injEq, addB, noBook, backAt, exists_eq_left, ne_eq, not_false_eq_true, not_true_eq_false, Nat.reduceLeDiff, Nat.le_refl, resAll, resOne, retAV, AV.sub, renAt, nilness, Nat.reduceEqDiff, Nat.reduceLT, Nat.reduceBEq, if_true, if_false, reduceIte, Nat.reduceAdd, Nat.reduceSub, Nat.reduceMul, List.length_cons, List.length_nil, true_and, and_true, List.append_nil, forall_const, imp_self, Bool.not_true, Bool.not_false, Bool.and_self, Bool.false_and, Bool.true_and, Bool.and_false, Bool.and_true, Bool.false_eq_true, reduceCtorEq, false_implies, implies_true, Option.some.injEq, kVal, kMem, kPick, kNil, eOwed, eVal, kGuard, kCond, eStill, useVal_some, useVal_none, useMem_some, useMem_none, useBool_v, useNil_some, useNil_none, exMem, exCall, exNil, eqOp, nilOwn, placesOf, buildA, borrowAt, AV.plain, AV.plainL, T1, T2, T3, T4, T5, T9, T12, T17, T20, T21, T22, T23, T24, T25, T26, T28, T29, T30, T31, T33, T34, T35, T36, T37, T38, T39, T40, T42, T43, T44, T45, T46, T47, T48, T49, T51, T52, T53, T54, T56, T57, T58, T59, T60, T61, T62, T63, T64, T65, T66, T67, T68, T69, T70, T71, T72, T73, T74, T75, T76, T77, T78, T79, T81, T82, T83, T85, T86, T87, T88, T89, T90, T91, T92, T93, T94, T95, T96, T98, T99, T105, T108, T109, B4_9, B4_10, B4_11, B3_9, hal]
  refine ⟨fun h h2 => ?_, fun h => ⟨fun h2 => ?_, fun h2 => ?_⟩⟩
  · rw [starts_bad (by simpa using h)] at h2
    simp [ints] at h2
  · have hz : (starts r b l).2 = 0 := by simpa using h
    obtain ⟨_, _, _, _, hxs⟩ := starts_ok hz
    simp [ints, hxs, startsGo_len] at h2
  have hz : (starts r b l).2 = 0 := by simpa using h
  obtain ⟨hq, hlen, hF, hat, hxs⟩ := starts_ok hz
  have hall := asks_in hF
  have heach := startsGo_each (b := b) hq.1.1 l 0 b ⟨by omega, by omega⟩ hall
  have hxl : (starts r b l).1.length = l.length := by rw [hxs, startsGo_len]
  have hsent : sent r b l p q = if ¬ ((0 ≤ p ∧ p ≤ 1000000001) ∧ 0 ≤ q ∧ q ≤ 1000000001) then (0, 1) else (sentGo p q (starts r b l).1 l, 0) := by simp only [sent, hz]; rw [if_neg (by simp)]
  have hbound : p < q → 0 ≤ p → sentGo p q (starts r b l).1 l ≤ b + (q - p) * r := fun h1 h2 => by
    rw [hxs]; exact sent_before hq.1.1 (by omega) h1 l 0 b ⟨by omega, by omega⟩ hall h2
  rw [← hxs] at heach
  generalize (starts r b l).1 = xs at *
  have hil : (ints xs).length = xs.length := by simp [ints]
  refine LOOP.ghost (α := Nat) (fun k => ⟨[(1, .ro 2 (asks l)), (2, .v (.int .i64 p)), (3, .v (.int .i64 q)), (4, .ptr 0 0 0 0), (9, .ro 1 (ints xs)), (33, .ro 1 (ints xs)), (34, .v (.int .i64 (xs.length : Int))), (35, .v (.int .i64 (k : Int)))], [.box 23 [.v (.int .i64 r), .v (.int .i64 b)]]⟩)
    (fun k => k ≤ xs.length) (fun k => xs.length - k) 0 tabOK B4ok hn hm (Nat.zero_le _) ?_ ?_
  · simp only [ex_skip, ex_region, ex_drawn, ex_seq, ex_cond, ex_block, ex_exit, ex_ret, ex_loop, exOps_nil, exOps_cons, exOp_at, exOpB, then_normal, then_exit, then_ret, block_normal, block_exit, block_ret, exDraw_nil, exDraw_cons, exVal, St.ev, envGet, envSub, St.put, enumFrom, evBin, evInt, evStr, evShift, arith, nthDst, dOK, Qret, Ret, Qpure, Done, AV.full, AV.one, cellsOf, cellsAs, TK.agg, objCells, bnds, List.getElem?_cons_zero, List.getElem?_cons_succ, List.getElem?_nil, List.drop_zero, List.drop_succ_cons, List.drop_nil, List.take_zero, List.take_succ_cons, List.take_nil, Option.getD_some, Option.map_some, Option.map_none, List.map_cons, List.map_nil, List.all_cons, List.all_nil, putA, freezeAll, St.freeze, frzAt, AV.idsL, AV.ids, AV.subL, List.nil_append, List.cons_append, List.singleton_append, exStill, nthOp, dropL, rowOK_nil, rowOK_cons, List.range_succ, List.range_zero, AV.flat, Value.oneCell', exAppend, elemsOf, St.appended, killAt, Tells_at, St.trim, trimAt, AObj.sub, leEnv, AV.le_self, AV.le_any, List.set_cons_zero, List.set_cons_succ, Value.cells, Int.natCast_zero, Int.natCast_add, Int.natCast_one, Int.toNat_natCast, AV.le_v, AV.le_nil, List.length_map, Value.int.injEq, Value.bool.injEq, addB, noBook, backAt, exists_eq_left, ne_eq, not_false_eq_true, not_true_eq_false, Nat.reduceLeDiff, Nat.le_refl, resAll, resOne, retAV, AV.sub, renAt, nilness, Nat.reduceEqDiff, Nat.reduceLT, Nat.reduceBEq, if_true, if_false, reduceIte, Nat.reduceAdd, Nat.reduceSub, Nat.reduceMul, List.length_cons, List.length_nil, true_and, and_true, List.append_nil, forall_const, imp_self, Bool.not_true, Bool.not_false, Bool.and_self, Bool.false_and, Bool.true_and, Bool.and_false, Bool.and_true, Bool.false_eq_true, reduceCtorEq, false_implies, implies_true, Option.some.injEq, kVal, kMem, kPick, kNil, eOwed, eVal, kGuard, kCond, eStill, useVal_some, useVal_none, useMem_some, useMem_none, useBool_v, useNil_some, useNil_none, exMem, exCall, exNil, eqOp, nilOwn, placesOf, buildA, borrowAt, AV.plain, AV.plainL, hil]
  · rintro k hk
    rcases Nat.lt_or_ge k xs.length with hlt | hge
    · obtain ⟨x, hx⟩ : ∃ x, xs[k]? = some x := ⟨_, List.getElem?_eq_getElem hlt⟩
      obtain ⟨y, hy⟩ : ∃ y, l[k]? = some y := ⟨_, List.getElem?_eq_getElem (by omega)⟩
      obtain ⟨he1, he2⟩ := heach k x y hx hy
      have hd : decide ((k : Int) < (xs.length : Int)) = true := by simp; omega
      have hr : getRow (ints xs) k = [.v (.int .i64 x)] := getRow_some hx
      have hr2 : getRow (asks l) k = [.v (.int .i64 y.1), .v (.int .i64 y.2)] := getRow_some hy
      have hd2 : decide (x < y.1) = false := by simp; omega
      simp only [ex_skip, ex_region, ex_drawn, ex_seq, ex_cond, ex_block, ex_exit, ex_ret, ex_loop, exOps_nil, exOps_cons, exOp_at, exOpB, then_normal, then_exit, then_ret, block_normal, block_exit, block_ret, exDraw_nil, exDraw_cons, exVal, St.ev, envGet, envSub, St.put, enumFrom, evBin, evInt, evStr, evShift, arith, nthDst, dOK, Qret, Ret, Qpure, Done, AV.full, AV.one, cellsOf, cellsAs, TK.agg, objCells, bnds, List.getElem?_cons_zero, List.getElem?_cons_succ, List.getElem?_nil, List.drop_zero, List.drop_succ_cons, List.drop_nil, List.take_zero, List.take_succ_cons, List.take_nil, Option.getD_some, Option.map_some, Option.map_none, List.map_cons, List.map_nil, List.all_cons, List.all_nil, putA, freezeAll, St.freeze, frzAt, AV.idsL, AV.ids, AV.subL, List.nil_append, List.cons_append, List.singleton_append, exStill, nthOp, dropL, rowOK_nil, rowOK_cons, List.range_succ, List.range_zero, AV.flat, Value.oneCell', exAppend, elemsOf, St.appended, killAt, Tells_at, St.trim, trimAt, AObj.sub, leEnv, AV.le_self, AV.le_any, List.set_cons_zero, List.set_cons_succ, Value.cells, Int.natCast_zero, Int.natCast_add, Int.natCast_one, Int.toNat_natCast, AV.le_v, AV.le_nil, List.length_map, Value.int.injEq, Value.bool.injEq, addB, noBook, backAt, exists_eq_left, ne_eq, not_false_eq_true, not_true_eq_false, Nat.reduceLeDiff, Nat.le_refl, resAll, resOne, retAV, AV.sub, renAt, nilness, Nat.reduceEqDiff, Nat.reduceLT, Nat.reduceBEq, if_true, if_false, reduceIte, Nat.reduceAdd, Nat.reduceSub, Nat.reduceMul, List.length_cons, List.length_nil, true_and, and_true, List.append_nil, forall_const, imp_self, Bool.not_true, Bool.not_false, Bool.and_self, Bool.false_and, Bool.true_and, Bool.and_false, Bool.and_true, Bool.false_eq_true, reduceCtorEq, false_implies, implies_true, Option.some.injEq, kVal, kMem, kPick, kNil, eOwed, eVal, kGuard, kCond, eStill, useVal_some, useVal_none, useMem_some, useMem_none, useBool_v, useNil_some, useNil_none, exMem, exCall, exNil, eqOp, nilOwn, placesOf, buildA, borrowAt, AV.plain, AV.plainL, T1, T2, T3, T4, T5, T9, T12, T17, T20, T21, T22, T23, T24, T25, T26, T28, T29, T30, T31, T33, T34, T35, T36, T37, T38, T39, T40, T42, T43, T44, T45, T46, T47, T48, T49, T51, T52, T53, T54, T56, T57, T58, T59, T60, T61, T62, T63, T64, T65, T66, T67, T68, T69, T70, T71, T72, T73, T74, T75, T76, T77, T78, T79, T81, T82, T83, T85, T86, T87, T88, T89, T90, T91, T92, T93, T94, T95, T96, T98, T99, T105, T108, T109, hd, hd2, hr, hr2, hal, hil]
      refine ⟨⟨by omega, by omega⟩, ⟨by omega, by omega⟩, fun h5 => ?_, fun h5 => ?_⟩
      · have hk0 : 0 < k := by simpa using h5
        obtain ⟨z, hy2⟩ : ∃ z, xs[k - 1]? = some z := ⟨_, List.getElem?_eq_getElem (by omega)⟩
        have hry : getRow (ints xs) ((k : Int) - 1).toNat = [.v (.int .i64 z)] := by
          rw [show ((k : Int) - 1).toNat = k - 1 by omega]; exact getRow_some hy2
        have hd3 : decide (x < z) = false := by have := he2 z hk0 hy2; simp; omega
        simp only [ex_skip, ex_region, ex_drawn, ex_seq, ex_cond, ex_block, ex_exit, ex_ret, ex_loop, exOps_nil, exOps_cons, exOp_at, exOpB, then_normal, then_exit, then_ret, block_normal, block_exit, block_ret, exDraw_nil, exDraw_cons, exVal, St.ev, envGet, envSub, St.put, enumFrom, evBin, evInt, evStr, evShift, arith, nthDst, dOK, Qret, Ret, Qpure, Done, AV.full, AV.one, cellsOf, cellsAs, TK.agg, objCells, bnds, List.getElem?_cons_zero, List.getElem?_cons_succ, List.getElem?_nil, List.drop_zero, List.drop_succ_cons, List.drop_nil, List.take_zero, List.take_succ_cons, List.take_nil, Option.getD_some, Option.map_some, Option.map_none, List.map_cons, List.map_nil, List.all_cons, List.all_nil, putA, freezeAll, St.freeze, frzAt, AV.idsL, AV.ids, AV.subL, List.nil_append, List.cons_append, List.singleton_append, exStill, nthOp, dropL, rowOK_nil, rowOK_cons, List.range_succ, List.range_zero, AV.flat, Value.oneCell', exAppend, elemsOf, St.appended, killAt, Tells_at, St.trim, trimAt, AObj.sub, leEnv, AV.le_self, AV.le_any, List.set_cons_zero, List.set_cons_succ, Value.cells, Int.natCast_zero, Int.natCast_add, Int.natCast_one, Int.toNat_natCast, AV.le_v, AV.le_nil, List.length_map, Value.int.injEq, Value.bool.injEq, addB, noBook, backAt, exists_eq_left, ne_eq, not_false_eq_true, not_true_eq_false, Nat.reduceLeDiff, Nat.le_refl, resAll, resOne, retAV, AV.sub, renAt, nilness, Nat.reduceEqDiff, Nat.reduceLT, Nat.reduceBEq, if_true, if_false, reduceIte, Nat.reduceAdd, Nat.reduceSub, Nat.reduceMul, List.length_cons, List.length_nil, true_and, and_true, List.append_nil, forall_const, imp_self, Bool.not_true, Bool.not_false, Bool.and_self, Bool.false_and, Bool.true_and, Bool.and_false, Bool.and_true, Bool.false_eq_true, reduceCtorEq, false_implies, implies_true, Option.some.injEq, kVal, kMem, kPick, kNil, eOwed, eVal, kGuard, kCond, eStill, useVal_some, useVal_none, useMem_some, useMem_none, useBool_v, useNil_some, useNil_none, exMem, exCall, exNil, eqOp, nilOwn, placesOf, buildA, borrowAt, AV.plain, AV.plainL, T1, T2, T3, T4, T5, T9, T12, T17, T20, T21, T22, T23, T24, T25, T26, T28, T29, T30, T31, T33, T34, T35, T36, T37, T38, T39, T40, T42, T43, T44, T45, T46, T47, T48, T49, T51, T52, T53, T54, T56, T57, T58, T59, T60, T61, T62, T63, T64, T65, T66, T67, T68, T69, T70, T71, T72, T73, T74, T75, T76, T77, T78, T79, T81, T82, T83, T85, T86, T87, T88, T89, T90, T91, T92, T93, T94, T95, T96, T98, T99, T105, T108, T109, hry, hd3]
        exact ⟨⟨by omega, by omega⟩, ⟨by omega, by omega⟩, ⟨by omega, by omega⟩, k + 1, by simp, by omega, by omega⟩
      · exact ⟨⟨by omega, by omega⟩, k + 1, by simp, by omega, by omega⟩
    · obtain rfl : k = xs.length := by omega
      have hd : decide ((xs.length : Int) < (xs.length : Int)) = false := by simp
      simp only [ex_skip, ex_region, ex_drawn, ex_seq, ex_cond, ex_block, ex_exit, ex_ret, ex_loop, exOps_nil, exOps_cons, exOp_at, exOpB, then_normal, then_exit, then_ret, block_normal, block_exit, block_ret, exDraw_nil, exDraw_cons, exVal, St.ev, envGet, envSub, St.put, enumFrom, evBin, evInt, evStr, evShift, arith, nthDst, dOK, Qret, Ret, Qpure, Done, AV.full, AV.one, cellsOf, cellsAs, TK.agg, objCells, bnds, List.getElem?_cons_zero, List.getElem?_cons_succ, List.getElem?_nil, List.drop_zero, List.drop_succ_cons, List.drop_nil, List.take_zero, List.take_succ_cons, List.take_nil, Option.getD_some, Option.map_some, Option.map_none, List.map_cons, List.map_nil, List.all_cons, List.all_nil, putA, freezeAll, St.freeze, frzAt, AV.idsL, AV.ids, AV.subL, List.nil_append, List.cons_append, List.singleton_append, exStill, nthOp, dropL, rowOK_nil, rowOK_cons, List.range_succ, List.range_zero, AV.flat, Value.oneCell', exAppend, elemsOf, St.appended, killAt, Tells_at, St.trim, trimAt, AObj.sub, leEnv, AV.le_self, AV.le_any, List.set_cons_zero, List.set_cons_succ, Value.cells, Int.natCast_zero, Int.natCast_add, Int.natCast_one, Int.toNat_natCast, AV.le_v, AV.le_nil, List.length_map, Value.int.injEq, Value.bool.injEq, addB, noBook, backAt, exists_eq_left, ne_eq, not_false_eq_true, not_true_eq_false, Nat.reduceLeDiff, Nat.le_refl, resAll, resOne, retAV, AV.sub, renAt, nilness, Nat.reduceEqDiff, Nat.reduceLT, Nat.reduceBEq, if_true, if_false, reduceIte, Nat.reduceAdd, Nat.reduceSub, Nat.reduceMul, List.length_cons, List.length_nil, true_and, and_true, List.append_nil, forall_const, imp_self, Bool.not_true, Bool.not_false, Bool.and_self, Bool.false_and, Bool.true_and, Bool.and_false, Bool.and_true, Bool.false_eq_true, reduceCtorEq, false_implies, implies_true, Option.some.injEq, kVal, kMem, kPick, kNil, eOwed, eVal, kGuard, kCond, eStill, useVal_some, useVal_none, useMem_some, useMem_none, useBool_v, useNil_some, useNil_none, exMem, exCall, exNil, eqOp, nilOwn, placesOf, buildA, borrowAt, AV.plain, AV.plainL, T1, T2, T3, T4, T5, T9, T12, T17, T20, T21, T22, T23, T24, T25, T26, T28, T29, T30, T31, T33, T34, T35, T36, T37, T38, T39, T40, T42, T43, T44, T45, T46, T47, T48, T49, T51, T52, T53, T54, T56, T57, T58, T59, T60, T61, T62, T63, T64, T65, T66, T67, T68, T69, T70, T71, T72, T73, T74, T75, T76, T77, T78, T79, T81, T82, T83, T85, T86, T87, T88, T89, T90, T91, T92, T93, T94, T95, T96, T98, T99, T105, T108, T109, hd, hal, hil, B4_9, B4_10, B4_11, B3_9]
      by_cases hw : (0 ≤ p ∧ p ≤ 1000000001) ∧ 0 ≤ q ∧ q ≤ 1000000001
      · rw [if_neg (by omega)] at hsent
        rw [hsent]
        refine ⟨fun _ => ⟨fun h6 h7 => ?_, fun h6 => ?_⟩, fun h6 => by simp at h6⟩
        · have h8 : ¬ p < q := by simpa using h6
          have h9 : ∀ (xs : List Int) (l : List (Int × Int)), sentGo p q xs l = 0 := fun xs => by
            induction xs with
            | nil => intro l; rfl
            | cons x xs ih =>
              intro l
              cases l with
              | nil => rfl
              | cons y l => simp only [sentGo, ih]; rw [if_neg (by omega)]; rfl
          simp [h9] at h7
        · have h8 : p < q := by simpa using h6
          have h9 := hbound h8 hw.1.1
          have hm1 : (q - p) * r ≤ 1000000001 * 1000000000 := Int.mul_le_mul (by omega) hq.1.2 (by omega) (by omega)
          have hm0 : 0 ≤ (q - p) * r := Int.mul_nonneg (by omega) (by omega)
          refine ⟨⟨by omega, by omega⟩, ⟨by omega, by omega⟩, ⟨by omega, by omega⟩, fun h7 => ?_⟩
          simp at h7
          omega
      · rw [if_pos hw] at hsent
        rw [hsent]
        simp
end Go.Proofs.Ytpeiomhgaembaaa
set_option linter.unusedVariables false
set_option linter.unusedSimpArgs false
set_option maxRecDepth 100000
set_option maxHeartbeats 4000000
namespace Go.Proofs.Ytpeiomhgaembaaa
open Go Go.RowKit Go.ChangeShapes Go.WideShapes Go.ChangeAt Go.Proofs.Ytpeiomhgaembaaa.Eng

theorem shape3 {m : Nat} {xs : List AV} (h : ShapeC T m 3 xs) : ∃ n, xs = [.v (.int .i64 n)] := by
  cases m with
  | zero => exact h.elim
  | succ m => simp only [ShapeC, T3] at h; obtain ⟨n, rfl, _⟩ := h; exact ⟨n, rfl⟩
theorem shape23 {m : Nat} {x : AV} (h : ShapeV T m 23 x) : ∃ r b, x = .agg [.v (.int .i64 r), .v (.int .i64 b)] := by
  simp only [ShapeV, T23] at h
  obtain ⟨xs, rfl, h⟩ := h
  cases m with
  | zero => exact h.elim
  | succ m =>
    simp only [ShapeC, T23, List.map_cons, List.map_nil, ShapeL] at h
    obtain ⟨a, b, rfl, ha, c, d, rfl, hc, rfl⟩ := h
    obtain ⟨r, rfl⟩ := shape3 ha
    obtain ⟨q, rfl⟩ := shape3 hc
    exact ⟨r, q, rfl⟩
theorem shape31 {m : Nat} {xs : List AV} (h : ShapeC T m 31 xs) : ∃ p : Int × Int, xs = [.v (.int .i64 p.1), .v (.int .i64 p.2)] := by
  cases m with
  | zero => exact h.elim
  | succ m =>
    simp only [ShapeC, T31, List.map_cons, List.map_nil, ShapeL] at h
    obtain ⟨a, b, rfl, ha, c, d, rfl, hc, rfl⟩ := h
    obtain ⟨r, rfl⟩ := shape3 ha
    obtain ⟨q, rfl⟩ := shape3 hc
    exact ⟨(r, q), rfl⟩
theorem all_map {α : Type} {f : α → List AV} : ∀ {es : List (List AV)}, (∀ c ∈ es, ∃ a, c = f a) → ∃ l : List α, es = l.map f
  | [], _ => ⟨[], rfl⟩
  | c :: es, h => by
    obtain ⟨a, rfl⟩ := h c (List.mem_cons_self ..)
    obtain ⟨l, rfl⟩ := all_map (fun c hc => h c (List.mem_cons_of_mem _ hc))
    exact ⟨a :: l, rfl⟩
theorem shape24 {m : Nat} {x : AV} (h : ShapeV T m 24 x) : ∃ l, x = .ro 2 (asks l) := by
  simp only [ShapeV, T24] at h
  cases m with
  | zero => exact h.elim
  | succ m =>
    simp only [ShapeC, T24, T31] at h
    obtain ⟨es, he, _, hes⟩ := h
    obtain ⟨l, rfl⟩ := all_map (f := fun x : Int × Int => [.v (.int .i64 x.1), .v (.int .i64 x.2)]) (fun c hc => shape31 (hes c hc))
    simp only [List.cons.injEq, and_true] at he
    exact ⟨l, he⟩
theorem law_QH (xs : List AV) (h : ShapeA T 5 [23, 24, 3, 3] xs) : FPure Try.prog 3 xs (.v (.bool true)) := by
  simp only [ShapeA] at h
  obtain ⟨x1, _, rfl, h1, x2, _, rfl, h2, x3, _, rfl, h3, x4, _, rfl, h4, rfl⟩ := h
  obtain ⟨r, b, rfl⟩ := shape23 h1
  obtain ⟨l, rfl⟩ := shape24 h2
  simp only [ShapeV, T3] at h3 h4
  obtain ⟨p, hp⟩ := shape3 h3
  obtain ⟨q, hq⟩ := shape3 h4
  simp only [List.cons.injEq, and_true] at hp hq
  subst hp hq
  exact law_QuotasHold r b l p q
theorem own : ownKnob Try.prog.godebug = none := by kernel_rfl
theorem laidOut : laidOutB Try.prog = true := by kernel_rfl
theorem quotasHold_lifted (os : Os) (started : os.Started) (H : Type) (enc : TypeId × Value → H) :
    ReturnsInHanded {} Try.checked os 3 .any (Rows.wireQuotasHoldSpec.pre6 enc Try.prog Try.f3 Rows.wireQuotasHoldRow.domain false) (Rows.wireQuotasHoldSpec.post enc Try.prog Try.f3 false true false false) := by
  refine returnsInHanded_of_change_sized (C := Try.checked) own started (by kernel_rfl) Try.func3
    (ChangeSpec.witness6 (enc := enc) (C := Try.checked) false ⟨#[], #[.agg #[.int .i64 0, .int .i64 0], .slice none 0 0, .int .i64 0, .int .i64 0], []⟩ 8 (by kernel_rfl) (by kernel_rfl) (by kernel_rfl) (by kernel_rfl)) ?_
  intro W base args ds gs before hval0 hW hcnd hsz0 _
  have hW' := hW
  obtain ⟨p, q, hA0, hV, rfl, hfz, hnd⟩ := hW
  have hsz : (DataW.weightsEach Try.prog (Try.f3.params.toList ++ Rows.wireQuotasHoldSpec.plain.varTypes Try.prog) (ds ++ gs)).all (· ≤ reachBytes) = true := hsz0
  have hA : DataW.TrodAll enc Try.prog W 0 (fun _ => true) true [23, 24, 3, 3] args.toList ds p := hA0
  obtain ⟨rfl, rfl⟩ := trodVars_none hV
  have hlaw := law_calls (r := .any) (b0 := base) tabOK laidOut law_QH (by decide) (by kernel_rfl) hA (fun j t v h1 h2 => hval0 j t v (by simpa using h1) (by simpa using h2)) (by rw [List.append_nil] at hsz; exact hsz)
  simp only [Array.toArray_toList] at hlaw
  refine hlaw.mono fun e W' ⟨he, bel, hback⟩ => ?_
  subst he
  obtain ⟨d1, d2, d3, d4, hds⟩ : ∃ d1 d2 d3 d4, ds = [d1, d2, d3, d4] := by
    obtain ⟨_, _, d1, _, _, _, _, rfl, _, _, h⟩ := trodAll_cons hA
    obtain ⟨_, _, d2, _, _, _, _, rfl, _, _, h⟩ := trodAll_cons h
    obtain ⟨_, _, d3, _, _, _, _, rfl, _, _, h⟩ := trodAll_cons h
    obtain ⟨_, _, d4, _, _, _, _, rfl, _, _, h⟩ := trodAll_cons h
    obtain ⟨_, rfl, _⟩ := trodAll_nil h
    exact ⟨d1, d2, d3, d4, rfl⟩
  subst hds
  exact ⟨_, rfl, _, _, _, [], _, [], hW', trodAll_mk1 (shut_bool Try.underlying4 _), hback, rfl, bel.frame _, fun h => by cases h⟩
theorem quotasHold_over : Rows.wireQuotasHoldRow.holds Try.pinned (OpenSpec.ofChange Rows.wireQuotasHoldSpec) :=
  OpenClaim.holds_of_wide 3 Try.f3 rfl rfl rfl rfl rfl rfl rfl ⟨rfl, rfl, rfl, rfl, rfl⟩ rfl rfl rfl rfl rfl (by kernel_rfl) Try.func3 (by kernel_rfl)
    (of_decide_eq_true (by kernel_rfl)) (by unfold Func.isWrapper; first | (rw [if_pos (by decide +kernel)]; kernel_rfl) | (rw [if_neg (by decide +kernel)]; exact ⟨rfl, rfl⟩))
    (fun os started H enc _ => quotasHold_lifted os started H enc)
theorem quotasHold_holds : Rows.WireQuotasHoldSaid := quotasHold_over
end Go.Proofs.Ytpeiomhgaembaaa
