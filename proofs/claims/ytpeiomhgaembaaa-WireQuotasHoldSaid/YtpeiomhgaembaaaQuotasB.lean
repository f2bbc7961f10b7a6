/-
  What awake and wire.Sent hand back, and the plain law of the token bucket, for all arguments. No condition.
-/
import Derived.Test.YtpeiomhgaembaaaQuotasA
set_option linter.unusedVariables false
set_option linter.unusedSimpArgs false
set_option maxRecDepth 10000
set_option maxHeartbeats 4000000
namespace Go.Proofs.Ytpeiomhgaembaaa
open Go Go.RowKit Go.Proofs.Ytpeiomhgaembaaa.Eng

theorem ints_inj : ∀ (l l' : List Int), ints l = ints l' → l = l' := fun l l' h => (List.map_inj_right (fun a b h => by simpa using h)).1 h
theorem asks_inj : ∀ (l l' : List (Int × Int)), asks l = asks l' → l = l' := fun l l' h => (List.map_inj_right (fun a b h => by simp at h; exact Prod.ext h.1 h.2)).1 h
def qlArgs (x : Int × Int × List (Int × Int)) : List AV := [.agg [.v (.int .i64 x.1), .v (.int .i64 x.2.1)], .ro 2 (asks x.2.2)]
theorem qlArgs_inj (x y : Int × Int × List (Int × Int)) (h : qlArgs x = qlArgs y) : x = y := by
  simp [qlArgs] at h; exact Prod.ext h.1.1 (Prod.ext h.1.2 (asks_inj _ _ h.2))
def startsOut (x : Int × Int × List (Int × Int)) : Prop × AV := (True, .tup [.ro 1 (ints (starts x.1 x.2.1 x.2.2).1), .v (.int .i64 (starts x.1 x.2.1 x.2.2).2)])
noncomputable def B3 (f : Nat) (args : List AV) : Option (Prop × AV) := addB B2 9 (bookOf qlArgs startsOut) f args
theorem B3ok : BookOK Try.prog B3 := B2ok.addOf (enters_of Try.func9 (by kernel_rfl) rfl) (fun x _ => wire_Starts x.1 x.2.1 x.2.2)
theorem B3_9 (r b : Int) (l : List (Int × Int)) : B3 9 [.agg [.v (.int .i64 r), .v (.int .i64 b)], .ro 2 (asks l)] = some (True, .tup [.ro 1 (ints (starts r b l).1), .v (.int .i64 (starts r b l).2)]) :=
  (addB_same B2 9 (bookOf qlArgs startsOut) (qlArgs (r, b, l))).trans (bookOf_at qlArgs_inj (r, b, l))
theorem B3_34 (args : List AV) : B3 34 args = B1 34 args := rfl
theorem asks_two (a b c d : Int) : ([[.v (.int .i64 a), .v (.int .i64 b)], [.v (.int .i64 c), .v (.int .i64 d)]] : List (List AV)) = asks [(a, b), (c, d)] := rfl
/-- smithyardlaw8.awake -/
theorem law_awake : FPure Try.prog 10 [] (.v (.bool true)) := by
  refine FPost.of (n := 30) (rs := [.tmp 0]) tabOK B3ok Try.func10 rfl rfl rfl (fun X hn hm => ?_)
  have e : starts 2 10 [(0, 8), (0, 8)] = ([0, 3], 0) := by decide
  have hb := B3_9 2 10 [(0, 8), (0, 8)]
  rw [e, ← asks_two] at hb
  simp only [ex_skip, ex_region, ex_drawn, ex_seq, ex_cond, ex_block, ex_exit, ex_ret, ex_loop, exOps_nil, exOps_cons, exOp_at, exOpB, then_normal, then_exit, then_ret, block_normal, block_exit, block_ret, exDraw_nil, exDraw_cons, exVal, St.ev, envGet, envSub, St.put, enumFrom, evBin, evInt, evStr, evShift, arith, nthDst, dOK, Qret, Ret, Qpure, Done, AV.full, AV.one, cellsOf, cellsAs, TK.agg, objCells, bnds, List.getElem?_cons_zero, List.getElem?_cons_succ, List.getElem?_nil, List.drop_zero, List.drop_succ_cons, List.drop_nil, List.take_zero, List.take_succ_cons, List.take_nil, Option.getD_some, Option.map_some, Option.map_none, List.map_cons, List.map_nil, List.all_cons, List.all_nil, putA, freezeAll, St.freeze, frzAt, AV.idsL, AV.ids, AV.subL, List.nil_append, List.cons_append, List.singleton_append, exStill, nthOp, dropL, rowOK_nil, rowOK_cons, List.range_succ, List.range_zero, AV.flat, Value.oneCell', exAppend, elemsOf, St.appended, killAt, Tells_at, St.trim, trimAt, AObj.sub, leEnv, AV.le_self, AV.le_any, List.set_cons_zero, List.set_cons_succ, Value.cells, Int.natCast_zero, Int.natCast_add, Int.natCast_one, Int.toNat_natCast, AV.le_v, AV.le_nil, List.length_map, Value.int.injEq, Value.bool.injEq, addB, noBook, backAt, exists_eq_left, ne_eq, not_false_eq_true, not_true_eq_false, Nat.reduceLeDiff, Nat.le_refl, resAll, resOne, retAV, AV.sub, renAt, nilness, Nat.reduceEqDiff, Nat.reduceLT, Nat.reduceBEq, if_true, if_false, reduceIte, Nat.reduceAdd, Nat.reduceSub, Nat.reduceMul, List.length_cons, List.length_nil, true_and, and_true, List.append_nil, forall_const, imp_self, Bool.not_true, Bool.not_false, Bool.and_self, Bool.false_and, Bool.true_and, Bool.and_false, Bool.and_true, Bool.false_eq_true, reduceCtorEq, false_implies, implies_true, Option.some.injEq, kVal, kMem, kPick, kNil, eOwed, eVal, kGuard, kCond, eStill, useVal_some, useVal_none, useMem_some, useMem_none, useBool_v, useNil_some, useNil_none, exMem, exCall, exNil, eqOp, nilOwn, placesOf, buildA, borrowAt, AV.plain, AV.plainL, T1, T2, T3, T4, T5, T9, T12, T17, T20, T21, T22, T23, T24, T25, T26, T28, T29, T30, T31, T33, T34, T35, T36, T37, T38, T39, T40, T42, T43, T44, T45, T46, T47, T48, T49, T51, T52, T53, T54, T56, T57, T58, T59, T60, T61, T62, T63, T64, T65, T66, T67, T68, T69, T70, T71, T72, T73, T74, T75, T76, T77, T78, T79, T81, T82, T83, T85, T86, T87, T88, T89, T90, T91, T92, T93, T94, T95, T96, T98, T99, T105, T108, T109, hb, ints, Int.reduceToNat, getRow, decide_true, Int.reduceLE, Int.reduceLT, Int.reduceEq]
  exact ⟨fun _ => ⟨by decide, by decide⟩, fun h => absurd h (by decide)⟩
/-- how much of l is let through from 'from' to 'to' -/
def sentGo (from_ to : Int) : List Int → List (Int × Int) → Int
  | x :: xs, y :: l => (if from_ ≤ x ∧ x < to then y.2 else 0) + sentGo from_ to xs l
  | _, _ => 0
def sent (r b : Int) (l : List (Int × Int)) (from_ to : Int) : Int × Int :=
  if (starts r b l).2 ≠ 0 then (0, (starts r b l).2) else if ¬ ((0 ≤ from_ ∧ from_ ≤ 1000000001) ∧ 0 ≤ to ∧ to ≤ 1000000001) then (0, 1) else (sentGo from_ to (starts r b l).1 l, 0)
theorem startsGo_len (r b : Int) : ∀ (l : List (Int × Int)) (at_ hand : Int), (startsGo r b l at_ hand).1.length = l.length
  | [], _, _ => rfl
  | x :: l, at_, hand => by simp only [startsGo, List.length_cons, startsGo_len r b l]
/-- What stands if there is no fault. -/
theorem starts_ok {r b : Int} {l : List (Int × Int)} (h : (starts r b l).2 = 0) : ((1 ≤ r ∧ r ≤ 1000000000) ∧ (1 ≤ b ∧ b ≤ 1000000000)) ∧ l.length ≤ 2000 ∧ asksFault b none l = 0 ∧ (startsGo r b l 0 b).2 ≤ 1000000000 ∧ (starts r b l).1 = (startsGo r b l 0 b).1 := by
  unfold starts at h ⊢
  by_cases h1 : quotaF r b = 0
  · by_cases h2 : 2000 < (l.length : Int)
    · simp [h1, h2] at h
    · by_cases h3 : asksFault b none l = 0
      · by_cases h4 : (startsGo r b l 0 b).2 > 1000000000
        · simp [h1, h2, h3, h4] at h
        · have hq : (1 ≤ r ∧ r ≤ 1000000000) ∧ (1 ≤ b ∧ b ≤ 1000000000) := by
            unfold quotaF at h1
            split at h1
            · assumption
            · cases h1
          exact ⟨hq, by omega, h3, by omega, by simp [h1, h2, h3, h4]⟩
      · simp [h1, h2, h3] at h
  · simp [h1] at h
theorem sentGo_step {from_ to : Int} {xs : List Int} {l : List (Int × Int)} {k : Nat} {x : Int} {y : Int × Int} (hx : xs[k]? = some x) (hy : l[k]? = some y) : sentGo from_ to (xs.drop k) (l.drop k) = (if from_ ≤ x ∧ x < to then y.2 else 0) + sentGo from_ to (xs.drop (k + 1)) (l.drop (k + 1)) := by
  obtain ⟨h1, rfl⟩ := List.getElem?_eq_some_iff.1 hx
  obtain ⟨h2, rfl⟩ := List.getElem?_eq_some_iff.1 hy
  rw [List.drop_eq_getElem_cons h1, List.drop_eq_getElem_cons h2, sentGo]
theorem wire_Sent (r b : Int) (l : List (Int × Int)) (from_ to : Int) : FPure Try.prog 11 [.agg [.v (.int .i64 r), .v (.int .i64 b)], .ro 2 (asks l), .v (.int .i64 from_), .v (.int .i64 to)] (.tup [.v (.int .i64 (sent r b l from_ to).1), .v (.int .i64 (sent r b l from_ to).2)]) := by
  refine FPost.of (n := 56) (rs := [.tmp 8, .tmp 9]) tabOK B3ok Try.func11 rfl rfl rfl (fun X hn hm => ?_)
  simp only [ex_skip, ex_region, ex_drawn, ex_seq, ex_cond, ex_block, ex_exit, ex_ret, ex_loop, exOps_nil, exOps_cons, exOp_at, exOpB, then_normal, then_exit, then_ret, block_normal, block_exit, block_ret, exDraw_nil, exDraw_cons, exVal, St.ev, envGet, envSub, St.put, enumFrom, evBin, evInt, evStr, evShift, arith, nthDst, dOK, Qret, Ret, Qpure, Done, AV.full, AV.one, cellsOf, cellsAs, TK.agg, objCells, bnds, List.getElem?_cons_zero, List.getElem?_cons_succ, List.getElem?_nil, List.drop_zero, List.drop_succ_cons, List.drop_nil, List.take_zero, List.take_succ_cons, List.take_nil, Option.getD_some, Option.map_some, Option.map_none, List.map_cons, List.map_nil, List.all_cons, List.all_nil, putA, freezeAll, St.freeze, frzAt, AV.idsL, AV.ids, AV.subL, List.nil_append, List.cons_append, List.singleton_append, exStill, nthOp, dropL, rowOK_nil, rowOK_cons, List.range_succ, List.range_zero, AV.flat, Value.oneCell', exAppend, elemsOf, St.appended, killAt, Tells_at, St.trim, trimAt, AObj.sub, leEnv, AV.le_self, AV.le_any, List.set_cons_zero, List.set_cons_succ, Value.cells, Int.natCast_zero, Int.natCast_add, Int.natCast_one, Int.toNat_natCast, AV.le_v, AV.le_nil, List.length_map, Value.int.injEq, Value.bool.injEq, addB, noBook, backAt, exists_eq_left, ne_eq, not_false_eq_true, not_true_eq_false, Nat.reduceLeDiff, Nat.le_refl, resAll, resOne, retAV, AV.sub, renAt, nilness, Nat.reduceEqDiff, Nat.reduceLT, Nat.reduceBEq, if_true, if_false, reduceIte, Nat.reduceAdd, Nat.reduceSub, Nat.reduceMul, List.length_cons, List.length_nil, true_and, and_true, List.append_nil, forall_const, imp_self, Bool.not_true, Bool.not_false, Bool.and_self, Bool.false_and, Bool.true_and, Bool.and_false, Bool.and_true, Bool.false_eq_true, reduceCtorEq, false_implies, implies_true, Option.some.injEq, kVal, kMem, kPick, kNil, eOwed, eVal, kGuard, kCond, eStill, useVal_some, useVal_none, useMem_some, useMem_none, useBool_v, useNil_some, useNil_none, exMem, exCall, exNil, eqOp, nilOwn, placesOf, buildA, borrowAt, AV.plain, AV.plainL, T1, T2, T3, T4, T5, T9, T12, T17, T20, T21, T22, T23, T24, T25, T26, T28, T29, T30, T31, T33, T34, T35, T36, T37, T38, T39, T40, T42, T43, T44, T45, T46, T47, T48, T49, T51, T52, T53, T54, T56, T57, T58, T59, T60, T61, T62, T63, T64, T65, T66, T67, T68, T69, T70, T71, T72, T73, T74, T75, T76, T77, T78, T79, T81, T82, T83, T85, T86, T87, T88, T89, T90, T91, T92, T93, T94, T95, T96, T98, T99, T105, T108, T109, B3_9, B3_34, B1]
  have h0 : ∀ {c : Int}, (starts r b l).2 = c → c ≠ 0 → sent r b l from_ to = (0, c) := fun {c} h1 h2 => by simp [sent, h1, h2]
  have h1 : (starts r b l).2 = 0 → ¬ ((0 ≤ from_ ∧ from_ ≤ 1000000001) ∧ 0 ≤ to ∧ to ≤ 1000000001) → sent r b l from_ to = (0, 1) := fun h1 h2 => by simp only [sent, h1]; rw [if_neg (by simp), if_pos h2]
  refine ⟨fun h => ?_, fun h => ⟨fun h2 => ⟨fun h3 => ?_, fun h3 => ?_⟩, fun h2 => ?_⟩⟩
  · rw [h0 rfl (by simpa using h)]; exact .refl _
  · rw [h1 (by simpa using h) (by simp at h2 h3; omega)]; exact .refl _
  · have hz : (starts r b l).2 = 0 := by simpa using h
    have hw : (0 ≤ from_ ∧ from_ ≤ 1000000001) ∧ 0 ≤ to ∧ to ≤ 1000000001 := by simp at h2 h3; omega
    obtain ⟨hq, hlen, hF, hat, hxs⟩ := starts_ok hz
    have hall := asks_in hF
    have hres : sent r b l from_ to = (sentGo from_ to (starts r b l).1 l, 0) := by simp only [sent, hz]; rw [if_neg (by simp), if_neg (by omega)]
    rw [hres]
    have hxl : (starts r b l).1.length = l.length := by rw [hxs, startsGo_len]
    generalize (starts r b l).1 = xs at *
    have hil : (ints xs).length = xs.length := by simp [ints]
    have hal : (asks l).length = l.length := by simp [asks]
    refine LOOP.ghost (α := Nat × Int) (fun g => ⟨[(1, .ro 2 (asks l)), (2, .v (.int .i64 from_)), (3, .v (.int .i64 to)), (12, .v (.int .i64 g.2)), (32, .ro 1 (ints xs)), (33, .v (.int .i64 (xs.length : Int))), (34, .v (.int .i64 (g.1 : Int)))], []⟩)
      (fun g => g.1 ≤ xs.length ∧ 0 ≤ g.2 ∧ g.2 ≤ (g.1 : Int) * 1000000000 ∧ g.2 + sentGo from_ to (xs.drop g.1) (l.drop g.1) = sentGo from_ to xs l) (fun g => xs.length - g.1) (0, 0) tabOK B3ok hn hm ?_ ?_ ?_
    · simp
    · simp only [ex_skip, ex_region, ex_drawn, ex_seq, ex_cond, ex_block, ex_exit, ex_ret, ex_loop, exOps_nil, exOps_cons, exOp_at, exOpB, then_normal, then_exit, then_ret, block_normal, block_exit, block_ret, exDraw_nil, exDraw_cons, exVal, St.ev, envGet, envSub, St.put, enumFrom, evBin, evInt, evStr, evShift, arith, nthDst, dOK, Qret, Ret, Qpure, Done, AV.full, AV.one, cellsOf, cellsAs, TK.agg, objCells, bnds, List.getElem?_cons_zero, List.getElem?_cons_succ, List.getElem?_nil, List.drop_zero, List.drop_succ_cons, List.drop_nil, List.take_zero, List.take_succ_cons, List.take_nil, Option.getD_some, Option.map_some, Option.map_none, List.map_cons, List.map_nil, List.all_cons, List.all_nil, putA, freezeAll, St.freeze, frzAt, AV.idsL, AV.ids, AV.subL, List.nil_append, List.cons_append, List.singleton_append, exStill, nthOp, dropL, rowOK_nil, rowOK_cons, List.range_succ, List.range_zero, AV.flat, Value.oneCell', exAppend, elemsOf, St.appended, killAt, Tells_at, St.trim, trimAt, AObj.sub, leEnv, AV.le_self, AV.le_any, List.set_cons_zero, List.set_cons_succ, Value.cells, Int.natCast_zero, Int.natCast_add, Int.natCast_one, Int.toNat_natCast, AV.le_v, AV.le_nil, List.length_map, Value.int.injEq, Value.bool.injEq, addB, noBook, backAt, exists_eq_left, ne_eq, not_false_eq_true, not_true_eq_false, Nat.reduceLeDiff, Nat.le_refl, resAll, resOne, retAV, AV.sub, renAt, nilness, Nat.reduceEqDiff, Nat.reduceLT, Nat.reduceBEq, if_true, if_false, reduceIte, Nat.reduceAdd, Nat.reduceSub, Nat.reduceMul, List.length_cons, List.length_nil, true_and, and_true, List.append_nil, forall_const, imp_self, Bool.not_true, Bool.not_false, Bool.and_self, Bool.false_and, Bool.true_and, Bool.and_false, Bool.and_true, Bool.false_eq_true, reduceCtorEq, false_implies, implies_true, Option.some.injEq, kVal, kMem, kPick, kNil, eOwed, eVal, kGuard, kCond, eStill, useVal_some, useVal_none, useMem_some, useMem_none, useBool_v, useNil_some, useNil_none, exMem, exCall, exNil, eqOp, nilOwn, placesOf, buildA, borrowAt, AV.plain, AV.plainL, hil]
    · rintro ⟨k, n⟩ ⟨hk, hn0, hn1, hgo⟩
      dsimp only at hk hn0 hn1 hgo ⊢
      rcases Nat.lt_or_ge k xs.length with hlt | hge
      · obtain ⟨x, hx⟩ : ∃ x, xs[k]? = some x := ⟨_, List.getElem?_eq_getElem hlt⟩
        obtain ⟨y, hy⟩ : ∃ y, l[k]? = some y := ⟨_, List.getElem?_eq_getElem (by omega)⟩
        have hd : decide ((k : Int) < (xs.length : Int)) = true := by simp; omega
        have hr : getRow (ints xs) k = [.v (.int .i64 x)] := getRow_some hx
        have hr2 : getRow (asks l) k = [.v (.int .i64 y.1), .v (.int .i64 y.2)] := getRow_some hy
        simp only [ex_skip, ex_region, ex_drawn, ex_seq, ex_cond, ex_block, ex_exit, ex_ret, ex_loop, exOps_nil, exOps_cons, exOp_at, exOpB, then_normal, then_exit, then_ret, block_normal, block_exit, block_ret, exDraw_nil, exDraw_cons, exVal, St.ev, envGet, envSub, St.put, enumFrom, evBin, evInt, evStr, evShift, arith, nthDst, dOK, Qret, Ret, Qpure, Done, AV.full, AV.one, cellsOf, cellsAs, TK.agg, objCells, bnds, List.getElem?_cons_zero, List.getElem?_cons_succ, List.getElem?_nil, List.drop_zero, List.drop_succ_cons, List.drop_nil, List.take_zero, List.take_succ_cons, List.take_nil, Option.getD_some, Option.map_some, Option.map_none, List.map_cons, List.map_nil, List.all_cons, List.all_nil, putA, freezeAll, St.freeze, frzAt, AV.idsL, AV.ids, AV.subL, List.nil_append, List.cons_append, List.singleton_append, exStill, nthOp, dropL, rowOK_nil, rowOK_cons, List.range_succ, List.range_zero, AV.flat, Value.oneCell', exAppend, elemsOf, St.appended, killAt, Tells_at, St.trim, trimAt, AObj.sub, leEnv, AV.le_self, AV.le_any, List.set_cons_zero, List.set_cons_succ, Value.cells, Int.natCast_zero, Int.natCast_add, Int.natCast_one, Int.toNat_natCast, AV.le_v, AV.le_nil, List.length_map, Value.int.injEq, Value.bool.injEq, addB, noBook, backAt, exists_eq_left, ne_eq, not_false_eq_true, not_true_eq_false, Nat.reduceLeDiff, Nat.le_refl, resAll, resOne, retAV, AV.sub, renAt, nilness, Nat.reduceEqDiff, Nat.reduceLT, Nat.reduceBEq, if_true, if_false, reduceIte, Nat.reduceAdd, Nat.reduceSub, Nat.reduceMul, List.length_cons, List.length_nil, true_and, and_true, List.append_nil, forall_const, imp_self, Bool.not_true, Bool.not_false, Bool.and_self, Bool.false_and, Bool.true_and, Bool.and_false, Bool.and_true, Bool.false_eq_true, reduceCtorEq, false_implies, implies_true, Option.some.injEq, kVal, kMem, kPick, kNil, eOwed, eVal, kGuard, kCond, eStill, useVal_some, useVal_none, useMem_some, useMem_none, useBool_v, useNil_some, useNil_none, exMem, exCall, exNil, eqOp, nilOwn, placesOf, buildA, borrowAt, AV.plain, AV.plainL, T1, T2, T3, T4, T5, T9, T12, T17, T20, T21, T22, T23, T24, T25, T26, T28, T29, T30, T31, T33, T34, T35, T36, T37, T38, T39, T40, T42, T43, T44, T45, T46, T47, T48, T49, T51, T52, T53, T54, T56, T57, T58, T59, T60, T61, T62, T63, T64, T65, T66, T67, T68, T69, T70, T71, T72, T73, T74, T75, T76, T77, T78, T79, T81, T82, T83, T85, T86, T87, T88, T89, T90, T91, T92, T93, T94, T95, T96, T98, T99, T105, T108, T109, hd, hr, hr2, hal, hil]
        have hyi := hall y (List.mem_of_getElem? hy)
        rw [sentGo_step hx hy] at hgo
        refine ⟨⟨by omega, by omega⟩, fun h4 => ⟨fun h5 => ?_, fun h5 => ?_⟩, fun h4 => ?_⟩
        · rw [if_pos (by simp at h4 h5; omega)] at hgo
          exact ⟨⟨by omega, by omega⟩, ⟨by omega, by omega⟩, ⟨by omega, by omega⟩, (k + 1, n + y.2), ⟨rfl, by simp⟩, ⟨by dsimp only; omega, by dsimp only; omega, by dsimp only; omega, by dsimp only; omega⟩, by dsimp only; omega⟩
        · rw [if_neg (by simp at h4 h5; omega)] at hgo
          exact ⟨⟨by omega, by omega⟩, (k + 1, n), ⟨rfl, by simp⟩, ⟨by dsimp only; omega, by dsimp only; omega, by dsimp only; omega, by dsimp only; omega⟩, by dsimp only; omega⟩
        · rw [if_neg (by simp at h4; omega)] at hgo
          exact ⟨⟨by omega, by omega⟩, (k + 1, n), ⟨rfl, by simp⟩, ⟨by dsimp only; omega, by dsimp only; omega, by dsimp only; omega, by dsimp only; omega⟩, by dsimp only; omega⟩
      · obtain rfl : k = xs.length := by omega
        have hd : decide ((xs.length : Int) < (xs.length : Int)) = false := by simp
        rw [List.drop_length] at hgo
        simp only [sentGo, Int.add_zero] at hgo
        simp only [ex_skip, ex_region, ex_drawn, ex_seq, ex_cond, ex_block, ex_exit, ex_ret, ex_loop, exOps_nil, exOps_cons, exOp_at, exOpB, then_normal, then_exit, then_ret, block_normal, block_exit, block_ret, exDraw_nil, exDraw_cons, exVal, St.ev, envGet, envSub, St.put, enumFrom, evBin, evInt, evStr, evShift, arith, nthDst, dOK, Qret, Ret, Qpure, Done, AV.full, AV.one, cellsOf, cellsAs, TK.agg, objCells, bnds, List.getElem?_cons_zero, List.getElem?_cons_succ, List.getElem?_nil, List.drop_zero, List.drop_succ_cons, List.drop_nil, List.take_zero, List.take_succ_cons, List.take_nil, Option.getD_some, Option.map_some, Option.map_none, List.map_cons, List.map_nil, List.all_cons, List.all_nil, putA, freezeAll, St.freeze, frzAt, AV.idsL, AV.ids, AV.subL, List.nil_append, List.cons_append, List.singleton_append, exStill, nthOp, dropL, rowOK_nil, rowOK_cons, List.range_succ, List.range_zero, AV.flat, Value.oneCell', exAppend, elemsOf, St.appended, killAt, Tells_at, St.trim, trimAt, AObj.sub, leEnv, AV.le_self, AV.le_any, List.set_cons_zero, List.set_cons_succ, Value.cells, Int.natCast_zero, Int.natCast_add, Int.natCast_one, Int.toNat_natCast, AV.le_v, AV.le_nil, List.length_map, Value.int.injEq, Value.bool.injEq, addB, noBook, backAt, exists_eq_left, ne_eq, not_false_eq_true, not_true_eq_false, Nat.reduceLeDiff, Nat.le_refl, resAll, resOne, retAV, AV.sub, renAt, nilness, Nat.reduceEqDiff, Nat.reduceLT, Nat.reduceBEq, if_true, if_false, reduceIte, Nat.reduceAdd, Nat.reduceSub, Nat.reduceMul, List.length_cons, List.length_nil, true_and, and_true, List.append_nil, forall_const, imp_self, Bool.not_true, Bool.not_false, Bool.and_self, Bool.false_and, Bool.true_and, Bool.and_false, Bool.and_true, Bool.false_eq_true, reduceCtorEq, false_implies, implies_true, Option.some.injEq, kVal, kMem, kPick, kNil, eOwed, eVal, kGuard, kCond, eStill, useVal_some, useVal_none, useMem_some, useMem_none, useBool_v, useNil_some, useNil_none, exMem, exCall, exNil, eqOp, nilOwn, placesOf, buildA, borrowAt, AV.plain, AV.plainL, T1, T2, T3, T4, T5, T9, T12, T17, T20, T21, T22, T23, T24, T25, T26, T28, T29, T30, T31, T33, T34, T35, T36, T37, T38, T39, T40, T42, T43, T44, T45, T46, T47, T48, T49, T51, T52, T53, T54, T56, T57, T58, T59, T60, T61, T62, T63, T64, T65, T66, T67, T68, T69, T70, T71, T72, T73, T74, T75, T76, T77, T78, T79, T81, T82, T83, T85, T86, T87, T88, T89, T90, T91, T92, T93, T94, T95, T96, T98, T99, T105, T108, T109, hd, hal, hil, hgo]
  · rw [h1 (by simpa using h) (by simp at h2; omega)]; exact .refl _
end Go.Proofs.Ytpeiomhgaembaaa
set_option linter.unusedVariables false
set_option linter.unusedSimpArgs false
set_option maxRecDepth 10000
set_option maxHeartbeats 4000000
namespace Go.Proofs.Ytpeiomhgaembaaa
open Go Go.RowKit Go.Proofs.Ytpeiomhgaembaaa.Eng

def sentArgs (x : Int × Int × List (Int × Int) × Int × Int) : List AV := [.agg [.v (.int .i64 x.1), .v (.int .i64 x.2.1)], .ro 2 (asks x.2.2.1), .v (.int .i64 x.2.2.2.1), .v (.int .i64 x.2.2.2.2)]
theorem sentArgs_inj (x y : Int × Int × List (Int × Int) × Int × Int) (h : sentArgs x = sentArgs y) : x = y := by
  simp [sentArgs] at h; exact Prod.ext h.1.1 (Prod.ext h.1.2 (Prod.ext (asks_inj _ _ h.2.1) (Prod.ext h.2.2.1 h.2.2.2)))
def sentOut (x : Int × Int × List (Int × Int) × Int × Int) : Prop × AV := (True, .tup [.v (.int .i64 (sent x.1 x.2.1 x.2.2.1 x.2.2.2.1 x.2.2.2.2).1), .v (.int .i64 (sent x.1 x.2.1 x.2.2.1 x.2.2.2.1 x.2.2.2.2).2)])
noncomputable def B4 (f : Nat) (args : List AV) : Option (Prop × AV) := addB (addB B3 11 (bookOf sentArgs sentOut)) 10 (fun args => match args with | [] => some (True, .v (.bool true)) | _ => none) f args
theorem B4ok : BookOK Try.prog B4 := (B3ok.addOf (enters_of Try.func11 (by kernel_rfl) rfl) (fun x _ => wire_Sent x.1 x.2.1 x.2.2.1 x.2.2.2.1 x.2.2.2.2)).add (enters_of Try.func10 (by kernel_rfl) rfl) (fun args c R h _ => by
  split at h
  · cases h; exact law_awake
  · cases h)
theorem B4_9 (args : List AV) : B4 9 args = B3 9 args := rfl
theorem B4_10 : B4 10 [] = some (True, .v (.bool true)) := rfl
theorem B4_11 (r b : Int) (l : List (Int × Int)) (p q : Int) : B4 11 [.agg [.v (.int .i64 r), .v (.int .i64 b)], .ro 2 (asks l), .v (.int .i64 p), .v (.int .i64 q)] = some (True, .tup [.v (.int .i64 (sent r b l p q).1), .v (.int .i64 (sent r b l p q).2)]) :=
  (addB_same B3 11 (bookOf sentArgs sentOut) (sentArgs (r, b, l, p, q))).trans (bookOf_at sentArgs_inj (r, b, l, p, q))

/-! The plain law -/
def okAsks (b : Int) (l : List (Int × Int)) : Prop := ∀ x ∈ l, (0 ≤ x.1 ∧ x.1 ≤ 1000000000) ∧ 0 ≤ x.2 ∧ x.2 ≤ b
/-- One round of startsGo. -/
theorem startsGo_cons {r b : Int} (hr : 1 ≤ r) (x : Int × Int) (l : List (Int × Int)) (at_ hand : Int) (hh : 0 ≤ hand ∧ hand ≤ b) (hx : 0 ≤ x.2 ∧ x.2 ≤ b) : ∃ wt, 0 ≤ wt ∧ x.1 ≤ at_ + wt ∧ x.2 ≤ min b (hand + wt * r) ∧
    startsGo r b (x :: l) at_ hand = ((at_ + wt) :: (startsGo r b l (at_ + wt) (min b (hand + wt * r) - x.2)).1, (startsGo r b l (at_ + wt) (min b (hand + wt * r) - x.2)).2) := by
  refine ⟨_, ?_, ?_, ?_, rfl⟩
  · split <;> omega
  · split <;> omega
  · split
    · have h8 := Int.lt_ediv_add_one_mul_self (x.2 - hand + r - 1) (show 0 < r by omega)
      rw [Int.add_mul] at h8
      have := Int.mul_le_mul_of_nonneg_right (Int.le_max_right (max (x.1 - at_) 0) ((x.2 - hand + r - 1) / r)) (show 0 ≤ r by omega)
      omega
    · have := Int.mul_nonneg (Int.le_max_right (x.1 - at_) 0) (show 0 ≤ r by omega)
      omega
theorem startsGo_ge {r b : Int} (hr : 1 ≤ r) : ∀ (l : List (Int × Int)) (at_ hand : Int), 0 ≤ hand ∧ hand ≤ b → okAsks b l → ∀ x ∈ (startsGo r b l at_ hand).1, at_ ≤ x
  | [], _, _, _, _, x, hx => by cases hx
  | y :: l, at_, hand, hh, ho, x, hx => by
    have hy := ho y (List.mem_cons_self ..)
    obtain ⟨wt, h0, h1, h2, e⟩ := startsGo_cons hr y l at_ hand hh hy.2
    rw [e] at hx
    rcases List.mem_cons.1 hx with rfl | hx
    · omega
    · have := startsGo_ge hr l _ _ (by omega) (fun z hz => ho z (List.mem_cons_of_mem _ hz)) x hx
      omega
/-- Each starts when it asks or later, and not before the one before it. -/
theorem startsGo_each {r b : Int} (hr : 1 ≤ r) : ∀ (l : List (Int × Int)) (at_ hand : Int), 0 ≤ hand ∧ hand ≤ b → okAsks b l → ∀ (k : Nat) (x : Int) (y : Int × Int), (startsGo r b l at_ hand).1[k]? = some x → l[k]? = some y →
    y.1 ≤ x ∧ ∀ z, 0 < k → (startsGo r b l at_ hand).1[k - 1]? = some z → z ≤ x
  | [], _, _, _, _, k, x, y, hx, hy => by simp at hy
  | u :: l, at_, hand, hh, ho, k, x, y, hx, hy => by
    have hu := ho u (List.mem_cons_self ..)
    obtain ⟨wt, h0, h1, h2, e⟩ := startsGo_cons hr u l at_ hand hh hu.2
    have ho' : okAsks b l := fun z hz => ho z (List.mem_cons_of_mem _ hz)
    rw [e] at hx ⊢
    cases k with
    | zero =>
      simp at hx hy
      subst hx hy
      exact ⟨h1, fun z hz => absurd hz (Nat.lt_irrefl _)⟩
    | succ k =>
      simp only [List.getElem?_cons_succ] at hx hy
      obtain ⟨h3, h4⟩ := startsGo_each hr l _ _ (by omega) ho' k x y hx hy
      refine ⟨h3, fun z _ hz => ?_⟩
      cases k with
      | zero =>
        simp at hz
        subst hz
        exact startsGo_ge hr l _ _ (by omega) ho' x (List.mem_of_getElem? hx)
      | succ k => exact h4 z (by omega) (by simpa using hz)
theorem sent_late {r b p q : Int} (hr : 1 ≤ r) : ∀ (l : List (Int × Int)) (at_ hand : Int), 0 ≤ hand ∧ hand ≤ b → okAsks b l → q ≤ at_ → sentGo p q (startsGo r b l at_ hand).1 l = 0
  | [], _, _, _, _, _ => rfl
  | y :: l, at_, hand, hh, ho, hq => by
    have hy := ho y (List.mem_cons_self ..)
    obtain ⟨wt, h0, h1, h2, e⟩ := startsGo_cons hr y l at_ hand hh hy.2
    rw [e]
    simp only [sentGo]
    rw [if_neg (by omega), sent_late hr l _ _ (by omega) (fun z hz => ho z (List.mem_cons_of_mem _ hz)) (by omega)]
    rfl
theorem sent_in {r b p q : Int} (hr : 1 ≤ r) : ∀ (l : List (Int × Int)) (at_ hand : Int), 0 ≤ hand ∧ hand ≤ b → okAsks b l → p ≤ at_ → at_ < q → sentGo p q (startsGo r b l at_ hand).1 l ≤ hand + (q - at_) * r
  | [], at_, hand, hh, _, _, hq => by
    have := Int.mul_nonneg (show 0 ≤ q - at_ by omega) (show 0 ≤ r by omega)
    simp only [startsGo, sentGo]; omega
  | y :: l, at_, hand, hh, ho, hp, hq => by
    have hy := ho y (List.mem_cons_self ..)
    obtain ⟨wt, h0, h1, h2, e⟩ := startsGo_cons hr y l at_ hand hh hy.2
    have ho' : okAsks b l := fun z hz => ho z (List.mem_cons_of_mem _ hz)
    rw [e]
    simp only [sentGo]
    by_cases hlt : at_ + wt < q
    · rw [if_pos (by omega)]
      have := sent_in (p := p) hr l (at_ + wt) (min b (hand + wt * r) - y.2) (by omega) ho' (by omega) hlt
      have e2 : (q - at_) * r = wt * r + (q - (at_ + wt)) * r := by rw [← Int.add_mul]; congr 1; omega
      omega
    · rw [if_neg (by omega), sent_late hr l _ _ (by omega) ho' (by omega)]
      have := Int.mul_nonneg (show 0 ≤ q - at_ by omega) (show 0 ≤ r by omega)
      omega
theorem sent_before {r b p q : Int} (hr : 1 ≤ r) (hb : 0 ≤ b) (hpq : p < q) : ∀ (l : List (Int × Int)) (at_ hand : Int), 0 ≤ hand ∧ hand ≤ b → okAsks b l → at_ ≤ p → sentGo p q (startsGo r b l at_ hand).1 l ≤ b + (q - p) * r
  | [], at_, hand, hh, _, _ => by
    have := Int.mul_nonneg (show 0 ≤ q - p by omega) (show 0 ≤ r by omega)
    simp only [startsGo, sentGo]; omega
  | y :: l, at_, hand, hh, ho, hp => by
    have hy := ho y (List.mem_cons_self ..)
    obtain ⟨wt, h0, h1, h2, e⟩ := startsGo_cons hr y l at_ hand hh hy.2
    have ho' : okAsks b l := fun z hz => ho z (List.mem_cons_of_mem _ hz)
    have hn := Int.mul_nonneg (show 0 ≤ q - p by omega) (show 0 ≤ r by omega)
    rw [e]
    simp only [sentGo]
    by_cases h3 : at_ + wt < p
    · rw [if_neg (by omega)]
      have := sent_before hr hb hpq l (at_ + wt) (min b (hand + wt * r) - y.2) (by omega) ho' (by omega)
      omega
    · by_cases hlt : at_ + wt < q
      · rw [if_pos (by omega)]
        have := sent_in (p := p) hr l (at_ + wt) (min b (hand + wt * r) - y.2) (by omega) ho' (by omega) hlt
        have h4 : (q - (at_ + wt)) * r ≤ (q - p) * r := Int.mul_le_mul_of_nonneg_right (by omega) (by omega)
        omega
      · rw [if_neg (by omega), sent_late hr l _ _ (by omega) ho' (by omega)]
        omega
end Go.Proofs.Ytpeiomhgaembaaa
