/-
  What the program's functions that the laws of this seat reach compute, as plain functions: printed by a program, each checked by the kernel. No condition.
-/
import Derived.Test.YtpeiomhgaembaaaTypes
set_option linter.unusedVariables false
set_option maxRecDepth 100000
namespace Go.Proofs.Ytpeiomhgaembaaa
open Go Go.Proofs.Ytpeiomhgaembaaa.Eng
def bs_ : ByteArray := ⟨#[]⟩
noncomputable def wire_within.f (a0 : Int) (a1 : Int) (a2 : Int) : Option Bool :=
 (cb (decide (a1 ≤ a0)) (some (decide (a0 ≤ a2))) (some false))
noncomputable def wire_within.fn : TFn := ⟨[(.int .i64), (.int .i64), (.int .i64)], [.bool], fun x => wire_within.f x.1 x.2.1 x.2.2⟩
noncomputable def wire_within.C : Cx := ⟨T, TYt, lkF [], lkO [], lkD [], lkP [], [], [], false, [], [], lkS [], 15⟩
theorem wire_within.hC : CxOK Try.prog wire_within.C := ⟨tabOK, FsOK.nil, OsOK.nil, mixed, (fun t h => by cases h), (fun t e h => by cases h), SsOK.nil⟩
noncomputable def wire_within.root : Code := bodyOf Try.f34
theorem wire_within.ok : FnOK Try.prog 34 wire_within.fn :=
 FnOK.of (L := lkL []) (root := wire_within.root) wire_within.hC (enters_of (c := wire_within.root) Try.func34 (by kernel_rfl) (by kernel_rfl)) Try.func34 (by kernel_rfl) (rs := [.tmp 6]) (by kernel_rfl) (by kernel_rfl) LsOK.nil (fun x => by kernel_rfl)
noncomputable def slices_Clone_api_Span_api_Span.f (a0 : (List (Int × Int))) : Option (List (Int × Int)) :=
 (nq (¬ a0 = ([] : List (Int × Int))) (ck ((List.length ([] : List (Int × Int)) + List.length a0) * 16 ≤ 140737488355328) (some (([] : List (Int × Int)) ++ a0))) (some ([] : List (Int × Int))))
noncomputable def slices_Clone_api_Span_api_Span.fn : TFn := ⟨[(.slice (.pair (.int .i64) (.int .i64)))], [(.slice (.pair (.int .i64) (.int .i64)))], fun x => slices_Clone_api_Span_api_Span.f x⟩
noncomputable def slices_Clone_api_Span_api_Span.C : Cx := ⟨T, TYt, lkF [], lkO [], lkD [], lkP [], [], [], false, [], [], lkS [], 8⟩
theorem slices_Clone_api_Span_api_Span.hC : CxOK Try.prog slices_Clone_api_Span_api_Span.C := ⟨tabOK, FsOK.nil, OsOK.nil, mixed, (fun t h => by cases h), (fun t e h => by cases h), SsOK.nil⟩
noncomputable def slices_Clone_api_Span_api_Span.root : Code := bodyOf Try.f28
theorem slices_Clone_api_Span_api_Span.ok : FnOK Try.prog 28 slices_Clone_api_Span_api_Span.fn :=
 FnOK.of (L := lkL []) (root := slices_Clone_api_Span_api_Span.root) slices_Clone_api_Span_api_Span.hC (enters_of (c := slices_Clone_api_Span_api_Span.root) Try.func28 (by kernel_rfl) (by kernel_rfl)) Try.func28 (by kernel_rfl) (rs := [.tmp 2]) (by kernel_rfl) (by kernel_rfl) LsOK.nil (fun x => by kernel_rfl)
noncomputable def wire_Ranges_1.f (a0 : (Int × Int)) (a1 : (Int × Int)) : Option Int :=
 (ck (InR (a0.1 - a1.1)) (some (a0.1 - a1.1)))
noncomputable def wire_Ranges_1.fn : TFn := ⟨[(.pair (.int .i64) (.int .i64)), (.pair (.int .i64) (.int .i64))], [(.int .i64)], fun x => wire_Ranges_1.f x.1 x.2⟩
noncomputable def wire_Ranges_1.C : Cx := ⟨T, TYt, lkF [], lkO [], lkD [], lkP [], [2, 3], [], false, [], [], lkS [], 10⟩
theorem wire_Ranges_1.hC : CxOK Try.prog wire_Ranges_1.C := ⟨tabOK, FsOK.nil, OsOK.nil, mixed, (fun t h => by cases h), (fun t e h => by cases h), SsOK.nil⟩
noncomputable def wire_Ranges_1.root : Code := bodyOf Try.f43
theorem wire_Ranges_1.ok : FnOK Try.prog 43 wire_Ranges_1.fn :=
 FnOK.of (L := lkL []) (root := wire_Ranges_1.root) wire_Ranges_1.hC (enters_of (c := wire_Ranges_1.root) Try.func43 (by kernel_rfl) (by kernel_rfl)) Try.func43 (by kernel_rfl) (rs := [.tmp 4]) (by kernel_rfl) (by kernel_rfl) LsOK.nil (fun x => by kernel_rfl)
noncomputable def wire_joined.s0 (v0_7 : (List (Int × Int))) (v0_8 : Int) (x0_9 : Int) (o0_0 : (List (Int × Int))) : Option ((Int × (List (Int × Int))) ⊕ (List (Int × Int))) :=
 (cb (decide (x0_9 < v0_8)) (ck (0 ≤ x0_9 ∧ x0_9 < ((List.length v0_7 : Nat) : Int)) (let y6 : (Int × Int) := (rd ((0 : Int), (0 : Int)) v0_7 x0_9); (let y7 : Int := ((List.length o0_0 : Nat) : Int); (ck (InR (y7 - (1 : Int))) (cb (decide ((0 : Int) ≤ (y7 - (1 : Int)))) (ck (0 ≤ (y7 - (1 : Int)) ∧ (y7 - (1 : Int)) < ((List.length o0_0 : Nat) : Int)) (ck ((Int.toNat (y7 - (1 : Int))) < List.length o0_0) (let y8 : Int := (List.getD o0_0 (Int.toNat (y7 - (1 : Int))) ((0 : Int), (0 : Int))).2; (cb (decide (y6.1 ≤ y8)) (ck (0 ≤ (y7 - (1 : Int)) ∧ (y7 - (1 : Int)) < ((List.length o0_0 : Nat) : Int)) (ck ((Int.toNat (y7 - (1 : Int))) < List.length o0_0) (let y9 : Int := (List.getD o0_0 (Int.toNat (y7 - (1 : Int))) ((0 : Int), (0 : Int))).2; (ck (0 ≤ (y7 - (1 : Int)) ∧ (y7 - (1 : Int)) < ((List.length o0_0 : Nat) : Int)) (ck ((Int.toNat (y7 - (1 : Int))) < List.length o0_0) (ck (InR (x0_9 + (1 : Int))) (some (.inl ((x0_9 + (1 : Int)), (List.set o0_0 (Int.toNat (y7 - (1 : Int))) ((List.getD o0_0 (Int.toNat (y7 - (1 : Int))) ((0 : Int), (0 : Int))).1, (max y9 y6.2)))))))))))) (ck ((List.length o0_0 + List.length ([y6] : List (Int × Int))) * 16 ≤ 140737488355328) (ck (InR (x0_9 + (1 : Int))) (some (.inl ((x0_9 + (1 : Int)), (o0_0 ++ ([y6] : List (Int × Int)))))))))))) (ck ((List.length o0_0 + List.length ([y6] : List (Int × Int))) * 16 ≤ 140737488355328) (ck (InR (x0_9 + (1 : Int))) (some (.inl ((x0_9 + (1 : Int)), (o0_0 ++ ([y6] : List (Int × Int))))))))))))) (some (.inr o0_0)))
noncomputable def wire_joined.l0 (v0_7 : (List (Int × Int))) (v0_8 : Int) (x0_9 : Int) (o0_0 : (List (Int × Int))) : Option (List (Int × Int)) :=
 loopX (fun (x : (Int × (List (Int × Int)))) => wire_joined.s0 v0_7 v0_8 x.1 x.2) (x0_9, o0_0)
noncomputable def wire_joined.e0 : Ent where
 pre := [.nil 3 58 (.pair (.int .i64) (.int .i64))]
 inv := [(7, .val (.slice (.pair (.int .i64) (.int .i64)))), (8, .val (.int .i64))]
 car := ⟨[(3, .own 0 2), (9, .val (.int .i64))], [.row 58 (.pair (.int .i64) (.int .i64))]⟩
 exits := [(.exit 0, ⟨[(3, .own 0 2)], [.row 58 (.pair (.int .i64) (.int .i64))]⟩)]
 step := fun iv x => wire_joined.s0 iv.1 iv.2 x.1 x.2
noncomputable def wire_joined.f (a0 : (List (Int × Int))) : Option (List (Int × Int)) :=
 (let y1 : Int := ((List.length a0 : Nat) : Int); (ob (wire_joined.l0 a0 y1 (0 : Int) ([] : List (Int × Int))) fun r10 => (some r10)))
noncomputable def wire_joined.fn : TFn := ⟨[(.slice (.pair (.int .i64) (.int .i64)))], [(.slice (.pair (.int .i64) (.int .i64)))], fun x => wire_joined.f x⟩
noncomputable def wire_joined.C : Cx := ⟨T, TYt, lkF [], lkO [], lkD [(6, 10, [(0, true), (1, true), (2, true), (3, true), (4, true), (5, true), (6, true), (7, true), (8, true), (9, true)], none), (7, 10, [(0, true), (1, true), (2, true), (3, true), (4, true), (5, true), (6, true), (7, true), (8, true), (9, true)], none)], lkP [], [5], [], false, [], [], lkS [], 46⟩
theorem wire_joined.hC : CxOK Try.prog wire_joined.C := ⟨tabOK, FsOK.nil, OsOK.nil, mixed, (fun t h => by cases h), (fun t e h => by cases h), SsOK.nil⟩
noncomputable def wire_joined.root : Code := bodyOf Try.f44
theorem wire_joined.h0 : LsOK Try.prog wire_joined.C wire_joined.root (lkL [([0, 1, 0, 1, 1], wire_joined.e0)]) :=
 LsOK.cons wire_joined.hC (LsOK.nil) (by kernel_rfl) (fun iv x => by kernel_rfl)
theorem wire_joined.ok : FnOK Try.prog 44 wire_joined.fn :=
 FnOK.of (L := lkL [([0, 1, 0, 1, 1], wire_joined.e0)]) (root := wire_joined.root) wire_joined.hC (enters_of (c := wire_joined.root) Try.func44 (by kernel_rfl) (by kernel_rfl)) Try.func44 (by kernel_rfl) (rs := [.tmp 2]) (by kernel_rfl) (by kernel_rfl) wire_joined.h0 (fun x => by kernel_rfl)
noncomputable def slices_Clone_api_Span_api_Span_o.f (a0 : (List (Int × Int))) : Option (List (Int × Int)) :=
 (nq (¬ a0 = ([] : List (Int × Int))) (ck ((List.length ([] : List (Int × Int)) + List.length a0) * 16 ≤ 140737488355328) (some (([] : List (Int × Int)) ++ a0))) (some ([] : List (Int × Int))))
noncomputable def slices_Clone_api_Span_api_Span_o.fn : TFo := ⟨[(.slice (.pair (.int .i64) (.int .i64)))], [(.slice (.pair (.int .i64) (.int .i64)))], [some 58], fun x => slices_Clone_api_Span_api_Span_o.f x⟩
noncomputable def slices_Clone_api_Span_api_Span_o.C : Cx := ⟨T, TYt, lkF [], lkO [], lkD [], lkP [], [], [], false, [], [], lkS [], 8⟩
theorem slices_Clone_api_Span_api_Span_o.hC : CxOK Try.prog slices_Clone_api_Span_api_Span_o.C := ⟨tabOK, FsOK.nil, OsOK.nil, mixed, (fun t h => by cases h), (fun t e h => by cases h), SsOK.nil⟩
noncomputable def slices_Clone_api_Span_api_Span_o.root : Code := bodyOf Try.f28
theorem slices_Clone_api_Span_api_Span_o.ok : FnOKo Try.prog 28 slices_Clone_api_Span_api_Span_o.fn :=
 FnOKo.of (L := lkL []) (root := slices_Clone_api_Span_api_Span_o.root) slices_Clone_api_Span_api_Span_o.hC (enters_of (c := slices_Clone_api_Span_api_Span_o.root) Try.func28 (by kernel_rfl) (by kernel_rfl)) Try.func28 (by kernel_rfl) (rs := [.tmp 2]) (by kernel_rfl) (by kernel_rfl) LsOK.nil (fun x => by kernel_rfl)
noncomputable def wire_joined_o.s0 (v0_7 : (List (Int × Int))) (v0_8 : Int) (x0_9 : Int) (o0_0 : (List (Int × Int))) : Option ((Int × (List (Int × Int))) ⊕ (List (Int × Int))) :=
 (cb (decide (x0_9 < v0_8)) (ck (0 ≤ x0_9 ∧ x0_9 < ((List.length v0_7 : Nat) : Int)) (let y6 : (Int × Int) := (rd ((0 : Int), (0 : Int)) v0_7 x0_9); (let y7 : Int := ((List.length o0_0 : Nat) : Int); (ck (InR (y7 - (1 : Int))) (cb (decide ((0 : Int) ≤ (y7 - (1 : Int)))) (ck (0 ≤ (y7 - (1 : Int)) ∧ (y7 - (1 : Int)) < ((List.length o0_0 : Nat) : Int)) (ck ((Int.toNat (y7 - (1 : Int))) < List.length o0_0) (let y8 : Int := (List.getD o0_0 (Int.toNat (y7 - (1 : Int))) ((0 : Int), (0 : Int))).2; (cb (decide (y6.1 ≤ y8)) (ck (0 ≤ (y7 - (1 : Int)) ∧ (y7 - (1 : Int)) < ((List.length o0_0 : Nat) : Int)) (ck ((Int.toNat (y7 - (1 : Int))) < List.length o0_0) (let y9 : Int := (List.getD o0_0 (Int.toNat (y7 - (1 : Int))) ((0 : Int), (0 : Int))).2; (ck (0 ≤ (y7 - (1 : Int)) ∧ (y7 - (1 : Int)) < ((List.length o0_0 : Nat) : Int)) (ck ((Int.toNat (y7 - (1 : Int))) < List.length o0_0) (ck (InR (x0_9 + (1 : Int))) (some (.inl ((x0_9 + (1 : Int)), (List.set o0_0 (Int.toNat (y7 - (1 : Int))) ((List.getD o0_0 (Int.toNat (y7 - (1 : Int))) ((0 : Int), (0 : Int))).1, (max y9 y6.2)))))))))))) (ck ((List.length o0_0 + List.length ([y6] : List (Int × Int))) * 16 ≤ 140737488355328) (ck (InR (x0_9 + (1 : Int))) (some (.inl ((x0_9 + (1 : Int)), (o0_0 ++ ([y6] : List (Int × Int)))))))))))) (ck ((List.length o0_0 + List.length ([y6] : List (Int × Int))) * 16 ≤ 140737488355328) (ck (InR (x0_9 + (1 : Int))) (some (.inl ((x0_9 + (1 : Int)), (o0_0 ++ ([y6] : List (Int × Int))))))))))))) (some (.inr o0_0)))
noncomputable def wire_joined_o.l0 (v0_7 : (List (Int × Int))) (v0_8 : Int) (x0_9 : Int) (o0_0 : (List (Int × Int))) : Option (List (Int × Int)) :=
 loopX (fun (x : (Int × (List (Int × Int)))) => wire_joined_o.s0 v0_7 v0_8 x.1 x.2) (x0_9, o0_0)
noncomputable def wire_joined_o.e0 : Ent where
 pre := [.nil 3 58 (.pair (.int .i64) (.int .i64))]
 inv := [(7, .val (.slice (.pair (.int .i64) (.int .i64)))), (8, .val (.int .i64))]
 car := ⟨[(3, .own 0 2), (9, .val (.int .i64))], [.row 58 (.pair (.int .i64) (.int .i64))]⟩
 exits := [(.exit 0, ⟨[(3, .own 0 2)], [.row 58 (.pair (.int .i64) (.int .i64))]⟩)]
 step := fun iv x => wire_joined_o.s0 iv.1 iv.2 x.1 x.2
noncomputable def wire_joined_o.f (a0 : (List (Int × Int))) : Option (List (Int × Int)) :=
 (let y1 : Int := ((List.length a0 : Nat) : Int); (ob (wire_joined_o.l0 a0 y1 (0 : Int) ([] : List (Int × Int))) fun r10 => (some r10)))
noncomputable def wire_joined_o.fn : TFo := ⟨[(.slice (.pair (.int .i64) (.int .i64)))], [(.slice (.pair (.int .i64) (.int .i64)))], [some 58], fun x => wire_joined_o.f x⟩
noncomputable def wire_joined_o.C : Cx := ⟨T, TYt, lkF [], lkO [], lkD [(6, 10, [(0, true), (1, true), (2, true), (3, true), (4, true), (5, true), (6, true), (7, true), (8, true), (9, true)], none), (7, 10, [(0, true), (1, true), (2, true), (3, true), (4, true), (5, true), (6, true), (7, true), (8, true), (9, true)], none)], lkP [], [5], [], false, [], [], lkS [], 46⟩
theorem wire_joined_o.hC : CxOK Try.prog wire_joined_o.C := ⟨tabOK, FsOK.nil, OsOK.nil, mixed, (fun t h => by cases h), (fun t e h => by cases h), SsOK.nil⟩
noncomputable def wire_joined_o.root : Code := bodyOf Try.f44
theorem wire_joined_o.h0 : LsOK Try.prog wire_joined_o.C wire_joined_o.root (lkL [([0, 1, 0, 1, 1], wire_joined_o.e0)]) :=
 LsOK.cons wire_joined_o.hC (LsOK.nil) (by kernel_rfl) (fun iv x => by kernel_rfl)
theorem wire_joined_o.ok : FnOKo Try.prog 44 wire_joined_o.fn :=
 FnOKo.of (L := lkL [([0, 1, 0, 1, 1], wire_joined_o.e0)]) (root := wire_joined_o.root) wire_joined_o.hC (enters_of (c := wire_joined_o.root) Try.func44 (by kernel_rfl) (by kernel_rfl)) Try.func44 (by kernel_rfl) (rs := [.tmp 2]) (by kernel_rfl) (by kernel_rfl) wire_joined_o.h0 (fun x => by kernel_rfl)
noncomputable def wire_Ranges.s0 (v0_0 : Int) (v0_19 : (List (Int × Int))) (v0_20 : Int) (x0_21 : Int) : Option (Int ⊕ (((List (Int × Int)) × Int) ⊕ Unit)) :=
 (cb (decide (x0_21 < v0_20)) (ck (0 ≤ x0_21 ∧ x0_21 < ((List.length v0_19 : Nat) : Int)) (let y7 : (Int × Int) := (rd ((0 : Int), (0 : Int)) v0_19 x0_21); (ob (wire_within.f y7.1 (0 : Int) v0_0) fun r8 => (cb (!r8) (some (.inr (.inl (([] : List (Int × Int)), (1 : Int))))) (ob (wire_within.f y7.2 y7.1 v0_0) fun r9 => (cb (!r9) (some (.inr (.inl (([] : List (Int × Int)), (1 : Int))))) (ck (InR (x0_21 + (1 : Int))) (some (.inl (x0_21 + (1 : Int))))))))))) (some (.inr (.inr ()))))
noncomputable def wire_Ranges.l0 (v0_0 : Int) (v0_19 : (List (Int × Int))) (v0_20 : Int) (x0_21 : Int) : Option (((List (Int × Int)) × Int) ⊕ Unit) :=
 loopX (fun (x : Int) => wire_Ranges.s0 v0_0 v0_19 v0_20 x) x0_21
noncomputable def wire_Ranges.e0 : Ent where
 pre := []
 inv := [(0, .val (.int .i64)), (1, .val (.slice (.pair (.int .i64) (.int .i64)))), (19, .val (.slice (.pair (.int .i64) (.int .i64)))), (20, .val (.int .i64))]
 car := ⟨[(21, .val (.int .i64))], []⟩
 exits := [(.ret, ⟨[(4, .val (.slice (.pair (.int .i64) (.int .i64)))), (5, .val (.int .i64))], []⟩), (.exit 0, ⟨[], []⟩)]
 step := fun iv x => wire_Ranges.s0 iv.1 iv.2.2.1 iv.2.2.2 x
noncomputable def wire_Ranges.s1 (v1_0 : Int) (v1_50 : Int) (x1_10 : Int) (x1_51 : Int) (o1_0 : (List (Int × Int))) (o1_1 : (List (Int × Int))) (o1_2 : (List (Int × Int))) : Option ((Int × (Int × ((List (Int × Int)) × ((List (Int × Int)) × (List (Int × Int)))))) ⊕ ((List (Int × Int)) × ((List (Int × Int)) × (List (Int × Int))))) :=
 (cb (decide (x1_51 < v1_50)) (ck (0 ≤ x1_51 ∧ x1_51 < ((List.length o1_0 : Nat) : Int)) (ck ((Int.toNat x1_51) < List.length o1_0) (let y16 : (Int × Int) := (List.getD o1_0 (Int.toNat x1_51) ((0 : Int), (0 : Int))); (cb (decide (x1_10 < y16.1)) (ck ((List.length o1_2 + List.length ([(x1_10, y16.1)] : List (Int × Int))) * 16 ≤ 140737488355328) (cb (decide (y16.1 < y16.2)) (ck (InR (x1_51 + (1 : Int))) (some (.inl ((max x1_10 y16.2), (x1_51 + (1 : Int)), o1_0, o1_1, (o1_2 ++ ([(x1_10, y16.1)] : List (Int × Int))))))) (cb (decide (y16.1 = v1_0)) (some (.inr (o1_0, o1_1, (o1_2 ++ ([(x1_10, y16.1)] : List (Int × Int)))))) (ck (InR (x1_51 + (1 : Int))) (some (.inl (x1_10, (x1_51 + (1 : Int)), o1_0, o1_1, (o1_2 ++ ([(x1_10, y16.1)] : List (Int × Int)))))))))) (cb (decide (y16.1 < y16.2)) (ck (InR (x1_51 + (1 : Int))) (some (.inl ((max x1_10 y16.2), (x1_51 + (1 : Int)), o1_0, o1_1, o1_2)))) (cb (decide (y16.1 = v1_0)) (some (.inr (o1_0, o1_1, o1_2))) (ck (InR (x1_51 + (1 : Int))) (some (.inl (x1_10, (x1_51 + (1 : Int)), o1_0, o1_1, o1_2)))))))))) (some (.inr (o1_0, o1_1, o1_2))))
noncomputable def wire_Ranges.l1 (v1_0 : Int) (v1_50 : Int) (x1_10 : Int) (x1_51 : Int) (o1_0 : (List (Int × Int))) (o1_1 : (List (Int × Int))) (o1_2 : (List (Int × Int))) : Option ((List (Int × Int)) × ((List (Int × Int)) × (List (Int × Int)))) :=
 loopX (fun (x : (Int × (Int × ((List (Int × Int)) × ((List (Int × Int)) × (List (Int × Int))))))) => wire_Ranges.s1 v1_0 v1_50 x.1 x.2.1 x.2.2.1 x.2.2.2.1 x.2.2.2.2) (x1_10, x1_51, o1_0, o1_1, o1_2)
noncomputable def wire_Ranges.e1 : Ent where
 pre := [.nil 9 58 (.pair (.int .i64) (.int .i64))]
 inv := [(0, .val (.int .i64)), (50, .val (.int .i64))]
 car := ⟨[(9, .own 2 2), (10, .val (.int .i64)), (49, .own 0 2), (51, .val (.int .i64))], [.row 58 (.pair (.int .i64) (.int .i64)), .row 58 (.pair (.int .i64) (.int .i64)), .row 58 (.pair (.int .i64) (.int .i64))]⟩
 exits := [(.exit 2, ⟨[(9, .own 2 2)], [.row 58 (.pair (.int .i64) (.int .i64)), .row 58 (.pair (.int .i64) (.int .i64)), .row 58 (.pair (.int .i64) (.int .i64))]⟩)]
 step := fun iv x => wire_Ranges.s1 iv.1 iv.2 x.1 x.2.1 x.2.2.1 x.2.2.2.1 x.2.2.2.2
noncomputable def wire_Ranges.f (a0 : Int) (a1 : (List (Int × Int))) : Option ((List (Int × Int)) × Int) :=
 (ob (wire_within.f a0 (0 : Int) (2000000 : Int)) fun r1 => (cb (!r1) (some (([] : List (Int × Int)), (1 : Int))) (let y2 : Int := ((List.length a1 : Nat) : Int); (cb (decide ((20000 : Int) < y2)) (some (([] : List (Int × Int)), (2 : Int))) (let y3 : Int := ((List.length a1 : Nat) : Int); (ob (wire_Ranges.l0 a0 a1 y3 (0 : Int)) fun r10 => (caseS r10 (fun a11 => (some (a11.1, a11.2))) (fun b12 => (ob (slices_Clone_api_Span_api_Span_o.f a1) fun r13 => (ck (Option.isSome (srt_42_43_run r13) = true) (ck ((List.length (Option.getD (srt_42_43_run r13) []) + List.length ([(a0, a0)] : List (Int × Int))) * 16 ≤ 140737488355328) (let y14 : Int := ((List.length ((Option.getD (srt_42_43_run r13) []) ++ ([(a0, a0)] : List (Int × Int))) : Nat) : Int); (ob (wire_Ranges.l1 a0 y14 (0 : Int) (0 : Int) ((Option.getD (srt_42_43_run r13) []) ++ ([(a0, a0)] : List (Int × Int))) ([(a0, a0)] : List (Int × Int)) ([] : List (Int × Int))) fun r17 => (ob (wire_joined.f r17.2.2) fun r18 => (some (r18, (0 : Int)))))))))))))))))
noncomputable def wire_Ranges.fn : TFn := ⟨[(.int .i64), (.slice (.pair (.int .i64) (.int .i64)))], [(.slice (.pair (.int .i64) (.int .i64))), (.int .i64)], fun x => wire_Ranges.f x.1 x.2⟩
noncomputable def wire_Ranges.C : Cx := ⟨T, TYt, lkF [((34, [0, 0, 0]), wire_within.fn), ((44, [0]), wire_joined.fn)], lkO [((28, [0]), slices_Clone_api_Span_api_Span_o.fn)], lkD [], lkP [], [7, 12], [], false, [], [], lkS [((42, 43), srt_42_43)], 82⟩
theorem wire_Ranges.hC : CxOK Try.prog wire_Ranges.C := ⟨tabOK, FsOK.cons wire_within.ok (FsOK.cons wire_joined.ok (FsOK.nil)), OsOK.cons slices_Clone_api_Span_api_Span_o.ok (OsOK.nil), mixed, (fun t h => by cases h), (fun t e h => by cases h), (SsOK.cons srt_42_43_ok (SsOK.nil))⟩
noncomputable def wire_Ranges.root : Code := bodyOf Try.f27
theorem wire_Ranges.h0 : LsOK Try.prog wire_Ranges.C wire_Ranges.root (lkL [([0, 1, 0, 1, 1, 1], wire_Ranges.e0)]) :=
 LsOK.cons wire_Ranges.hC (LsOK.nil) (by kernel_rfl) (fun iv x => by kernel_rfl)
theorem wire_Ranges.h1 : LsOK Try.prog wire_Ranges.C wire_Ranges.root (lkL [([0, 1, 0, 1, 1, 1, 1, 1, 1, 1, 1], wire_Ranges.e1), ([0, 1, 0, 1, 1, 1], wire_Ranges.e0)]) :=
 LsOK.cons wire_Ranges.hC (wire_Ranges.h0) (by kernel_rfl) (fun iv x => by kernel_rfl)
theorem wire_Ranges.ok : FnOK Try.prog 27 wire_Ranges.fn :=
 FnOK.of (L := lkL [([0, 1, 0, 1, 1, 1, 1, 1, 1, 1, 1], wire_Ranges.e1), ([0, 1, 0, 1, 1, 1], wire_Ranges.e0)]) (root := wire_Ranges.root) wire_Ranges.hC (enters_of (c := wire_Ranges.root) Try.func27 (by kernel_rfl) (by kernel_rfl)) Try.func27 (by kernel_rfl) (rs := [.tmp 4, .tmp 5]) (by kernel_rfl) (by kernel_rfl) wire_Ranges.h1 (fun x => by kernel_rfl)
noncomputable def wire_CheckQuota.f (a0 : (Int × Int)) : Option Int :=
 (ob (wire_within.f a0.1 (1 : Int) (1000000000 : Int)) fun r1 => (cb (!r1) (some (1 : Int)) (ob (wire_within.f a0.2 (1 : Int) (1000000000 : Int)) fun r2 => (cb (!r2) (some (1 : Int)) (some (0 : Int))))))
noncomputable def wire_CheckQuota.fn : TFn := ⟨[(.pair (.int .i64) (.int .i64))], [(.int .i64)], fun x => wire_CheckQuota.f x⟩
noncomputable def wire_CheckQuota.C : Cx := ⟨T, TYt, lkF [((34, [0, 0, 0]), wire_within.fn)], lkO [], lkD [], lkP [], [1], [], false, [], [], lkS [], 13⟩
theorem wire_CheckQuota.hC : CxOK Try.prog wire_CheckQuota.C := ⟨tabOK, FsOK.cons wire_within.ok (FsOK.nil), OsOK.nil, mixed, (fun t h => by cases h), (fun t e h => by cases h), SsOK.nil⟩
noncomputable def wire_CheckQuota.root : Code := bodyOf Try.f14
theorem wire_CheckQuota.ok : FnOK Try.prog 14 wire_CheckQuota.fn :=
 FnOK.of (L := lkL []) (root := wire_CheckQuota.root) wire_CheckQuota.hC (enters_of (c := wire_CheckQuota.root) Try.func14 (by kernel_rfl) (by kernel_rfl)) Try.func14 (by kernel_rfl) (rs := [.tmp 2]) (by kernel_rfl) (by kernel_rfl) LsOK.nil (fun x => by kernel_rfl)
noncomputable def wire_Starts.s0 (v0_1 : (List (Int × Int))) (v0_2 : (Int × Int)) (v0_24 : (List (Int × Int))) (v0_25 : Int) (x0_26 : Int) : Option (Int ⊕ (((List Int) × Int) ⊕ Unit)) :=
 (cb (decide (x0_26 < v0_25)) (ck (0 ≤ x0_26 ∧ x0_26 < ((List.length v0_24 : Nat) : Int)) (let y8 : (Int × Int) := (rd ((0 : Int), (0 : Int)) v0_24 x0_26); (ob (wire_within.f y8.1 (0 : Int) (1000000000 : Int)) fun r9 => (cb (!r9) (some (.inr (.inl (([] : List Int), (1 : Int))))) (ob (wire_within.f y8.2 (0 : Int) v0_2.2) fun r10 => (cb (!r10) (some (.inr (.inl (([] : List Int), (1 : Int))))) (cb (decide ((0 : Int) < x0_26)) (ck (InR (x0_26 - (1 : Int))) (ck (0 ≤ (x0_26 - (1 : Int)) ∧ (x0_26 - (1 : Int)) < ((List.length v0_1 : Nat) : Int)) (let y11 : Int := (rd ((0 : Int), (0 : Int)) v0_1 (x0_26 - (1 : Int))).1; (cb (decide (y8.1 < y11)) (some (.inr (.inl (([] : List Int), (8 : Int))))) (ck (InR (x0_26 + (1 : Int))) (some (.inl (x0_26 + (1 : Int))))))))) (ck (InR (x0_26 + (1 : Int))) (some (.inl (x0_26 + (1 : Int)))))))))))) (some (.inr (.inr ()))))
noncomputable def wire_Starts.l0 (v0_1 : (List (Int × Int))) (v0_2 : (Int × Int)) (v0_24 : (List (Int × Int))) (v0_25 : Int) (x0_26 : Int) : Option (((List Int) × Int) ⊕ Unit) :=
 loopX (fun (x : Int) => wire_Starts.s0 v0_1 v0_2 v0_24 v0_25 x) x0_26
noncomputable def wire_Starts.e0 : Ent where
 pre := []
 inv := [(1, .val (.slice (.pair (.int .i64) (.int .i64)))), (2, .rp (.pair (.int .i64) (.int .i64))), (24, .val (.slice (.pair (.int .i64) (.int .i64)))), (25, .val (.int .i64))]
 car := ⟨[(26, .val (.int .i64))], []⟩
 exits := [(.ret, ⟨[(4, .val (.slice (.int .i64))), (5, .val (.int .i64))], []⟩), (.exit 0, ⟨[], []⟩)]
 step := fun iv x => wire_Starts.s0 iv.1 iv.2.1 iv.2.2.1 iv.2.2.2 x
noncomputable def wire_Starts.s1 (v1_2 : (Int × Int)) (v1_59 : (List (Int × Int))) (v1_60 : Int) (x1_10 : Int) (x1_11 : Int) (x1_61 : Int) (o1_0 : (List Int)) : Option ((Int × (Int × (Int × (List Int)))) ⊕ (Int × (List Int))) :=
 (cb (decide (x1_61 < v1_60)) (ck (0 ≤ x1_61 ∧ x1_61 < ((List.length v1_59 : Nat) : Int)) (let y23 : (Int × Int) := (rd ((0 : Int), (0 : Int)) v1_59 x1_61); (ck (InR (y23.1 - x1_10)) (let y24 : Int := (max (y23.1 - x1_10) (0 : Int)); (ck (InR (y23.2 - x1_11)) (cb (decide ((0 : Int) < (y23.2 - x1_11))) (ck (InR ((y23.2 - x1_11) + v1_2.1)) (let y25 : Int := ((y23.2 - x1_11) + v1_2.1); (ck (InR (y25 - (1 : Int))) (ck (0 ≤ (y25 - (1 : Int)) ∧ 0 < v1_2.1 ∧ (y25 - (1 : Int)) ≤ 9223372036854775807) (let y26 : Int := ((y25 - (1 : Int)) / v1_2.1); (ck (InR ((max y24 y26) * v1_2.1)) (ck (InR (x1_11 + ((max y24 y26) * v1_2.1))) (let y27 : Int := (x1_11 + ((max y24 y26) * v1_2.1)); (ck (InR ((min v1_2.2 y27) - y23.2)) (let y28 : Int := ((min v1_2.2 y27) - y23.2); (ck (InR (x1_10 + (max y24 y26))) (ck ((List.length o1_0 + List.length ([(x1_10 + (max y24 y26))] : List Int)) * 8 ≤ 140737488355328) (ck (InR (x1_61 + (1 : Int))) (some (.inl ((x1_10 + (max y24 y26)), y28, (x1_61 + (1 : Int)), (o1_0 ++ ([(x1_10 + (max y24 y26))] : List Int)))))))))))))))))) (ck (InR (y24 * v1_2.1)) (ck (InR (x1_11 + (y24 * v1_2.1))) (let y29 : Int := (min v1_2.2 (x1_11 + (y24 * v1_2.1))); (ck (InR (y29 - y23.2)) (ck (InR (x1_10 + y24)) (ck ((List.length o1_0 + List.length ([(x1_10 + y24)] : List Int)) * 8 ≤ 140737488355328) (ck (InR (x1_61 + (1 : Int))) (some (.inl ((x1_10 + y24), (y29 - y23.2), (x1_61 + (1 : Int)), (o1_0 ++ ([(x1_10 + y24)] : List Int)))))))))))))))))) (some (.inr (x1_10, o1_0))))
noncomputable def wire_Starts.l1 (v1_2 : (Int × Int)) (v1_59 : (List (Int × Int))) (v1_60 : Int) (x1_10 : Int) (x1_11 : Int) (x1_61 : Int) (o1_0 : (List Int)) : Option (Int × (List Int)) :=
 loopX (fun (x : (Int × (Int × (Int × (List Int))))) => wire_Starts.s1 v1_2 v1_59 v1_60 x.1 x.2.1 x.2.2.1 x.2.2.2) (x1_10, x1_11, x1_61, o1_0)
noncomputable def wire_Starts.e1 : Ent where
 pre := [.nil 9 3 (.int .i64)]
 inv := [(2, .rp (.pair (.int .i64) (.int .i64))), (59, .val (.slice (.pair (.int .i64) (.int .i64)))), (60, .val (.int .i64))]
 car := ⟨[(9, .own 0 1), (10, .val (.int .i64)), (11, .val (.int .i64)), (61, .val (.int .i64))], [.row 3 (.int .i64)]⟩
 exits := [(.exit 2, ⟨[(9, .own 0 1), (10, .val (.int .i64))], [.row 3 (.int .i64)]⟩)]
 step := fun iv x => wire_Starts.s1 iv.1 iv.2.1 iv.2.2 x.1 x.2.1 x.2.2.1 x.2.2.2
noncomputable def wire_Starts.f (a0 : (Int × Int)) (a1 : (List (Int × Int))) : Option ((List Int) × Int) :=
 (ob (wire_CheckQuota.f a0) fun r1 => (cb (!decide (r1 = (0 : Int))) (some (([] : List Int), r1)) (let y2 : Int := ((List.length a1 : Nat) : Int); (cb (decide ((2000 : Int) < y2)) (some (([] : List Int), (2 : Int))) (let y3 : Int := ((List.length a1 : Nat) : Int); (ob (wire_Starts.l0 a1 a0 a1 y3 (0 : Int)) fun r12 => (caseS r12 (fun a13 => (some (a13.1, a13.2))) (fun b14 => (let y15 : Int := ((List.length a1 : Nat) : Int); (ob (wire_Starts.l1 a0 a1 y15 (0 : Int) a0.2 (0 : Int) ([] : List Int)) fun r30 => (cb (decide ((1000000000 : Int) < r30.1)) (some (([] : List Int), (1 : Int))) (some (r30.2, (0 : Int))))))))))))))
noncomputable def wire_Starts.fn : TFn := ⟨[(.pair (.int .i64) (.int .i64)), (.slice (.pair (.int .i64) (.int .i64)))], [(.slice (.int .i64)), (.int .i64)], fun x => wire_Starts.f x.1 x.2⟩
noncomputable def wire_Starts.C : Cx := ⟨T, TYt, lkF [((14, [0]), wire_CheckQuota.fn), ((34, [0, 0, 0]), wire_within.fn)], lkO [], lkD [(11, 11, [(0, true), (1, true), (2, true), (3, true), (4, true), (5, true), (6, true), (7, true), (8, true), (9, true), (10, true)], none), (15, 3, [(0, true), (1, true), (2, true)], none)], lkP [], [2, 8, 13], [], false, [], [], lkS [], 109⟩
theorem wire_Starts.hC : CxOK Try.prog wire_Starts.C := ⟨tabOK, FsOK.cons wire_CheckQuota.ok (FsOK.cons wire_within.ok (FsOK.nil)), OsOK.nil, mixed, (fun t h => by cases h), (fun t e h => by cases h), SsOK.nil⟩
noncomputable def wire_Starts.root : Code := bodyOf Try.f9
theorem wire_Starts.h0 : LsOK Try.prog wire_Starts.C wire_Starts.root (lkL [([0, 1, 0, 1, 1, 1], wire_Starts.e0)]) :=
 LsOK.cons wire_Starts.hC (LsOK.nil) (by kernel_rfl) (fun iv x => by kernel_rfl)
theorem wire_Starts.h1 : LsOK Try.prog wire_Starts.C wire_Starts.root (lkL [([0, 1, 0, 1, 1, 1, 1, 1, 1], wire_Starts.e1), ([0, 1, 0, 1, 1, 1], wire_Starts.e0)]) :=
 LsOK.cons wire_Starts.hC (wire_Starts.h0) (by kernel_rfl) (fun iv x => by kernel_rfl)
theorem wire_Starts.ok : FnOK Try.prog 9 wire_Starts.fn :=
 FnOK.of (L := lkL [([0, 1, 0, 1, 1, 1, 1, 1, 1], wire_Starts.e1), ([0, 1, 0, 1, 1, 1], wire_Starts.e0)]) (root := wire_Starts.root) wire_Starts.hC (enters_of (c := wire_Starts.root) Try.func9 (by kernel_rfl) (by kernel_rfl)) Try.func9 (by kernel_rfl) (rs := [.tmp 4, .tmp 5]) (by kernel_rfl) (by kernel_rfl) wire_Starts.h1 (fun x => by kernel_rfl)
noncomputable def law8_awake.f : Option Bool :=
 (ob (wire_Starts.f ((2 : Int), (10 : Int)) ([((0 : Int), (8 : Int)), ((0 : Int), (8 : Int))] : List (Int × Int))) fun r1 => (cb (decide (r1.2 = (0 : Int))) (let y2 : Int := ((List.length r1.1 : Nat) : Int); (cb (decide (y2 = (2 : Int))) (ck (0 ≤ (0 : Int) ∧ (0 : Int) < ((List.length r1.1 : Nat) : Int)) (let y3 : Int := (rd (0 : Int) r1.1 (0 : Int)); (cb (decide (y3 = (0 : Int))) (ck (0 ≤ (1 : Int) ∧ (1 : Int) < ((List.length r1.1 : Nat) : Int)) (let y4 : Int := (rd (0 : Int) r1.1 (1 : Int)); (some (decide (y4 = (3 : Int)))))) (some false)))) (some false))) (some false)))
noncomputable def law8_awake.fn : TFn := ⟨[], [.bool], fun x => law8_awake.f⟩
noncomputable def law8_awake.C : Cx := ⟨T, TYt, lkF [((9, [0, 0]), wire_Starts.fn)], lkO [], lkD [], lkP [], [], [], false, [], [], lkS [], 30⟩
theorem law8_awake.hC : CxOK Try.prog law8_awake.C := ⟨tabOK, FsOK.cons wire_Starts.ok (FsOK.nil), OsOK.nil, mixed, (fun t h => by cases h), (fun t e h => by cases h), SsOK.nil⟩
noncomputable def law8_awake.root : Code := bodyOf Try.f10
theorem law8_awake.ok : FnOK Try.prog 10 law8_awake.fn :=
 FnOK.of (L := lkL []) (root := law8_awake.root) law8_awake.hC (enters_of (c := law8_awake.root) Try.func10 (by kernel_rfl) (by kernel_rfl)) Try.func10 (by kernel_rfl) (rs := [.tmp 0]) (by kernel_rfl) (by kernel_rfl) LsOK.nil (fun x => by kernel_rfl)
noncomputable def law8_WireRangesFill.s1 (v1_8 : (Int × Int)) (v1_37 : (List (Int × Int))) (v1_38 : Int) (x1_39 : Int) : Option (Int ⊕ (Bool ⊕ Unit)) :=
 (cb (decide (x1_39 < v1_38)) (ck (0 ≤ x1_39 ∧ x1_39 < ((List.length v1_37 : Nat) : Int)) (let y8 : (Int × Int) := (rd ((0 : Int), (0 : Int)) v1_37 x1_39); (cb (decide ((max v1_8.1 y8.1) < (min v1_8.2 y8.2))) (some (.inr (.inl false))) (ck (InR (x1_39 + (1 : Int))) (some (.inl (x1_39 + (1 : Int)))))))) (some (.inr (.inr ()))))
noncomputable def law8_WireRangesFill.l1 (v1_8 : (Int × Int)) (v1_37 : (List (Int × Int))) (v1_38 : Int) (x1_39 : Int) : Option (Bool ⊕ Unit) :=
 loopX (fun (x : Int) => law8_WireRangesFill.s1 v1_8 v1_37 v1_38 x) x1_39
noncomputable def law8_WireRangesFill.e1 : Ent where
 pre := []
 inv := [(0, .val (.int .i64)), (1, .val (.slice (.pair (.int .i64) (.int .i64)))), (5, .val (.slice (.pair (.int .i64) (.int .i64)))), (8, .rp (.pair (.int .i64) (.int .i64))), (26, .val (.slice (.pair (.int .i64) (.int .i64)))), (27, .val (.int .i64)), (28, .val (.int .i64)), (37, .val (.slice (.pair (.int .i64) (.int .i64)))), (38, .val (.int .i64))]
 car := ⟨[(39, .val (.int .i64))], [.dead]⟩
 exits := [(.ret, ⟨[(4, .val .bool)], []⟩), (.exit 2, ⟨[], [.dead]⟩)]
 step := fun iv x => law8_WireRangesFill.s1 iv.2.2.2.1 iv.2.2.2.2.2.2.2.1 iv.2.2.2.2.2.2.2.2 x
noncomputable def law8_WireRangesFill.s0 (v0_1 : (List (Int × Int))) (v0_26 : (List (Int × Int))) (v0_27 : Int) (x0_28 : Int) : Option (Int ⊕ (Bool ⊕ Unit)) :=
 (cb (decide (x0_28 < v0_27)) (ck (0 ≤ x0_28 ∧ x0_28 < ((List.length v0_26 : Nat) : Int)) (let y12 : (Int × Int) := (rd ((0 : Int), (0 : Int)) v0_26 x0_28); (cb (decide (y12.2 ≤ y12.1)) (some (.inr (.inl false))) (let y13 : Int := ((List.length v0_1 : Nat) : Int); (ob (law8_WireRangesFill.l1 y12 v0_1 y13 (0 : Int)) fun r14 => (caseS r14 (fun a15 => (some (.inr (.inl a15)))) (fun b16 => (ck (InR (x0_28 + (1 : Int))) (some (.inl (x0_28 + (1 : Int)))))))))))) (some (.inr (.inr ()))))
noncomputable def law8_WireRangesFill.l0 (v0_1 : (List (Int × Int))) (v0_26 : (List (Int × Int))) (v0_27 : Int) (x0_28 : Int) : Option (Bool ⊕ Unit) :=
 loopX (fun (x : Int) => law8_WireRangesFill.s0 v0_1 v0_26 v0_27 x) x0_28
noncomputable def law8_WireRangesFill.e0 : Ent where
 pre := []
 inv := [(0, .val (.int .i64)), (1, .val (.slice (.pair (.int .i64) (.int .i64)))), (5, .val (.slice (.pair (.int .i64) (.int .i64)))), (26, .val (.slice (.pair (.int .i64) (.int .i64)))), (27, .val (.int .i64))]
 car := ⟨[(28, .val (.int .i64))], []⟩
 exits := [(.ret, ⟨[(4, .val .bool)], []⟩), (.exit 0, ⟨[], []⟩)]
 step := fun iv x => law8_WireRangesFill.s0 iv.2.1 iv.2.2.2.1 iv.2.2.2.2 x
noncomputable def law8_WireRangesFill.f (a0 : Int) (a1 : (List (Int × Int))) : Option Bool :=
 (ob (wire_Ranges.f a0 a1) fun r1 => (cb (!decide (r1.2 = (0 : Int))) (let y2 : Int := ((List.length r1.1 : Nat) : Int); (cb (decide (y2 = (0 : Int))) (ob (law8_awake.f) fun r3 => (some r3)) (some false))) (let y4 : Int := ((List.length r1.1 : Nat) : Int); (ob (law8_WireRangesFill.l0 a1 r1.1 y4 (0 : Int)) fun r17 => (caseS r17 (fun a18 => (some a18)) (fun b19 => (ob (slices_Clone_api_Span_api_Span_o.f a1) fun r20 => (ck ((List.length r20 + List.length r1.1) * 16 ≤ 140737488355328) (ob (wire_Ranges.f a0 (r20 ++ r1.1)) fun r21 => (cb (decide (r21.2 = (0 : Int))) (let y22 : Int := ((List.length r21.1 : Nat) : Int); (cb (decide (y22 = (0 : Int))) (ob (law8_awake.f) fun r23 => (some r23)) (cb (decide (r21.2 = (2 : Int))) (ob (law8_awake.f) fun r24 => (some r24)) (some false)))) (cb (decide (r21.2 = (2 : Int))) (ob (law8_awake.f) fun r25 => (some r25)) (some false))))))))))))
noncomputable def law8_WireRangesFill.fn : TFn := ⟨[(.int .i64), (.slice (.pair (.int .i64) (.int .i64)))], [.bool], fun x => law8_WireRangesFill.f x.1 x.2⟩
noncomputable def law8_WireRangesFill.C : Cx := ⟨T, TYt, lkF [((10, []), law8_awake.fn), ((27, [0, 0]), wire_Ranges.fn)], lkO [((28, [0]), slices_Clone_api_Span_api_Span_o.fn)], lkD [], lkP [], [8, 10], [], false, [], [], lkS [], 79⟩
theorem law8_WireRangesFill.hC : CxOK Try.prog law8_WireRangesFill.C := ⟨tabOK, FsOK.cons law8_awake.ok (FsOK.cons wire_Ranges.ok (FsOK.nil)), OsOK.cons slices_Clone_api_Span_api_Span_o.ok (OsOK.nil), mixed, (fun t h => by cases h), (fun t e h => by cases h), SsOK.nil⟩
noncomputable def law8_WireRangesFill.root : Code := bodyOf Try.f7
theorem law8_WireRangesFill.h1 : LsOK Try.prog law8_WireRangesFill.C law8_WireRangesFill.root (lkL [([0, 1, 1, 1, 0, 0, 1, 1, 0, 0, 1, 0, 1, 1, 1], law8_WireRangesFill.e1)]) :=
 LsOK.cons law8_WireRangesFill.hC (LsOK.nil) (by kernel_rfl) (fun iv x => by kernel_rfl)
theorem law8_WireRangesFill.h0 : LsOK Try.prog law8_WireRangesFill.C law8_WireRangesFill.root (lkL [([0, 1, 0, 1, 1, 1], law8_WireRangesFill.e0), ([0, 1, 1, 1, 0, 0, 1, 1, 0, 0, 1, 0, 1, 1, 1], law8_WireRangesFill.e1)]) :=
 LsOK.cons law8_WireRangesFill.hC (law8_WireRangesFill.h1) (by kernel_rfl) (fun iv x => by kernel_rfl)
theorem law8_WireRangesFill.ok : FnOK Try.prog 7 law8_WireRangesFill.fn :=
 FnOK.of (L := lkL [([0, 1, 0, 1, 1, 1], law8_WireRangesFill.e0), ([0, 1, 1, 1, 0, 0, 1, 1, 0, 0, 1, 0, 1, 1, 1], law8_WireRangesFill.e1)]) (root := law8_WireRangesFill.root) law8_WireRangesFill.hC (enters_of (c := law8_WireRangesFill.root) Try.func7 (by kernel_rfl) (by kernel_rfl)) Try.func7 (by kernel_rfl) (rs := [.tmp 4]) (by kernel_rfl) (by kernel_rfl) law8_WireRangesFill.h0 (fun x => by kernel_rfl)
noncomputable def slices_Clone_byte_byte.f (a0 : (List UInt8)) : Option (List UInt8) :=
 (nq (¬ a0 = ([] : List UInt8)) (ck ((List.length ([] : List UInt8) + List.length a0) * 1 ≤ 140737488355328) (some (([] : List UInt8) ++ a0))) (some ([] : List UInt8)))
noncomputable def slices_Clone_byte_byte.fn : TFn := ⟨[(.slice .byte)], [(.slice .byte)], fun x => slices_Clone_byte_byte.f x⟩
noncomputable def slices_Clone_byte_byte.C : Cx := ⟨T, TYt, lkF [], lkO [], lkD [], lkP [], [], [], false, [], [], lkS [], 8⟩
theorem slices_Clone_byte_byte.hC : CxOK Try.prog slices_Clone_byte_byte.C := ⟨tabOK, FsOK.nil, OsOK.nil, mixed, (fun t h => by cases h), (fun t e h => by cases h), SsOK.nil⟩
noncomputable def slices_Clone_byte_byte.root : Code := bodyOf Try.f45
theorem slices_Clone_byte_byte.ok : FnOK Try.prog 45 slices_Clone_byte_byte.fn :=
 FnOK.of (L := lkL []) (root := slices_Clone_byte_byte.root) slices_Clone_byte_byte.hC (enters_of (c := slices_Clone_byte_byte.root) Try.func45 (by kernel_rfl) (by kernel_rfl)) Try.func45 (by kernel_rfl) (rs := [.tmp 2]) (by kernel_rfl) (by kernel_rfl) LsOK.nil (fun x => by kernel_rfl)
noncomputable def ref8_CopyChunks.s0 (v0_6 : (List (Int × (List UInt8)))) (v0_7 : Int) (x0_8 : Int) (o0_0 : (List (Int × (List UInt8)))) : Option ((Int × (List (Int × (List UInt8)))) ⊕ (List (Int × (List UInt8)))) :=
 (cb (decide (x0_8 < v0_7)) (ck (0 ≤ x0_8 ∧ x0_8 < ((List.length v0_6 : Nat) : Int)) (let y4 : (Int × (List UInt8)) := (rd ((0 : Int), ([] : (List UInt8))) v0_6 x0_8); (ob (slices_Clone_byte_byte.f y4.2) fun r5 => (ck ((List.length o0_0 + List.length ([(y4.1, r5)] : List (Int × (List UInt8)))) * 32 ≤ 140737488355328) (ck (InR (x0_8 + (1 : Int))) (some (.inl ((x0_8 + (1 : Int)), (o0_0 ++ ([(y4.1, r5)] : List (Int × (List UInt8)))))))))))) (some (.inr o0_0)))
noncomputable def ref8_CopyChunks.l0 (v0_6 : (List (Int × (List UInt8)))) (v0_7 : Int) (x0_8 : Int) (o0_0 : (List (Int × (List UInt8)))) : Option (List (Int × (List UInt8))) :=
 loopX (fun (x : (Int × (List (Int × (List UInt8))))) => ref8_CopyChunks.s0 v0_6 v0_7 x.1 x.2) (x0_8, o0_0)
noncomputable def ref8_CopyChunks.e0 : Ent where
 pre := [.nil 3 49 (.pair (.int .i64) (.slice .byte))]
 inv := [(6, .val (.slice (.pair (.int .i64) (.slice .byte)))), (7, .val (.int .i64))]
 car := ⟨[(3, .own 0 2), (8, .val (.int .i64))], [.row 49 (.pair (.int .i64) (.slice .byte))]⟩
 exits := [(.exit 0, ⟨[(3, .own 0 2)], [.row 49 (.pair (.int .i64) (.slice .byte))]⟩)]
 step := fun iv x => ref8_CopyChunks.s0 iv.1 iv.2 x.1 x.2
noncomputable def ref8_CopyChunks.f (a0 : (List (Int × (List UInt8)))) : Option (List (Int × (List UInt8))) :=
 (let y1 : Int := ((List.length a0 : Nat) : Int); (ob (ref8_CopyChunks.l0 a0 y1 (0 : Int) ([] : List (Int × (List UInt8)))) fun r6 => (some r6)))
noncomputable def ref8_CopyChunks.fn : TFn := ⟨[(.slice (.pair (.int .i64) (.slice .byte)))], [(.slice (.pair (.int .i64) (.slice .byte)))], fun x => ref8_CopyChunks.f x⟩
noncomputable def ref8_CopyChunks.C : Cx := ⟨T, TYt, lkF [((45, [0]), slices_Clone_byte_byte.fn)], lkO [], lkD [(5, 8, [(0, true), (1, true), (2, true), (3, true), (4, true), (5, false), (6, false), (7, false)], none)], lkP [], [5], [], false, [], [], lkS [], 23⟩
theorem ref8_CopyChunks.hC : CxOK Try.prog ref8_CopyChunks.C := ⟨tabOK, FsOK.cons slices_Clone_byte_byte.ok (FsOK.nil), OsOK.nil, mixed, (fun t h => by cases h), (fun t e h => by cases h), SsOK.nil⟩
noncomputable def ref8_CopyChunks.root : Code := bodyOf Try.f29
theorem ref8_CopyChunks.h0 : LsOK Try.prog ref8_CopyChunks.C ref8_CopyChunks.root (lkL [([0, 1, 0, 1, 1], ref8_CopyChunks.e0)]) :=
 LsOK.cons ref8_CopyChunks.hC (LsOK.nil) (by kernel_rfl) (fun iv x => by kernel_rfl)
theorem ref8_CopyChunks.ok : FnOK Try.prog 29 ref8_CopyChunks.fn :=
 FnOK.of (L := lkL [([0, 1, 0, 1, 1], ref8_CopyChunks.e0)]) (root := ref8_CopyChunks.root) ref8_CopyChunks.hC (enters_of (c := ref8_CopyChunks.root) Try.func29 (by kernel_rfl) (by kernel_rfl)) Try.func29 (by kernel_rfl) (rs := [.tmp 2]) (by kernel_rfl) (by kernel_rfl) ref8_CopyChunks.h0 (fun x => by kernel_rfl)
noncomputable def ref8_within.f (a0 : Int) (a1 : Int) (a2 : Int) : Option Bool :=
 (cb (decide (a1 ≤ a0)) (some (decide (a0 ≤ a2))) (some false))
noncomputable def ref8_within.fn : TFn := ⟨[(.int .i64), (.int .i64), (.int .i64)], [.bool], fun x => ref8_within.f x.1 x.2.1 x.2.2⟩
noncomputable def ref8_within.C : Cx := ⟨T, TYt, lkF [], lkO [], lkD [], lkP [], [], [], false, [], [], lkS [], 15⟩
theorem ref8_within.hC : CxOK Try.prog ref8_within.C := ⟨tabOK, FsOK.nil, OsOK.nil, mixed, (fun t h => by cases h), (fun t e h => by cases h), SsOK.nil⟩
noncomputable def ref8_within.root : Code := bodyOf Try.f35
theorem ref8_within.ok : FnOK Try.prog 35 ref8_within.fn :=
 FnOK.of (L := lkL []) (root := ref8_within.root) ref8_within.hC (enters_of (c := ref8_within.root) Try.func35 (by kernel_rfl) (by kernel_rfl)) Try.func35 (by kernel_rfl) (rs := [.tmp 6]) (by kernel_rfl) (by kernel_rfl) LsOK.nil (fun x => by kernel_rfl)
noncomputable def ref8_Ranges.s0 (v0_0 : Int) (v0_23 : (List (Int × Int))) (v0_24 : Int) (x0_25 : Int) (o0_0 : (List Bool)) : Option ((Int × (List Bool)) ⊕ (((List (Int × Int)) × Int) ⊕ (List Bool))) :=
 (cb (decide (x0_25 < v0_24)) (ck (0 ≤ x0_25 ∧ x0_25 < ((List.length v0_23 : Nat) : Int)) (let y7 : (Int × Int) := (rd ((0 : Int), (0 : Int)) v0_23 x0_25); (ob (ref8_within.f y7.1 (0 : Int) v0_0) fun r8 => (cb (!r8) (some (.inr (.inl (([] : List (Int × Int)), (1 : Int))))) (ob (ref8_within.f y7.2 y7.1 v0_0) fun r9 => (cb (!r9) (some (.inr (.inl (([] : List (Int × Int)), (1 : Int))))) (ck (InR (x0_25 + (1 : Int))) (some (.inl ((x0_25 + (1 : Int)), o0_0)))))))))) (some (.inr (.inr o0_0))))
noncomputable def ref8_Ranges.l0 (v0_0 : Int) (v0_23 : (List (Int × Int))) (v0_24 : Int) (x0_25 : Int) (o0_0 : (List Bool)) : Option (((List (Int × Int)) × Int) ⊕ (List Bool)) :=
 loopX (fun (x : (Int × (List Bool))) => ref8_Ranges.s0 v0_0 v0_23 v0_24 x.1 x.2) (x0_25, o0_0)
noncomputable def ref8_Ranges.e0 : Ent where
 pre := []
 inv := [(0, .val (.int .i64)), (1, .val (.slice (.pair (.int .i64) (.int .i64)))), (23, .val (.slice (.pair (.int .i64) (.int .i64)))), (24, .val (.int .i64))]
 car := ⟨[(6, .own 0 1), (25, .val (.int .i64))], [.row 4 .bool]⟩
 exits := [(.ret, ⟨[(4, .val (.slice (.pair (.int .i64) (.int .i64)))), (5, .val (.int .i64))], []⟩), (.exit 0, ⟨[(6, .own 0 1)], [.row 4 .bool]⟩)]
 step := fun iv x => ref8_Ranges.s0 iv.1 iv.2.2.1 iv.2.2.2 x.1 x.2
noncomputable def ref8_Ranges.s2 (v2_10 : (Int × Int)) (x2_11 : Int) (o2_0 : (List Bool)) : Option ((Int × (List Bool)) ⊕ (List Bool)) :=
 (cb (decide (x2_11 < v2_10.2)) (ck (0 ≤ x2_11 ∧ x2_11 < ((List.length o2_0 : Nat) : Int)) (ck ((Int.toNat x2_11) < List.length o2_0) (ck (InR (x2_11 + (1 : Int))) (some (.inl ((x2_11 + (1 : Int)), (List.set o2_0 (Int.toNat x2_11) true))))))) (some (.inr o2_0)))
noncomputable def ref8_Ranges.l2 (v2_10 : (Int × Int)) (x2_11 : Int) (o2_0 : (List Bool)) : Option (List Bool) :=
 loopX (fun (x : (Int × (List Bool))) => ref8_Ranges.s2 v2_10 x.1 x.2) (x2_11, o2_0)
noncomputable def ref8_Ranges.e2 : Ent where
 pre := []
 inv := [(0, .val (.int .i64)), (10, .rp (.pair (.int .i64) (.int .i64))), (44, .val (.slice (.pair (.int .i64) (.int .i64)))), (45, .val (.int .i64)), (46, .val (.int .i64))]
 car := ⟨[(6, .own 0 1), (11, .val (.int .i64))], [.row 4 .bool, .dead]⟩
 exits := [(.exit 4, ⟨[(6, .own 0 1)], [.row 4 .bool, .dead]⟩)]
 step := fun iv x => ref8_Ranges.s2 iv.2.1 x.1 x.2
noncomputable def ref8_Ranges.s1 (v1_44 : (List (Int × Int))) (v1_45 : Int) (x1_46 : Int) (o1_0 : (List Bool)) : Option ((Int × (List Bool)) ⊕ (List Bool)) :=
 (cb (decide (x1_46 < v1_45)) (ck (0 ≤ x1_46 ∧ x1_46 < ((List.length v1_44 : Nat) : Int)) (let y16 : (Int × Int) := (rd ((0 : Int), (0 : Int)) v1_44 x1_46); (ob (ref8_Ranges.l2 y16 y16.1 o1_0) fun r17 => (ck (InR (x1_46 + (1 : Int))) (some (.inl ((x1_46 + (1 : Int)), r17))))))) (some (.inr o1_0)))
noncomputable def ref8_Ranges.l1 (v1_44 : (List (Int × Int))) (v1_45 : Int) (x1_46 : Int) (o1_0 : (List Bool)) : Option (List Bool) :=
 loopX (fun (x : (Int × (List Bool))) => ref8_Ranges.s1 v1_44 v1_45 x.1 x.2) (x1_46, o1_0)
noncomputable def ref8_Ranges.e1 : Ent where
 pre := []
 inv := [(0, .val (.int .i64)), (44, .val (.slice (.pair (.int .i64) (.int .i64)))), (45, .val (.int .i64))]
 car := ⟨[(6, .own 0 1), (46, .val (.int .i64))], [.row 4 .bool]⟩
 exits := [(.exit 2, ⟨[(6, .own 0 1)], [.row 4 .bool]⟩)]
 step := fun iv x => ref8_Ranges.s1 iv.2.1 iv.2.2 x.1 x.2
noncomputable def ref8_Ranges.s3 (v3_0 : Int) (x3_13 : Int) (o3_0 : (List Bool)) (o3_1 : (List (Int × Int))) : Option ((Int × ((List Bool) × (List (Int × Int)))) ⊕ ((List Bool) × (List (Int × Int)))) :=
 (cb (decide (x3_13 < v3_0)) (ck (0 ≤ x3_13 ∧ x3_13 < ((List.length o3_0 : Nat) : Int)) (ck ((Int.toNat x3_13) < List.length o3_0) (cb (List.getD o3_0 (Int.toNat x3_13) false) (ck (InR (x3_13 + (1 : Int))) (some (.inl ((x3_13 + (1 : Int)), o3_0, o3_1)))) (let y21 : Int := ((List.length o3_1 : Nat) : Int); (cb (decide ((0 : Int) < y21)) (ck (InR (y21 - (1 : Int))) (ck (0 ≤ (y21 - (1 : Int)) ∧ (y21 - (1 : Int)) < ((List.length o3_1 : Nat) : Int)) (ck ((Int.toNat (y21 - (1 : Int))) < List.length o3_1) (let y22 : Int := (List.getD o3_1 (Int.toNat (y21 - (1 : Int))) ((0 : Int), (0 : Int))).2; (cb (decide (y22 = x3_13)) (ck (InR (y21 - (1 : Int))) (ck (InR (x3_13 + (1 : Int))) (ck (0 ≤ (y21 - (1 : Int)) ∧ (y21 - (1 : Int)) < ((List.length o3_1 : Nat) : Int)) (ck ((Int.toNat (y21 - (1 : Int))) < List.length o3_1) (ck (InR (x3_13 + (1 : Int))) (some (.inl ((x3_13 + (1 : Int)), o3_0, (List.set o3_1 (Int.toNat (y21 - (1 : Int))) ((List.getD o3_1 (Int.toNat (y21 - (1 : Int))) ((0 : Int), (0 : Int))).1, (x3_13 + (1 : Int)))))))))))) (ck (InR (x3_13 + (1 : Int))) (ck ((List.length o3_1 + List.length ([(x3_13, (x3_13 + (1 : Int)))] : List (Int × Int))) * 16 ≤ 140737488355328) (ck (InR (x3_13 + (1 : Int))) (some (.inl ((x3_13 + (1 : Int)), o3_0, (o3_1 ++ ([(x3_13, (x3_13 + (1 : Int)))] : List (Int × Int)))))))))))))) (ck (InR (x3_13 + (1 : Int))) (ck ((List.length o3_1 + List.length ([(x3_13, (x3_13 + (1 : Int)))] : List (Int × Int))) * 16 ≤ 140737488355328) (ck (InR (x3_13 + (1 : Int))) (some (.inl ((x3_13 + (1 : Int)), o3_0, (o3_1 ++ ([(x3_13, (x3_13 + (1 : Int)))] : List (Int × Int)))))))))))))) (some (.inr (o3_0, o3_1))))
noncomputable def ref8_Ranges.l3 (v3_0 : Int) (x3_13 : Int) (o3_0 : (List Bool)) (o3_1 : (List (Int × Int))) : Option ((List Bool) × (List (Int × Int))) :=
 loopX (fun (x : (Int × ((List Bool) × (List (Int × Int))))) => ref8_Ranges.s3 v3_0 x.1 x.2.1 x.2.2) (x3_13, o3_0, o3_1)
noncomputable def ref8_Ranges.e3 : Ent where
 pre := [.nil 12 58 (.pair (.int .i64) (.int .i64))]
 inv := [(0, .val (.int .i64))]
 car := ⟨[(6, .own 0 1), (12, .own 1 2), (13, .val (.int .i64))], [.row 4 .bool, .row 58 (.pair (.int .i64) (.int .i64))]⟩
 exits := [(.exit 6, ⟨[(12, .own 1 2)], [.row 4 .bool, .row 58 (.pair (.int .i64) (.int .i64))]⟩)]
 step := fun iv x => ref8_Ranges.s3 iv x.1 x.2.1 x.2.2
noncomputable def ref8_Ranges.f (a0 : Int) (a1 : (List (Int × Int))) : Option ((List (Int × Int)) × Int) :=
 (ob (ref8_within.f a0 (0 : Int) (2000000 : Int)) fun r1 => (cb (!r1) (some (([] : List (Int × Int)), (1 : Int))) (let y2 : Int := ((List.length a1 : Nat) : Int); (cb (decide ((20000 : Int) < y2)) (some (([] : List (Int × Int)), (2 : Int))) (ck (0 ≤ a0 ∧ a0 * (1 : Int) ≤ 140737488355328) (let y3 : Int := ((List.length a1 : Nat) : Int); (ob (ref8_Ranges.l0 a0 a1 y3 (0 : Int) (List.replicate (Int.toNat a0) false)) fun r10 => (caseS r10 (fun a11 => (some (a11.1, a11.2))) (fun b12 => (let y13 : Int := ((List.length a1 : Nat) : Int); (ob (ref8_Ranges.l1 a1 y13 (0 : Int) b12) fun r18 => (ob (ref8_Ranges.l3 a0 (0 : Int) r18 ([] : List (Int × Int))) fun r23 => (some (r23.2, (0 : Int)))))))))))))))
noncomputable def ref8_Ranges.fn : TFn := ⟨[(.int .i64), (.slice (.pair (.int .i64) (.int .i64)))], [(.slice (.pair (.int .i64) (.int .i64))), (.int .i64)], fun x => ref8_Ranges.f x.1 x.2⟩
noncomputable def ref8_Ranges.C : Cx := ⟨T, TYt, lkF [((35, [0, 0, 0]), ref8_within.fn)], lkO [], lkD [], lkP [], [8, 10], [], false, [], [], lkS [], 100⟩
theorem ref8_Ranges.hC : CxOK Try.prog ref8_Ranges.C := ⟨tabOK, FsOK.cons ref8_within.ok (FsOK.nil), OsOK.nil, mixed, (fun t h => by cases h), (fun t e h => by cases h), SsOK.nil⟩
noncomputable def ref8_Ranges.root : Code := bodyOf Try.f30
theorem ref8_Ranges.h0 : LsOK Try.prog ref8_Ranges.C ref8_Ranges.root (lkL [([0, 1, 0, 1, 1, 1, 1], ref8_Ranges.e0)]) :=
 LsOK.cons ref8_Ranges.hC (LsOK.nil) (by kernel_rfl) (fun iv x => by kernel_rfl)
theorem ref8_Ranges.h2 : LsOK Try.prog ref8_Ranges.C ref8_Ranges.root (lkL [([0, 1, 1, 0, 0, 1, 1, 0, 0, 1, 0, 1, 1, 1, 1, 1], ref8_Ranges.e2), ([0, 1, 0, 1, 1, 1, 1], ref8_Ranges.e0)]) :=
 LsOK.cons ref8_Ranges.hC (ref8_Ranges.h0) (by kernel_rfl) (fun iv x => by kernel_rfl)
theorem ref8_Ranges.h1 : LsOK Try.prog ref8_Ranges.C ref8_Ranges.root (lkL [([0, 1, 0, 1, 1, 1, 1, 1], ref8_Ranges.e1), ([0, 1, 1, 0, 0, 1, 1, 0, 0, 1, 0, 1, 1, 1, 1, 1], ref8_Ranges.e2), ([0, 1, 0, 1, 1, 1, 1], ref8_Ranges.e0)]) :=
 LsOK.cons ref8_Ranges.hC (ref8_Ranges.h2) (by kernel_rfl) (fun iv x => by kernel_rfl)
theorem ref8_Ranges.h3 : LsOK Try.prog ref8_Ranges.C ref8_Ranges.root (lkL [([0, 1, 0, 1, 1, 1, 1, 1, 1, 1], ref8_Ranges.e3), ([0, 1, 0, 1, 1, 1, 1, 1], ref8_Ranges.e1), ([0, 1, 1, 0, 0, 1, 1, 0, 0, 1, 0, 1, 1, 1, 1, 1], ref8_Ranges.e2), ([0, 1, 0, 1, 1, 1, 1], ref8_Ranges.e0)]) :=
 LsOK.cons ref8_Ranges.hC (ref8_Ranges.h1) (by kernel_rfl) (fun iv x => by kernel_rfl)
theorem ref8_Ranges.ok : FnOK Try.prog 30 ref8_Ranges.fn :=
 FnOK.of (L := lkL [([0, 1, 0, 1, 1, 1, 1, 1, 1, 1], ref8_Ranges.e3), ([0, 1, 0, 1, 1, 1, 1, 1], ref8_Ranges.e1), ([0, 1, 1, 0, 0, 1, 1, 0, 0, 1, 0, 1, 1, 1, 1, 1], ref8_Ranges.e2), ([0, 1, 0, 1, 1, 1, 1], ref8_Ranges.e0)]) (root := ref8_Ranges.root) ref8_Ranges.hC (enters_of (c := ref8_Ranges.root) Try.func30 (by kernel_rfl) (by kernel_rfl)) Try.func30 (by kernel_rfl) (rs := [.tmp 4, .tmp 5]) (by kernel_rfl) (by kernel_rfl) ref8_Ranges.h3 (fun x => by kernel_rfl)
noncomputable def slices_Equal_api_Span_api_Span.s0 (v0_0 : (List (Int × Int))) (v0_1 : (List (Int × Int))) (v0_12 : Int) (x0_13 : Int) : Option (Int ⊕ (Bool ⊕ Unit)) :=
 (cb (decide (x0_13 < v0_12)) (ck (0 ≤ x0_13 ∧ x0_13 < ((List.length v0_0 : Nat) : Int)) (let y6 : (Int × Int) := (rd ((0 : Int), (0 : Int)) v0_0 x0_13); (ck (0 ≤ x0_13 ∧ x0_13 < ((List.length v0_1 : Nat) : Int)) (let y7 : (Int × Int) := (rd ((0 : Int), (0 : Int)) v0_1 x0_13); (cb (!((eqI y6.1 y7.1) && ((eqI y6.2 y7.2) && true))) (some (.inr (.inl false))) (ck (InR (x0_13 + (1 : Int))) (some (.inl (x0_13 + (1 : Int)))))))))) (some (.inr (.inr ()))))
noncomputable def slices_Equal_api_Span_api_Span.l0 (v0_0 : (List (Int × Int))) (v0_1 : (List (Int × Int))) (v0_12 : Int) (x0_13 : Int) : Option (Bool ⊕ Unit) :=
 loopX (fun (x : Int) => slices_Equal_api_Span_api_Span.s0 v0_0 v0_1 v0_12 x) x0_13
noncomputable def slices_Equal_api_Span_api_Span.e0 : Ent where
 pre := []
 inv := [(0, .val (.slice (.pair (.int .i64) (.int .i64)))), (1, .val (.slice (.pair (.int .i64) (.int .i64)))), (12, .val (.int .i64))]
 car := ⟨[(13, .val (.int .i64))], []⟩
 exits := [(.ret, ⟨[(4, .val .bool)], []⟩), (.exit 0, ⟨[], []⟩)]
 step := fun iv x => slices_Equal_api_Span_api_Span.s0 iv.1 iv.2.1 iv.2.2 x
noncomputable def slices_Equal_api_Span_api_Span.f (a0 : (List (Int × Int))) (a1 : (List (Int × Int))) : Option Bool :=
 (let y1 : Int := ((List.length a0 : Nat) : Int); (let y2 : Int := ((List.length a1 : Nat) : Int); (cb (!decide (y1 = y2)) (some false) (let y3 : Int := ((List.length a0 : Nat) : Int); (ob (slices_Equal_api_Span_api_Span.l0 a0 a1 y3 (0 : Int)) fun r8 => (caseS r8 (fun a9 => (some a9)) (fun b10 => (some true))))))))
noncomputable def slices_Equal_api_Span_api_Span.fn : TFn := ⟨[(.slice (.pair (.int .i64) (.int .i64))), (.slice (.pair (.int .i64) (.int .i64)))], [.bool], fun x => slices_Equal_api_Span_api_Span.f x.1 x.2⟩
noncomputable def slices_Equal_api_Span_api_Span.C : Cx := ⟨T, TYt, lkF [], lkO [], lkD [(6, 8, [(0, true), (1, true), (2, true), (3, true), (4, true), (5, true), (6, true), (7, true)], none)], lkP [], [], [], false, [58], [], lkS [], 26⟩
theorem slices_Equal_api_Span_api_Span.hC : CxOK Try.prog slices_Equal_api_Span_api_Span.C := ⟨tabOK, FsOK.nil, OsOK.nil, mixed, (fun t h => eqs_of [58] (by kernel_rfl) t h), (fun t e h => by cases h), SsOK.nil⟩
noncomputable def slices_Equal_api_Span_api_Span.root : Code := bodyOf Try.f31
theorem slices_Equal_api_Span_api_Span.h0 : LsOK Try.prog slices_Equal_api_Span_api_Span.C slices_Equal_api_Span_api_Span.root (lkL [([0, 1, 0, 1, 1], slices_Equal_api_Span_api_Span.e0)]) :=
 LsOK.cons slices_Equal_api_Span_api_Span.hC (LsOK.nil) (by kernel_rfl) (fun iv x => by kernel_rfl)
theorem slices_Equal_api_Span_api_Span.ok : FnOK Try.prog 31 slices_Equal_api_Span_api_Span.fn :=
 FnOK.of (L := lkL [([0, 1, 0, 1, 1], slices_Equal_api_Span_api_Span.e0)]) (root := slices_Equal_api_Span_api_Span.root) slices_Equal_api_Span_api_Span.hC (enters_of (c := slices_Equal_api_Span_api_Span.root) Try.func31 (by kernel_rfl) (by kernel_rfl)) Try.func31 (by kernel_rfl) (rs := [.tmp 4]) (by kernel_rfl) (by kernel_rfl) slices_Equal_api_Span_api_Span.h0 (fun x => by kernel_rfl)
noncomputable def slices_Index_bool_bool.s0 (v0_0 : (List Bool)) (v0_1 : Bool) (v0_7 : Int) (x0_8 : Int) : Option (Int ⊕ (Int ⊕ Unit)) :=
 (cb (decide (x0_8 < v0_7)) (ck (0 ≤ x0_8 ∧ x0_8 < ((List.length v0_0 : Nat) : Int)) (cb (v0_1 == (rd false v0_0 x0_8)) (some (.inr (.inl x0_8))) (ck (InR (x0_8 + (1 : Int))) (some (.inl (x0_8 + (1 : Int))))))) (some (.inr (.inr ()))))
noncomputable def slices_Index_bool_bool.l0 (v0_0 : (List Bool)) (v0_1 : Bool) (v0_7 : Int) (x0_8 : Int) : Option (Int ⊕ Unit) :=
 loopX (fun (x : Int) => slices_Index_bool_bool.s0 v0_0 v0_1 v0_7 x) x0_8
noncomputable def slices_Index_bool_bool.e0 : Ent where
 pre := []
 inv := [(0, .val (.slice .bool)), (1, .val .bool), (7, .val (.int .i64))]
 car := ⟨[(8, .val (.int .i64))], []⟩
 exits := [(.ret, ⟨[(4, .val (.int .i64))], []⟩), (.exit 0, ⟨[], []⟩)]
 step := fun iv x => slices_Index_bool_bool.s0 iv.1 iv.2.1 iv.2.2 x
noncomputable def slices_Index_bool_bool.f (a0 : (List Bool)) (a1 : Bool) : Option Int :=
 (let y1 : Int := ((List.length a0 : Nat) : Int); (ob (slices_Index_bool_bool.l0 a0 a1 y1 (0 : Int)) fun r2 => (caseS r2 (fun a3 => (some a3)) (fun b4 => (some (-1 : Int))))))
noncomputable def slices_Index_bool_bool.fn : TFn := ⟨[(.slice .bool), .bool], [(.int .i64)], fun x => slices_Index_bool_bool.f x.1 x.2⟩
noncomputable def slices_Index_bool_bool.C : Cx := ⟨T, TYt, lkF [], lkO [], lkD [], lkP [], [], [], false, [], [], lkS [], 19⟩
theorem slices_Index_bool_bool.hC : CxOK Try.prog slices_Index_bool_bool.C := ⟨tabOK, FsOK.nil, OsOK.nil, mixed, (fun t h => by cases h), (fun t e h => by cases h), SsOK.nil⟩
noncomputable def slices_Index_bool_bool.root : Code := bodyOf Try.f46
theorem slices_Index_bool_bool.h0 : LsOK Try.prog slices_Index_bool_bool.C slices_Index_bool_bool.root (lkL [([0, 1, 0, 1], slices_Index_bool_bool.e0)]) :=
 LsOK.cons slices_Index_bool_bool.hC (LsOK.nil) (by kernel_rfl) (fun iv x => by kernel_rfl)
theorem slices_Index_bool_bool.ok : FnOK Try.prog 46 slices_Index_bool_bool.fn :=
 FnOK.of (L := lkL [([0, 1, 0, 1], slices_Index_bool_bool.e0)]) (root := slices_Index_bool_bool.root) slices_Index_bool_bool.hC (enters_of (c := slices_Index_bool_bool.root) Try.func46 (by kernel_rfl) (by kernel_rfl)) Try.func46 (by kernel_rfl) (rs := [.tmp 4]) (by kernel_rfl) (by kernel_rfl) slices_Index_bool_bool.h0 (fun x => by kernel_rfl)
noncomputable def slices_Contains_bool_bool.f (a0 : (List Bool)) (a1 : Bool) : Option Bool :=
 (ob (slices_Index_bool_bool.f a0 a1) fun r1 => (some (decide ((0 : Int) ≤ r1))))
noncomputable def slices_Contains_bool_bool.fn : TFn := ⟨[(.slice .bool), .bool], [.bool], fun x => slices_Contains_bool_bool.f x.1 x.2⟩
noncomputable def slices_Contains_bool_bool.C : Cx := ⟨T, TYt, lkF [((46, [0, 0]), slices_Index_bool_bool.fn)], lkO [], lkD [], lkP [], [], [], false, [], [], lkS [], 9⟩
theorem slices_Contains_bool_bool.hC : CxOK Try.prog slices_Contains_bool_bool.C := ⟨tabOK, FsOK.cons slices_Index_bool_bool.ok (FsOK.nil), OsOK.nil, mixed, (fun t h => by cases h), (fun t e h => by cases h), SsOK.nil⟩
noncomputable def slices_Contains_bool_bool.root : Code := bodyOf Try.f41
theorem slices_Contains_bool_bool.ok : FnOK Try.prog 41 slices_Contains_bool_bool.fn :=
 FnOK.of (L := lkL []) (root := slices_Contains_bool_bool.root) slices_Contains_bool_bool.hC (enters_of (c := slices_Contains_bool_bool.root) Try.func41 (by kernel_rfl) (by kernel_rfl)) Try.func41 (by kernel_rfl) (rs := [.tmp 4]) (by kernel_rfl) (by kernel_rfl) LsOK.nil (fun x => by kernel_rfl)
noncomputable def wire_Patch.s0 (v0_1 : Int) (v0_21 : (List (Int × (List UInt8)))) (v0_22 : Int) (x0_23 : Int) : Option (Int ⊕ (((List UInt8) × Int) ⊕ Unit)) :=
 (cb (decide (x0_23 < v0_22)) (ck (0 ≤ x0_23 ∧ x0_23 < ((List.length v0_21 : Nat) : Int)) (let y7 : (Int × (List UInt8)) := (rd ((0 : Int), ([] : (List UInt8))) v0_21 x0_23); (ob (wire_within.f y7.1 (0 : Int) v0_1) fun r8 => (cb (!r8) (some (.inr (.inl (([] : List UInt8), (1 : Int))))) (let y9 : Int := ((List.length y7.2 : Nat) : Int); (ck (InR (v0_1 - y7.1)) (cb (decide ((v0_1 - y7.1) < y9)) (some (.inr (.inl (([] : List UInt8), (1 : Int))))) (ck (InR (x0_23 + (1 : Int))) (some (.inl (x0_23 + (1 : Int)))))))))))) (some (.inr (.inr ()))))
noncomputable def wire_Patch.l0 (v0_1 : Int) (v0_21 : (List (Int × (List UInt8)))) (v0_22 : Int) (x0_23 : Int) : Option (((List UInt8) × Int) ⊕ Unit) :=
 loopX (fun (x : Int) => wire_Patch.s0 v0_1 v0_21 v0_22 x) x0_23
noncomputable def wire_Patch.e0 : Ent where
 pre := []
 inv := [(0, .val (.slice (.pair (.int .i64) (.slice .byte)))), (1, .val (.int .i64)), (21, .val (.slice (.pair (.int .i64) (.slice .byte)))), (22, .val (.int .i64))]
 car := ⟨[(23, .val (.int .i64))], []⟩
 exits := [(.ret, ⟨[(4, .val (.slice .byte)), (5, .val (.int .i64))], []⟩), (.exit 0, ⟨[], []⟩)]
 step := fun iv x => wire_Patch.s0 iv.2.1 iv.2.2.1 iv.2.2.2 x
noncomputable def wire_Patch.s2 (v2_11 : (Int × (List UInt8))) (v2_54 : (List UInt8)) (v2_55 : Int) (x2_56 : Int) (o2_0 : (List UInt8)) (o2_1 : (List Bool)) : Option ((Int × ((List UInt8) × (List Bool))) ⊕ (((List UInt8) × Int) ⊕ ((List UInt8) × (List Bool)))) :=
 (cb (decide (x2_56 < v2_55)) (ck (0 ≤ x2_56 ∧ x2_56 < ((List.length v2_54 : Nat) : Int)) (let y18 : UInt8 := (rd (0 : UInt8) v2_54 x2_56); (ck (InR (v2_11.1 + x2_56)) (ck (0 ≤ (v2_11.1 + x2_56) ∧ (v2_11.1 + x2_56) < ((List.length o2_1 : Nat) : Int)) (ck ((Int.toNat (v2_11.1 + x2_56)) < List.length o2_1) (cb (List.getD o2_1 (Int.toNat (v2_11.1 + x2_56)) false) (ck (0 ≤ (v2_11.1 + x2_56) ∧ (v2_11.1 + x2_56) < ((List.length o2_0 : Nat) : Int)) (ck ((Int.toNat (v2_11.1 + x2_56)) < List.length o2_0) (let y19 : UInt8 := (List.getD o2_0 (Int.toNat (v2_11.1 + x2_56)) (0 : UInt8)); (cb (!decide (((UInt8.toNat y19 : Nat) : Int) = ((UInt8.toNat y18 : Nat) : Int))) (some (.inr (.inl (([] : List UInt8), (12 : Int))))) (ck (0 ≤ (v2_11.1 + x2_56) ∧ (v2_11.1 + x2_56) < ((List.length o2_0 : Nat) : Int)) (ck ((Int.toNat (v2_11.1 + x2_56)) < List.length o2_0) (ck (0 ≤ (v2_11.1 + x2_56) ∧ (v2_11.1 + x2_56) < ((List.length o2_1 : Nat) : Int)) (ck ((Int.toNat (v2_11.1 + x2_56)) < List.length o2_1) (ck (InR (x2_56 + (1 : Int))) (some (.inl ((x2_56 + (1 : Int)), (List.set o2_0 (Int.toNat (v2_11.1 + x2_56)) y18), (List.set o2_1 (Int.toNat (v2_11.1 + x2_56)) true))))))))))))) (ck (0 ≤ (v2_11.1 + x2_56) ∧ (v2_11.1 + x2_56) < ((List.length o2_0 : Nat) : Int)) (ck ((Int.toNat (v2_11.1 + x2_56)) < List.length o2_0) (ck (0 ≤ (v2_11.1 + x2_56) ∧ (v2_11.1 + x2_56) < ((List.length o2_1 : Nat) : Int)) (ck ((Int.toNat (v2_11.1 + x2_56)) < List.length o2_1) (ck (InR (x2_56 + (1 : Int))) (some (.inl ((x2_56 + (1 : Int)), (List.set o2_0 (Int.toNat (v2_11.1 + x2_56)) y18), (List.set o2_1 (Int.toNat (v2_11.1 + x2_56)) true))))))))))))))) (some (.inr (.inr (o2_0, o2_1)))))
noncomputable def wire_Patch.l2 (v2_11 : (Int × (List UInt8))) (v2_54 : (List UInt8)) (v2_55 : Int) (x2_56 : Int) (o2_0 : (List UInt8)) (o2_1 : (List Bool)) : Option (((List UInt8) × Int) ⊕ ((List UInt8) × (List Bool))) :=
 loopX (fun (x : (Int × ((List UInt8) × (List Bool)))) => wire_Patch.s2 v2_11 v2_54 v2_55 x.1 x.2.1 x.2.2) (x2_56, o2_0, o2_1)
noncomputable def wire_Patch.e2 : Ent where
 pre := []
 inv := [(11, .rp (.pair (.int .i64) (.slice .byte))), (47, .val (.slice (.pair (.int .i64) (.slice .byte)))), (48, .val (.int .i64)), (49, .val (.int .i64)), (54, .val (.slice .byte)), (55, .val (.int .i64))]
 car := ⟨[(8, .own 0 1), (9, .own 1 1), (56, .val (.int .i64))], [.row 5 .byte, .row 4 .bool, .dead]⟩
 exits := [(.ret, ⟨[(4, .val (.slice .byte)), (5, .val (.int .i64))], []⟩), (.exit 4, ⟨[(8, .own 0 1), (9, .own 1 1)], [.row 5 .byte, .row 4 .bool, .dead]⟩)]
 step := fun iv x => wire_Patch.s2 iv.1 iv.2.2.2.2.1 iv.2.2.2.2.2 x.1 x.2.1 x.2.2
noncomputable def wire_Patch.s1 (v1_47 : (List (Int × (List UInt8)))) (v1_48 : Int) (x1_49 : Int) (o1_0 : (List UInt8)) (o1_1 : (List Bool)) : Option ((Int × ((List UInt8) × (List Bool))) ⊕ (((List UInt8) × Int) ⊕ ((List UInt8) × (List Bool)))) :=
 (cb (decide (x1_49 < v1_48)) (ck (0 ≤ x1_49 ∧ x1_49 < ((List.length v1_47 : Nat) : Int)) (let y23 : (Int × (List UInt8)) := (rd ((0 : Int), ([] : (List UInt8))) v1_47 x1_49); (let y24 : Int := ((List.length y23.2 : Nat) : Int); (ob (wire_Patch.l2 y23 y23.2 y24 (0 : Int) o1_0 o1_1) fun r25 => (caseS r25 (fun a26 => (some (.inr (.inl (a26.1, a26.2))))) (fun b27 => (ck (InR (x1_49 + (1 : Int))) (some (.inl ((x1_49 + (1 : Int)), b27.1, b27.2)))))))))) (some (.inr (.inr (o1_0, o1_1)))))
noncomputable def wire_Patch.l1 (v1_47 : (List (Int × (List UInt8)))) (v1_48 : Int) (x1_49 : Int) (o1_0 : (List UInt8)) (o1_1 : (List Bool)) : Option (((List UInt8) × Int) ⊕ ((List UInt8) × (List Bool))) :=
 loopX (fun (x : (Int × ((List UInt8) × (List Bool)))) => wire_Patch.s1 v1_47 v1_48 x.1 x.2.1 x.2.2) (x1_49, o1_0, o1_1)
noncomputable def wire_Patch.e1 : Ent where
 pre := []
 inv := [(47, .val (.slice (.pair (.int .i64) (.slice .byte)))), (48, .val (.int .i64))]
 car := ⟨[(8, .own 0 1), (9, .own 1 1), (49, .val (.int .i64))], [.row 5 .byte, .row 4 .bool]⟩
 exits := [(.ret, ⟨[(4, .val (.slice .byte)), (5, .val (.int .i64))], []⟩), (.exit 2, ⟨[(8, .own 0 1), (9, .own 1 1)], [.row 5 .byte, .row 4 .bool]⟩)]
 step := fun iv x => wire_Patch.s1 iv.1 iv.2 x.1 x.2.1 x.2.2
noncomputable def wire_Patch.f (a0 : (List (Int × (List UInt8)))) (a1 : Int) : Option ((List UInt8) × Int) :=
 (ob (wire_within.f a1 (0 : Int) (2000000 : Int)) fun r1 => (cb (!r1) (some (([] : List UInt8), (1 : Int))) (let y2 : Int := ((List.length a0 : Nat) : Int); (cb (decide ((20000 : Int) < y2)) (some (([] : List UInt8), (2 : Int))) (let y3 : Int := ((List.length a0 : Nat) : Int); (ob (wire_Patch.l0 a1 a0 y3 (0 : Int)) fun r10 => (caseS r10 (fun a11 => (some (a11.1, a11.2))) (fun b12 => (dup (ck (0 ≤ a1 ∧ a1 * (1 : Int) ≤ 140737488355328) (ck (0 ≤ a1 ∧ a1 * (1 : Int) ≤ 140737488355328) (let y13 : Int := ((List.length a0 : Nat) : Int); (ob (wire_Patch.l1 a0 y13 (0 : Int) (List.replicate (Int.toNat a1) (0 : UInt8)) (List.replicate (Int.toNat a1) false)) fun r28 => (caseS r28 (fun a29 => (some (a29.1, a29.2))) (fun b30 => (ob (slices_Contains_bool_bool.f b30.2 false) fun r31 => (cb r31 (some (([] : List UInt8), (9 : Int))) (some (b30.1, (0 : Int))))))))))))))))))))
noncomputable def wire_Patch.fn : TFn := ⟨[(.slice (.pair (.int .i64) (.slice .byte))), (.int .i64)], [(.slice .byte), (.int .i64)], fun x => wire_Patch.f x.1 x.2⟩
noncomputable def wire_Patch.C : Cx := ⟨T, TYt, lkF [((34, [0, 0, 0]), wire_within.fn), ((41, [0, 0]), slices_Contains_bool_bool.fn)], lkO [], lkD [(11, 5, [(0, true), (2, true)], some (1, [(4, true), (3, false)], 3, [(1, false), (4, true)]))], lkP [], [7, 11], [], false, [], [], lkS [], 89⟩
theorem wire_Patch.hC : CxOK Try.prog wire_Patch.C := ⟨tabOK, FsOK.cons wire_within.ok (FsOK.cons slices_Contains_bool_bool.ok (FsOK.nil)), OsOK.nil, mixed, (fun t h => by cases h), (fun t e h => by cases h), SsOK.nil⟩
noncomputable def wire_Patch.root : Code := bodyOf Try.f25
theorem wire_Patch.h0 : LsOK Try.prog wire_Patch.C wire_Patch.root (lkL [([0, 1, 0, 1, 1, 1], wire_Patch.e0)]) :=
 LsOK.cons wire_Patch.hC (LsOK.nil) (by kernel_rfl) (fun iv x => by kernel_rfl)
theorem wire_Patch.h2 : LsOK Try.prog wire_Patch.C wire_Patch.root (lkL [([0, 1, 1, 0, 0, 1, 1, 0, 0, 1, 0, 1, 1, 1, 1, 1], wire_Patch.e2), ([0, 1, 0, 1, 1, 1], wire_Patch.e0)]) :=
 LsOK.cons wire_Patch.hC (wire_Patch.h0) (by kernel_rfl) (fun iv x => by kernel_rfl)
theorem wire_Patch.h1 : LsOK Try.prog wire_Patch.C wire_Patch.root (lkL [([0, 1, 0, 1, 1, 1, 1, 1], wire_Patch.e1), ([0, 1, 1, 0, 0, 1, 1, 0, 0, 1, 0, 1, 1, 1, 1, 1], wire_Patch.e2), ([0, 1, 0, 1, 1, 1], wire_Patch.e0)]) :=
 LsOK.cons wire_Patch.hC (wire_Patch.h2) (by kernel_rfl) (fun iv x => by kernel_rfl)
theorem wire_Patch.ok : FnOK Try.prog 25 wire_Patch.fn :=
 FnOK.of (L := lkL [([0, 1, 0, 1, 1, 1, 1, 1], wire_Patch.e1), ([0, 1, 1, 0, 0, 1, 1, 0, 0, 1, 0, 1, 1, 1, 1, 1], wire_Patch.e2), ([0, 1, 0, 1, 1, 1], wire_Patch.e0)]) (root := wire_Patch.root) wire_Patch.hC (enters_of (c := wire_Patch.root) Try.func25 (by kernel_rfl) (by kernel_rfl)) Try.func25 (by kernel_rfl) (rs := [.tmp 4, .tmp 5]) (by kernel_rfl) (by kernel_rfl) wire_Patch.h1 (fun x => by kernel_rfl)
noncomputable def ref8_Patch.s0 (v0_1 : Int) (v0_20 : (List (Int × (List UInt8)))) (v0_21 : Int) (x0_22 : Int) : Option (Int ⊕ (((List UInt8) × Int) ⊕ Unit)) :=
 (cb (decide (x0_22 < v0_21)) (ck (0 ≤ x0_22 ∧ x0_22 < ((List.length v0_20 : Nat) : Int)) (let y7 : (Int × (List UInt8)) := (rd ((0 : Int), ([] : (List UInt8))) v0_20 x0_22); (ob (ref8_within.f y7.1 (0 : Int) v0_1) fun r8 => (cb (!r8) (some (.inr (.inl (([] : List UInt8), (1 : Int))))) (let y9 : Int := ((List.length y7.2 : Nat) : Int); (ck (InR (v0_1 - y7.1)) (cb (decide ((v0_1 - y7.1) < y9)) (some (.inr (.inl (([] : List UInt8), (1 : Int))))) (ck (InR (x0_22 + (1 : Int))) (some (.inl (x0_22 + (1 : Int)))))))))))) (some (.inr (.inr ()))))
noncomputable def ref8_Patch.l0 (v0_1 : Int) (v0_20 : (List (Int × (List UInt8)))) (v0_21 : Int) (x0_22 : Int) : Option (((List UInt8) × Int) ⊕ Unit) :=
 loopX (fun (x : Int) => ref8_Patch.s0 v0_1 v0_20 v0_21 x) x0_22
noncomputable def ref8_Patch.e0 : Ent where
 pre := []
 inv := [(0, .val (.slice (.pair (.int .i64) (.slice .byte)))), (1, .val (.int .i64)), (20, .val (.slice (.pair (.int .i64) (.slice .byte)))), (21, .val (.int .i64))]
 car := ⟨[(22, .val (.int .i64))], []⟩
 exits := [(.ret, ⟨[(4, .val (.slice .byte)), (5, .val (.int .i64))], []⟩), (.exit 0, ⟨[], []⟩)]
 step := fun iv x => ref8_Patch.s0 iv.2.1 iv.2.2.1 iv.2.2.2 x
noncomputable def ref8_Patch.s2 (v2_11 : (Int × (List UInt8))) (v2_53 : (List UInt8)) (v2_54 : Int) (x2_55 : Int) (o2_0 : (List UInt8)) (o2_1 : (List Bool)) : Option ((Int × ((List UInt8) × (List Bool))) ⊕ (((List UInt8) × Int) ⊕ ((List UInt8) × (List Bool)))) :=
 (cb (decide (x2_55 < v2_54)) (ck (0 ≤ x2_55 ∧ x2_55 < ((List.length v2_53 : Nat) : Int)) (let y18 : UInt8 := (rd (0 : UInt8) v2_53 x2_55); (ck (InR (v2_11.1 + x2_55)) (ck (0 ≤ (v2_11.1 + x2_55) ∧ (v2_11.1 + x2_55) < ((List.length o2_1 : Nat) : Int)) (ck ((Int.toNat (v2_11.1 + x2_55)) < List.length o2_1) (cb (List.getD o2_1 (Int.toNat (v2_11.1 + x2_55)) false) (ck (InR (v2_11.1 + x2_55)) (ck (0 ≤ (v2_11.1 + x2_55) ∧ (v2_11.1 + x2_55) < ((List.length o2_0 : Nat) : Int)) (ck ((Int.toNat (v2_11.1 + x2_55)) < List.length o2_0) (let y19 : UInt8 := (List.getD o2_0 (Int.toNat (v2_11.1 + x2_55)) (0 : UInt8)); (cb (!decide (((UInt8.toNat y19 : Nat) : Int) = ((UInt8.toNat y18 : Nat) : Int))) (some (.inr (.inl (([] : List UInt8), (12 : Int))))) (both (ck (InR (v2_11.1 + x2_55)) (ck (0 ≤ (v2_11.1 + x2_55) ∧ (v2_11.1 + x2_55) < ((List.length o2_0 : Nat) : Int)) (both (ck (InR (v2_11.1 + x2_55)) (ck ((Int.toNat (v2_11.1 + x2_55)) < List.length o2_0) (ck (0 ≤ (v2_11.1 + x2_55) ∧ (v2_11.1 + x2_55) < ((List.length o2_1 : Nat) : Int)) (ck ((Int.toNat (v2_11.1 + x2_55)) < List.length o2_1) (ck (InR (x2_55 + (1 : Int))) (some (.inl ((x2_55 + (1 : Int)), (List.set o2_0 (Int.toNat (v2_11.1 + x2_55)) y18), (List.set o2_1 (Int.toNat (v2_11.1 + x2_55)) true))))))))) (ck ((Int.toNat (v2_11.1 + x2_55)) < List.length o2_0) (ck (InR (v2_11.1 + x2_55)) (ck (0 ≤ (v2_11.1 + x2_55) ∧ (v2_11.1 + x2_55) < ((List.length o2_1 : Nat) : Int)) (ck ((Int.toNat (v2_11.1 + x2_55)) < List.length o2_1) (ck (InR (x2_55 + (1 : Int))) (some (.inl ((x2_55 + (1 : Int)), (List.set o2_0 (Int.toNat (v2_11.1 + x2_55)) y18), (List.set o2_1 (Int.toNat (v2_11.1 + x2_55)) true)))))))))))) (ck (InR (v2_11.1 + x2_55)) (ck (InR (v2_11.1 + x2_55)) (ck (0 ≤ (v2_11.1 + x2_55) ∧ (v2_11.1 + x2_55) < ((List.length o2_0 : Nat) : Int)) (ck ((Int.toNat (v2_11.1 + x2_55)) < List.length o2_0) (ck (0 ≤ (v2_11.1 + x2_55) ∧ (v2_11.1 + x2_55) < ((List.length o2_1 : Nat) : Int)) (ck ((Int.toNat (v2_11.1 + x2_55)) < List.length o2_1) (ck (InR (x2_55 + (1 : Int))) (some (.inl ((x2_55 + (1 : Int)), (List.set o2_0 (Int.toNat (v2_11.1 + x2_55)) y18), (List.set o2_1 (Int.toNat (v2_11.1 + x2_55)) true))))))))))))))))) (both (ck (InR (v2_11.1 + x2_55)) (ck (0 ≤ (v2_11.1 + x2_55) ∧ (v2_11.1 + x2_55) < ((List.length o2_0 : Nat) : Int)) (both (ck (InR (v2_11.1 + x2_55)) (ck ((Int.toNat (v2_11.1 + x2_55)) < List.length o2_0) (ck (0 ≤ (v2_11.1 + x2_55) ∧ (v2_11.1 + x2_55) < ((List.length o2_1 : Nat) : Int)) (ck ((Int.toNat (v2_11.1 + x2_55)) < List.length o2_1) (ck (InR (x2_55 + (1 : Int))) (some (.inl ((x2_55 + (1 : Int)), (List.set o2_0 (Int.toNat (v2_11.1 + x2_55)) y18), (List.set o2_1 (Int.toNat (v2_11.1 + x2_55)) true))))))))) (ck ((Int.toNat (v2_11.1 + x2_55)) < List.length o2_0) (ck (InR (v2_11.1 + x2_55)) (ck (0 ≤ (v2_11.1 + x2_55) ∧ (v2_11.1 + x2_55) < ((List.length o2_1 : Nat) : Int)) (ck ((Int.toNat (v2_11.1 + x2_55)) < List.length o2_1) (ck (InR (x2_55 + (1 : Int))) (some (.inl ((x2_55 + (1 : Int)), (List.set o2_0 (Int.toNat (v2_11.1 + x2_55)) y18), (List.set o2_1 (Int.toNat (v2_11.1 + x2_55)) true)))))))))))) (ck (InR (v2_11.1 + x2_55)) (ck (InR (v2_11.1 + x2_55)) (ck (0 ≤ (v2_11.1 + x2_55) ∧ (v2_11.1 + x2_55) < ((List.length o2_0 : Nat) : Int)) (ck ((Int.toNat (v2_11.1 + x2_55)) < List.length o2_0) (ck (0 ≤ (v2_11.1 + x2_55) ∧ (v2_11.1 + x2_55) < ((List.length o2_1 : Nat) : Int)) (ck ((Int.toNat (v2_11.1 + x2_55)) < List.length o2_1) (ck (InR (x2_55 + (1 : Int))) (some (.inl ((x2_55 + (1 : Int)), (List.set o2_0 (Int.toNat (v2_11.1 + x2_55)) y18), (List.set o2_1 (Int.toNat (v2_11.1 + x2_55)) true)))))))))))))))))) (some (.inr (.inr (o2_0, o2_1)))))
noncomputable def ref8_Patch.l2 (v2_11 : (Int × (List UInt8))) (v2_53 : (List UInt8)) (v2_54 : Int) (x2_55 : Int) (o2_0 : (List UInt8)) (o2_1 : (List Bool)) : Option (((List UInt8) × Int) ⊕ ((List UInt8) × (List Bool))) :=
 loopX (fun (x : (Int × ((List UInt8) × (List Bool)))) => ref8_Patch.s2 v2_11 v2_53 v2_54 x.1 x.2.1 x.2.2) (x2_55, o2_0, o2_1)
noncomputable def ref8_Patch.e2 : Ent where
 pre := []
 inv := [(11, .rp (.pair (.int .i64) (.slice .byte))), (46, .val (.slice (.pair (.int .i64) (.slice .byte)))), (47, .val (.int .i64)), (48, .val (.int .i64)), (53, .val (.slice .byte)), (54, .val (.int .i64))]
 car := ⟨[(8, .own 0 1), (9, .own 1 1), (55, .val (.int .i64))], [.row 5 .byte, .row 4 .bool, .dead]⟩
 exits := [(.ret, ⟨[(4, .val (.slice .byte)), (5, .val (.int .i64))], []⟩), (.exit 4, ⟨[(8, .own 0 1), (9, .own 1 1)], [.row 5 .byte, .row 4 .bool, .dead]⟩)]
 step := fun iv x => ref8_Patch.s2 iv.1 iv.2.2.2.2.1 iv.2.2.2.2.2 x.1 x.2.1 x.2.2
noncomputable def ref8_Patch.s1 (v1_46 : (List (Int × (List UInt8)))) (v1_47 : Int) (x1_48 : Int) (o1_0 : (List UInt8)) (o1_1 : (List Bool)) : Option ((Int × ((List UInt8) × (List Bool))) ⊕ (((List UInt8) × Int) ⊕ ((List UInt8) × (List Bool)))) :=
 (cb (decide (x1_48 < v1_47)) (ck (0 ≤ x1_48 ∧ x1_48 < ((List.length v1_46 : Nat) : Int)) (let y23 : (Int × (List UInt8)) := (rd ((0 : Int), ([] : (List UInt8))) v1_46 x1_48); (let y24 : Int := ((List.length y23.2 : Nat) : Int); (ob (ref8_Patch.l2 y23 y23.2 y24 (0 : Int) o1_0 o1_1) fun r25 => (caseS r25 (fun a26 => (some (.inr (.inl (a26.1, a26.2))))) (fun b27 => (ck (InR (x1_48 + (1 : Int))) (some (.inl ((x1_48 + (1 : Int)), b27.1, b27.2)))))))))) (some (.inr (.inr (o1_0, o1_1)))))
noncomputable def ref8_Patch.l1 (v1_46 : (List (Int × (List UInt8)))) (v1_47 : Int) (x1_48 : Int) (o1_0 : (List UInt8)) (o1_1 : (List Bool)) : Option (((List UInt8) × Int) ⊕ ((List UInt8) × (List Bool))) :=
 loopX (fun (x : (Int × ((List UInt8) × (List Bool)))) => ref8_Patch.s1 v1_46 v1_47 x.1 x.2.1 x.2.2) (x1_48, o1_0, o1_1)
noncomputable def ref8_Patch.e1 : Ent where
 pre := []
 inv := [(46, .val (.slice (.pair (.int .i64) (.slice .byte)))), (47, .val (.int .i64))]
 car := ⟨[(8, .own 0 1), (9, .own 1 1), (48, .val (.int .i64))], [.row 5 .byte, .row 4 .bool]⟩
 exits := [(.ret, ⟨[(4, .val (.slice .byte)), (5, .val (.int .i64))], []⟩), (.exit 2, ⟨[(8, .own 0 1), (9, .own 1 1)], [.row 5 .byte, .row 4 .bool]⟩)]
 step := fun iv x => ref8_Patch.s1 iv.1 iv.2 x.1 x.2.1 x.2.2
noncomputable def ref8_Patch.f (a0 : (List (Int × (List UInt8)))) (a1 : Int) : Option ((List UInt8) × Int) :=
 (ob (ref8_within.f a1 (0 : Int) (2000000 : Int)) fun r1 => (cb (!r1) (some (([] : List UInt8), (1 : Int))) (let y2 : Int := ((List.length a0 : Nat) : Int); (cb (decide ((20000 : Int) < y2)) (some (([] : List UInt8), (2 : Int))) (let y3 : Int := ((List.length a0 : Nat) : Int); (ob (ref8_Patch.l0 a1 a0 y3 (0 : Int)) fun r10 => (caseS r10 (fun a11 => (some (a11.1, a11.2))) (fun b12 => (dup (ck (0 ≤ a1 ∧ a1 * (1 : Int) ≤ 140737488355328) (ck (0 ≤ a1 ∧ a1 * (1 : Int) ≤ 140737488355328) (let y13 : Int := ((List.length a0 : Nat) : Int); (ob (ref8_Patch.l1 a0 y13 (0 : Int) (List.replicate (Int.toNat a1) (0 : UInt8)) (List.replicate (Int.toNat a1) false)) fun r28 => (caseS r28 (fun a29 => (some (a29.1, a29.2))) (fun b30 => (ob (slices_Contains_bool_bool.f b30.2 false) fun r31 => (cb r31 (some (([] : List UInt8), (9 : Int))) (some (b30.1, (0 : Int))))))))))))))))))))
noncomputable def ref8_Patch.fn : TFn := ⟨[(.slice (.pair (.int .i64) (.slice .byte))), (.int .i64)], [(.slice .byte), (.int .i64)], fun x => ref8_Patch.f x.1 x.2⟩
noncomputable def ref8_Patch.C : Cx := ⟨T, TYt, lkF [((35, [0, 0, 0]), ref8_within.fn), ((41, [0, 0]), slices_Contains_bool_bool.fn)], lkO [], lkD [(11, 5, [(0, true), (2, true)], some (1, [(4, true), (3, false)], 3, [(1, false), (4, true)]))], lkP [(20, 13, (.take 0 (.take 1 (.take 3 (.take 5 (.take 6 (.take 8 (.take 10 (.alt 2 (.take 4 (.take 11 (.alt 7 (.take 9 (.alt 12 .done .no)) (.alt 12 (.alt 7 (.take 9 .done) .no) .no)))) (.alt 7 (.take 9 (.alt 2 (.take 4 (.take 11 (.alt 12 .done .no))) .no)) .no))))))))))], [7, 11], [], false, [], [], lkS [], 96⟩
theorem ref8_Patch.hC : CxOK Try.prog ref8_Patch.C := ⟨tabOK, FsOK.cons ref8_within.ok (FsOK.cons slices_Contains_bool_bool.ok (FsOK.nil)), OsOK.nil, mixed, (fun t h => by cases h), (fun t e h => by cases h), SsOK.nil⟩
noncomputable def ref8_Patch.root : Code := bodyOf Try.f32
theorem ref8_Patch.h0 : LsOK Try.prog ref8_Patch.C ref8_Patch.root (lkL [([0, 1, 0, 1, 1, 1], ref8_Patch.e0)]) :=
 LsOK.cons ref8_Patch.hC (LsOK.nil) (by kernel_rfl) (fun iv x => by kernel_rfl)
theorem ref8_Patch.h2 : LsOK Try.prog ref8_Patch.C ref8_Patch.root (lkL [([0, 1, 1, 0, 0, 1, 1, 0, 0, 1, 0, 1, 1, 1, 1, 1], ref8_Patch.e2), ([0, 1, 0, 1, 1, 1], ref8_Patch.e0)]) :=
 LsOK.cons ref8_Patch.hC (ref8_Patch.h0) (by kernel_rfl) (fun iv x => by kernel_rfl)
theorem ref8_Patch.h1 : LsOK Try.prog ref8_Patch.C ref8_Patch.root (lkL [([0, 1, 0, 1, 1, 1, 1, 1], ref8_Patch.e1), ([0, 1, 1, 0, 0, 1, 1, 0, 0, 1, 0, 1, 1, 1, 1, 1], ref8_Patch.e2), ([0, 1, 0, 1, 1, 1], ref8_Patch.e0)]) :=
 LsOK.cons ref8_Patch.hC (ref8_Patch.h2) (by kernel_rfl) (fun iv x => by kernel_rfl)
theorem ref8_Patch.ok : FnOK Try.prog 32 ref8_Patch.fn :=
 FnOK.of (L := lkL [([0, 1, 0, 1, 1, 1, 1, 1], ref8_Patch.e1), ([0, 1, 1, 0, 0, 1, 1, 0, 0, 1, 0, 1, 1, 1, 1, 1], ref8_Patch.e2), ([0, 1, 0, 1, 1, 1], ref8_Patch.e0)]) (root := ref8_Patch.root) ref8_Patch.hC (enters_of (c := ref8_Patch.root) Try.func32 (by kernel_rfl) (by kernel_rfl)) Try.func32 (by kernel_rfl) (rs := [.tmp 4, .tmp 5]) (by kernel_rfl) (by kernel_rfl) ref8_Patch.h1 (fun x => by kernel_rfl)
noncomputable def slices_Equal_byte_byte.s0 (v0_0 : (List UInt8)) (v0_1 : (List UInt8)) (v0_12 : Int) (x0_13 : Int) : Option (Int ⊕ (Bool ⊕ Unit)) :=
 (cb (decide (x0_13 < v0_12)) (ck (0 ≤ x0_13 ∧ x0_13 < ((List.length v0_0 : Nat) : Int)) (let y6 : UInt8 := (rd (0 : UInt8) v0_0 x0_13); (ck (0 ≤ x0_13 ∧ x0_13 < ((List.length v0_1 : Nat) : Int)) (let y7 : UInt8 := (rd (0 : UInt8) v0_1 x0_13); (cb (!decide (((UInt8.toNat y6 : Nat) : Int) = ((UInt8.toNat y7 : Nat) : Int))) (some (.inr (.inl false))) (ck (InR (x0_13 + (1 : Int))) (some (.inl (x0_13 + (1 : Int)))))))))) (some (.inr (.inr ()))))
noncomputable def slices_Equal_byte_byte.l0 (v0_0 : (List UInt8)) (v0_1 : (List UInt8)) (v0_12 : Int) (x0_13 : Int) : Option (Bool ⊕ Unit) :=
 loopX (fun (x : Int) => slices_Equal_byte_byte.s0 v0_0 v0_1 v0_12 x) x0_13
noncomputable def slices_Equal_byte_byte.e0 : Ent where
 pre := []
 inv := [(0, .val (.slice .byte)), (1, .val (.slice .byte)), (12, .val (.int .i64))]
 car := ⟨[(13, .val (.int .i64))], []⟩
 exits := [(.ret, ⟨[(4, .val .bool)], []⟩), (.exit 0, ⟨[], []⟩)]
 step := fun iv x => slices_Equal_byte_byte.s0 iv.1 iv.2.1 iv.2.2 x
noncomputable def slices_Equal_byte_byte.f (a0 : (List UInt8)) (a1 : (List UInt8)) : Option Bool :=
 (let y1 : Int := ((List.length a0 : Nat) : Int); (let y2 : Int := ((List.length a1 : Nat) : Int); (cb (!decide (y1 = y2)) (some false) (let y3 : Int := ((List.length a0 : Nat) : Int); (ob (slices_Equal_byte_byte.l0 a0 a1 y3 (0 : Int)) fun r8 => (caseS r8 (fun a9 => (some a9)) (fun b10 => (some true))))))))
noncomputable def slices_Equal_byte_byte.fn : TFn := ⟨[(.slice .byte), (.slice .byte)], [.bool], fun x => slices_Equal_byte_byte.f x.1 x.2⟩
noncomputable def slices_Equal_byte_byte.C : Cx := ⟨T, TYt, lkF [], lkO [], lkD [(6, 8, [(0, true), (1, true), (2, true), (3, true), (4, true), (5, true), (6, true), (7, true)], none)], lkP [], [], [], false, [], [], lkS [], 26⟩
theorem slices_Equal_byte_byte.hC : CxOK Try.prog slices_Equal_byte_byte.C := ⟨tabOK, FsOK.nil, OsOK.nil, mixed, (fun t h => by cases h), (fun t e h => by cases h), SsOK.nil⟩
noncomputable def slices_Equal_byte_byte.root : Code := bodyOf Try.f26
theorem slices_Equal_byte_byte.h0 : LsOK Try.prog slices_Equal_byte_byte.C slices_Equal_byte_byte.root (lkL [([0, 1, 0, 1, 1], slices_Equal_byte_byte.e0)]) :=
 LsOK.cons slices_Equal_byte_byte.hC (LsOK.nil) (by kernel_rfl) (fun iv x => by kernel_rfl)
theorem slices_Equal_byte_byte.ok : FnOK Try.prog 26 slices_Equal_byte_byte.fn :=
 FnOK.of (L := lkL [([0, 1, 0, 1, 1], slices_Equal_byte_byte.e0)]) (root := slices_Equal_byte_byte.root) slices_Equal_byte_byte.hC (enters_of (c := slices_Equal_byte_byte.root) Try.func26 (by kernel_rfl) (by kernel_rfl)) Try.func26 (by kernel_rfl) (rs := [.tmp 4]) (by kernel_rfl) (by kernel_rfl) slices_Equal_byte_byte.h0 (fun x => by kernel_rfl)
noncomputable def ref8_SameChunks.s0 (v0_0 : (List (Int × (List UInt8)))) (v0_1 : (List (Int × (List UInt8)))) (v0_12 : Int) (x0_13 : Int) : Option (Int ⊕ (Bool ⊕ Unit)) :=
 (cb (decide (x0_13 < v0_12)) (ck (0 ≤ x0_13 ∧ x0_13 < ((List.length v0_0 : Nat) : Int)) (let y9 : Int := (rd ((0 : Int), ([] : (List UInt8))) v0_0 x0_13).1; (ck (0 ≤ x0_13 ∧ x0_13 < ((List.length v0_1 : Nat) : Int)) (let y10 : Int := (rd ((0 : Int), ([] : (List UInt8))) v0_1 x0_13).1; (cb (!decide (y9 = y10)) (some (.inr (.inl false))) (ck (0 ≤ x0_13 ∧ x0_13 < ((List.length v0_0 : Nat) : Int)) (let y11 : (List UInt8) := (rd ((0 : Int), ([] : (List UInt8))) v0_0 x0_13).2; (ck (0 ≤ x0_13 ∧ x0_13 < ((List.length v0_1 : Nat) : Int)) (let y12 : (List UInt8) := (rd ((0 : Int), ([] : (List UInt8))) v0_1 x0_13).2; (ob (slices_Equal_byte_byte.f y11 y12) fun r13 => (cb (!r13) (some (.inr (.inl false))) (ck (InR (x0_13 + (1 : Int))) (some (.inl (x0_13 + (1 : Int)))))))))))))))) (some (.inr (.inr ()))))
noncomputable def ref8_SameChunks.l0 (v0_0 : (List (Int × (List UInt8)))) (v0_1 : (List (Int × (List UInt8)))) (v0_12 : Int) (x0_13 : Int) : Option (Bool ⊕ Unit) :=
 loopX (fun (x : Int) => ref8_SameChunks.s0 v0_0 v0_1 v0_12 x) x0_13
noncomputable def ref8_SameChunks.e0 : Ent where
 pre := []
 inv := [(0, .val (.slice (.pair (.int .i64) (.slice .byte)))), (1, .val (.slice (.pair (.int .i64) (.slice .byte)))), (12, .val (.int .i64))]
 car := ⟨[(13, .val (.int .i64))], []⟩
 exits := [(.ret, ⟨[(4, .val .bool)], []⟩), (.exit 0, ⟨[], []⟩)]
 step := fun iv x => ref8_SameChunks.s0 iv.1 iv.2.1 iv.2.2 x
noncomputable def ref8_SameChunks.f (a0 : (List (Int × (List UInt8)))) (a1 : (List (Int × (List UInt8)))) : Option Bool :=
 (let y1 : Int := ((List.length a0 : Nat) : Int); (let y2 : Int := ((List.length a1 : Nat) : Int); (cb (!decide (y1 = y2)) (some false) (let y3 : Int := ((List.length a0 : Nat) : Int); (ob (ref8_SameChunks.l0 a0 a1 y3 (0 : Int)) fun r14 => (caseS r14 (fun a15 => (some a15)) (fun b16 => (some true))))))))
noncomputable def ref8_SameChunks.fn : TFn := ⟨[(.slice (.pair (.int .i64) (.slice .byte))), (.slice (.pair (.int .i64) (.slice .byte)))], [.bool], fun x => ref8_SameChunks.f x.1 x.2⟩
noncomputable def ref8_SameChunks.C : Cx := ⟨T, TYt, lkF [((26, [0, 0]), slices_Equal_byte_byte.fn)], lkO [], lkD [(6, 22, [(0, true), (1, true), (2, true), (3, true), (4, true), (5, true), (6, true), (7, true), (8, true), (9, true), (10, true), (11, true), (12, true), (13, true), (14, true), (15, true), (16, true), (17, true), (18, true), (19, true), (20, true), (21, true)], none)], lkP [], [], [], false, [], [], lkS [], 42⟩
theorem ref8_SameChunks.hC : CxOK Try.prog ref8_SameChunks.C := ⟨tabOK, FsOK.cons slices_Equal_byte_byte.ok (FsOK.nil), OsOK.nil, mixed, (fun t h => by cases h), (fun t e h => by cases h), SsOK.nil⟩
noncomputable def ref8_SameChunks.root : Code := bodyOf Try.f33
theorem ref8_SameChunks.h0 : LsOK Try.prog ref8_SameChunks.C ref8_SameChunks.root (lkL [([0, 1, 0, 1, 1], ref8_SameChunks.e0)]) :=
 LsOK.cons ref8_SameChunks.hC (LsOK.nil) (by kernel_rfl) (fun iv x => by kernel_rfl)
theorem ref8_SameChunks.ok : FnOK Try.prog 33 ref8_SameChunks.fn :=
 FnOK.of (L := lkL [([0, 1, 0, 1, 1], ref8_SameChunks.e0)]) (root := ref8_SameChunks.root) ref8_SameChunks.hC (enters_of (c := ref8_SameChunks.root) Try.func33 (by kernel_rfl) (by kernel_rfl)) Try.func33 (by kernel_rfl) (rs := [.tmp 4]) (by kernel_rfl) (by kernel_rfl) ref8_SameChunks.h0 (fun x => by kernel_rfl)
noncomputable def law8_WireRangesMatchSpec.f (a0 : Int) (a1 : (List (Int × Int))) (a2 : (List (Int × (List UInt8)))) : Option Bool :=
 (ob (slices_Clone_api_Span_api_Span.f a1) fun r1 => (ob (ref8_CopyChunks.f a2) fun r2 => (ob (wire_Ranges.f a0 a1) fun r3 => (ob (ref8_Ranges.f a0 r1) fun r4 => (cb (!decide (r3.2 = r4.2)) (some false) (ob (slices_Equal_api_Span_api_Span.f r3.1 r4.1) fun r5 => (cb (!r5) (some false) (ob (wire_Patch.f a2 a0) fun r6 => (ob (ref8_Patch.f r2 a0) fun r7 => (cb (decide (r6.2 = r7.2)) (ob (slices_Equal_byte_byte.f r6.1 r7.1) fun r8 => (cb r8 (ob (slices_Equal_api_Span_api_Span.f a1 r1) fun r9 => (cb r9 (ob (ref8_SameChunks.f a2 r2) fun r10 => (cb r10 (ob (law8_awake.f) fun r11 => (some r11)) (some false))) (some false))) (some false))) (some false)))))))))))
noncomputable def law8_WireRangesMatchSpec.fn : TFn := ⟨[(.int .i64), (.slice (.pair (.int .i64) (.int .i64))), (.slice (.pair (.int .i64) (.slice .byte)))], [.bool], fun x => law8_WireRangesMatchSpec.f x.1 x.2.1 x.2.2⟩
noncomputable def law8_WireRangesMatchSpec.C : Cx := ⟨T, TYt, lkF [((10, []), law8_awake.fn), ((25, [0, 0]), wire_Patch.fn), ((26, [0, 0]), slices_Equal_byte_byte.fn), ((27, [0, 0]), wire_Ranges.fn), ((28, [0]), slices_Clone_api_Span_api_Span.fn), ((29, [0]), ref8_CopyChunks.fn), ((30, [0, 0]), ref8_Ranges.fn), ((31, [0, 0]), slices_Equal_api_Span_api_Span.fn), ((32, [0, 0]), ref8_Patch.fn), ((33, [0, 0]), ref8_SameChunks.fn)], lkO [], lkD [], lkP [], [], [], false, [], [], lkS [], 73⟩
theorem law8_WireRangesMatchSpec.hC : CxOK Try.prog law8_WireRangesMatchSpec.C := ⟨tabOK, FsOK.cons law8_awake.ok (FsOK.cons wire_Patch.ok (FsOK.cons slices_Equal_byte_byte.ok (FsOK.cons wire_Ranges.ok (FsOK.cons slices_Clone_api_Span_api_Span.ok (FsOK.cons ref8_CopyChunks.ok (FsOK.cons ref8_Ranges.ok (FsOK.cons slices_Equal_api_Span_api_Span.ok (FsOK.cons ref8_Patch.ok (FsOK.cons ref8_SameChunks.ok (FsOK.nil)))))))))), OsOK.nil, mixed, (fun t h => by cases h), (fun t e h => by cases h), SsOK.nil⟩
noncomputable def law8_WireRangesMatchSpec.root : Code := bodyOf Try.f8
theorem law8_WireRangesMatchSpec.ok : FnOK Try.prog 8 law8_WireRangesMatchSpec.fn :=
 FnOK.of (L := lkL []) (root := law8_WireRangesMatchSpec.root) law8_WireRangesMatchSpec.hC (enters_of (c := law8_WireRangesMatchSpec.root) Try.func8 (by kernel_rfl) (by kernel_rfl)) Try.func8 (by kernel_rfl) (rs := [.tmp 6]) (by kernel_rfl) (by kernel_rfl) LsOK.nil (fun x => by kernel_rfl)
end Go.Proofs.Ytpeiomhgaembaaa
