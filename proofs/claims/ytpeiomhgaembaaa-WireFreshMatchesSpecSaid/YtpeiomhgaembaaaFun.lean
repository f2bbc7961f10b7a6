/-
  What the program's functions that the laws of this seat reach compute, as plain functions: printed by a program, each checked by the kernel. No condition.
-/
import Derived.Test.YtpeiomhgaembaaaTypes
set_option linter.unusedVariables false
set_option maxRecDepth 100000
namespace Go.Proofs.Ytpeiomhgaembaaa
open Go Go.Proofs.Ytpeiomhgaembaaa.Eng
def bs_ : ByteArray := ⟨#[]⟩

/-- wire.within -/
noncomputable def wire_within.f (a0 : Int) (a1 : Int) (a2 : Int) : Option Bool :=
  (cb (decide (a1 ≤ a0)) (some (decide (a0 ≤ a2))) (some false))
noncomputable def wire_within.fn : TFn := ⟨[(.int .i64), (.int .i64), (.int .i64)], [.bool], fun x => wire_within.f x.1 x.2.1 x.2.2⟩
noncomputable def wire_within.C : Cx := ⟨T, TYt, lkF [], lkO [], lkD [], [], [], false, [], 15⟩
theorem wire_within.hC : CxOK Try.prog wire_within.C := ⟨tabOK, FsOK.nil, OsOK.nil, mixed, (fun t h => by cases h), (fun t e h => by cases h)⟩
noncomputable def wire_within.root : Code := bodyOf Try.f34
theorem wire_within.ok : FnOK Try.prog 34 wire_within.fn :=
  FnOK.of (L := lkL []) (root := wire_within.root) wire_within.hC (enters_of (c := wire_within.root) Try.func34 (by kernel_rfl) (by kernel_rfl)) Try.func34 (by kernel_rfl) (rs := [.tmp 6]) (by kernel_rfl) (by kernel_rfl) LsOK.nil (fun x => by kernel_rfl)
/-- wire.CheckQuota -/
noncomputable def wire_CheckQuota.f (a0 : (Int × Int)) : Option Int :=
  (ob (wire_within.f a0.1 (1 : Int) (1000000000 : Int)) fun r1 => (cb (!r1) (some (1 : Int)) (ob (wire_within.f a0.2 (1 : Int) (1000000000 : Int)) fun r2 => (cb (!r2) (some (1 : Int)) (some (0 : Int))))))
noncomputable def wire_CheckQuota.fn : TFn := ⟨[(.pair (.int .i64) (.int .i64))], [(.int .i64)], fun x => wire_CheckQuota.f x⟩
noncomputable def wire_CheckQuota.C : Cx := ⟨T, TYt, lkF [(34, wire_within.fn)], lkO [], lkD [], [1], [], false, [], 13⟩
theorem wire_CheckQuota.hC : CxOK Try.prog wire_CheckQuota.C := ⟨tabOK, FsOK.cons wire_within.ok (FsOK.nil), OsOK.nil, mixed, (fun t h => by cases h), (fun t e h => by cases h)⟩
noncomputable def wire_CheckQuota.root : Code := bodyOf Try.f14
theorem wire_CheckQuota.ok : FnOK Try.prog 14 wire_CheckQuota.fn :=
  FnOK.of (L := lkL []) (root := wire_CheckQuota.root) wire_CheckQuota.hC (enters_of (c := wire_CheckQuota.root) Try.func14 (by kernel_rfl) (by kernel_rfl)) Try.func14 (by kernel_rfl) (rs := [.tmp 2]) (by kernel_rfl) (by kernel_rfl) LsOK.nil (fun x => by kernel_rfl)
noncomputable def wire_Starts.s0 (v0_1 : (List (Int × Int))) (v0_2 : (Int × Int)) (v0_24 : (List (Int × Int))) (v0_25 : Int) (x0_26 : Int) : Option (Int ⊕ (((List Int) × Int) ⊕ Unit)) :=
  (cb (decide (x0_26 < v0_25)) (ck (0 ≤ x0_26 ∧ x0_26 < ((List.length v0_24 : Nat) : Int)) (let y8 : (Int × Int) := (rd ((0 : Int), (0 : Int)) v0_24 x0_26); (ob (wire_within.f y8.1 (0 : Int) (1000000000 : Int)) fun r9 => (cb (!r9) (some (.inr (.inl (([] : List Int), (1 : Int))))) (ob (wire_within.f y8.2 (0 : Int) v0_2.2) fun r10 => (cb (!r10) (some (.inr (.inl (([] : List Int), (1 : Int))))) (cb (decide ((0 : Int) < x0_26)) (ck (InR (x0_26 - (1 : Int))) (ck (0 ≤ (x0_26 - (1 : Int)) ∧ (x0_26 - (1 : Int)) < ((List.length v0_1 : Nat) : Int)) (let y11 : Int := (rd ((0 : Int), (0 : Int)) v0_1 (x0_26 - (1 : Int))).1; (cb (decide (y8.1 < y11)) (some (.inr (.inl (([] : List Int), (8 : Int))))) (ck (InR (x0_26 + (1 : Int))) (some (.inl (x0_26 + (1 : Int))))))))) (ck (InR (x0_26 + (1 : Int))) (some (.inl (x0_26 + (1 : Int)))))))))))) (some (.inr (.inr ()))))
noncomputable def wire_Starts.l0 (v0_1 : (List (Int × Int))) (v0_2 : (Int × Int)) (v0_24 : (List (Int × Int))) (v0_25 : Int) (x0_26 : Int) : Option (((List Int) × Int) ⊕ Unit) :=
  loopX (fun (x : Int) => wire_Starts.s0 v0_1 v0_2 v0_24 v0_25 x) x0_26
noncomputable def wire_Starts.e0 : Ent where
  pre := []
  inv := [(1, .val (.slice (.pair (.int .i64) (.int .i64)))), (2, .rp (.pair (.int .i64) (.int .i64))), (24, .val (.slice (.pair (.int .i64) (.int .i64)))), (25, .val (.int .i64))]
  car := ⟨[(26, .val (.int .i64))], []⟩
  exits := [(.ret, ⟨[(4, .val (.slice (.int .i64))), (5, .val (.int .i64))], []⟩), (.exit 0, ⟨[], []⟩)]
  step := fun iv x => wire_Starts.s0 iv.1 iv.2.1 iv.2.2.1 iv.2.2.2 x
noncomputable def wire_Starts.s1 (v1_2 : (Int × Int)) (v1_59 : (List (Int × Int))) (v1_60 : Int) (x1_10 : Int) (x1_11 : Int) (x1_61 : Int) (o1_0 : (List Int)) : Option ((Int × (Int × (Int × (List Int)))) ⊕ (Int × (List Int))) :=
  (cb (decide (x1_61 < v1_60)) (ck (0 ≤ x1_61 ∧ x1_61 < ((List.length v1_59 : Nat) : Int)) (let y23 : (Int × Int) := (rd ((0 : Int), (0 : Int)) v1_59 x1_61); (ck (InR (y23.1 - x1_10)) (let y24 : Int := (max (y23.1 - x1_10) (0 : Int)); (ck (InR (y23.2 - x1_11)) (cb (decide ((0 : Int) < (y23.2 - x1_11))) (ck (InR ((y23.2 - x1_11) + v1_2.1)) (let y25 : Int := ((y23.2 - x1_11) + v1_2.1); (ck (InR (y25 - (1 : Int))) (ck (0 ≤ (y25 - (1 : Int)) ∧ 0 < v1_2.1 ∧ (y25 - (1 : Int)) ≤ 9223372036854775807) (let y26 : Int := ((y25 - (1 : Int)) / v1_2.1); (ck (InR ((max y24 y26) * v1_2.1)) (ck (InR (x1_11 + ((max y24 y26) * v1_2.1))) (let y27 : Int := (x1_11 + ((max y24 y26) * v1_2.1)); (ck (InR ((min v1_2.2 y27) - y23.2)) (let y28 : Int := ((min v1_2.2 y27) - y23.2); (ck (InR (x1_10 + (max y24 y26))) (ck ((List.length o1_0 + List.length ([(x1_10 + (max y24 y26))] : List Int)) * 8 ≤ 140737488355328) (ck (InR (x1_61 + (1 : Int))) (some (.inl ((x1_10 + (max y24 y26)), y28, (x1_61 + (1 : Int)), (o1_0 ++ ([(x1_10 + (max y24 y26))] : List Int)))))))))))))))))) (ck (InR (y24 * v1_2.1)) (ck (InR (x1_11 + (y24 * v1_2.1))) (let y29 : Int := (min v1_2.2 (x1_11 + (y24 * v1_2.1))); (ck (InR (y29 - y23.2)) (ck (InR (x1_10 + y24)) (ck ((List.length o1_0 + List.length ([(x1_10 + y24)] : List Int)) * 8 ≤ 140737488355328) (ck (InR (x1_61 + (1 : Int))) (some (.inl ((x1_10 + y24), (y29 - y23.2), (x1_61 + (1 : Int)), (o1_0 ++ ([(x1_10 + y24)] : List Int)))))))))))))))))) (some (.inr (x1_10, o1_0))))
noncomputable def wire_Starts.l1 (v1_2 : (Int × Int)) (v1_59 : (List (Int × Int))) (v1_60 : Int) (x1_10 : Int) (x1_11 : Int) (x1_61 : Int) (o1_0 : (List Int)) : Option (Int × (List Int)) :=
  loopX (fun (x : (Int × (Int × (Int × (List Int))))) => wire_Starts.s1 v1_2 v1_59 v1_60 x.1 x.2.1 x.2.2.1 x.2.2.2) (x1_10, x1_11, x1_61, o1_0)
noncomputable def wire_Starts.e1 : Ent where
  pre := [.nil 9 3 (.int .i64)]
  inv := [(2, .rp (.pair (.int .i64) (.int .i64))), (59, .val (.slice (.pair (.int .i64) (.int .i64)))), (60, .val (.int .i64))]
  car := ⟨[(9, .own 0 1), (10, .val (.int .i64)), (11, .val (.int .i64)), (61, .val (.int .i64))], [.row 3 (.int .i64)]⟩
  exits := [(.exit 2, ⟨[(9, .own 0 1), (10, .val (.int .i64))], [.row 3 (.int .i64)]⟩)]
  step := fun iv x => wire_Starts.s1 iv.1 iv.2.1 iv.2.2 x.1 x.2.1 x.2.2.1 x.2.2.2
/-- wire.Starts -/
noncomputable def wire_Starts.f (a0 : (Int × Int)) (a1 : (List (Int × Int))) : Option ((List Int) × Int) :=
  (ob (wire_CheckQuota.f a0) fun r1 => (cb (!decide (r1 = (0 : Int))) (some (([] : List Int), r1)) (let y2 : Int := ((List.length a1 : Nat) : Int); (cb (decide ((2000 : Int) < y2)) (some (([] : List Int), (2 : Int))) (let y3 : Int := ((List.length a1 : Nat) : Int); (ob (wire_Starts.l0 a1 a0 a1 y3 (0 : Int)) fun r12 => (caseS r12 (fun a13 => (some (a13.1, a13.2))) (fun b14 => (let y15 : Int := ((List.length a1 : Nat) : Int); (ob (wire_Starts.l1 a0 a1 y15 (0 : Int) a0.2 (0 : Int) ([] : List Int)) fun r30 => (cb (decide ((1000000000 : Int) < r30.1)) (some (([] : List Int), (1 : Int))) (some (r30.2, (0 : Int))))))))))))))
noncomputable def wire_Starts.fn : TFn := ⟨[(.pair (.int .i64) (.int .i64)), (.slice (.pair (.int .i64) (.int .i64)))], [(.slice (.int .i64)), (.int .i64)], fun x => wire_Starts.f x.1 x.2⟩
noncomputable def wire_Starts.C : Cx := ⟨T, TYt, lkF [(14, wire_CheckQuota.fn), (34, wire_within.fn)], lkO [], lkD [(11, 11, [(0, true), (1, true), (2, true), (3, true), (4, true), (5, true), (6, true), (7, true), (8, true), (9, true), (10, true)], none), (15, 3, [(0, true), (1, true), (2, true)], none)], [2, 8, 13], [], false, [], 109⟩
theorem wire_Starts.hC : CxOK Try.prog wire_Starts.C := ⟨tabOK, FsOK.cons wire_CheckQuota.ok (FsOK.cons wire_within.ok (FsOK.nil)), OsOK.nil, mixed, (fun t h => by cases h), (fun t e h => by cases h)⟩
noncomputable def wire_Starts.root : Code := bodyOf Try.f9
theorem wire_Starts.h0 : LsOK Try.prog wire_Starts.C wire_Starts.root (lkL [([0, 1, 0, 1, 1, 1], wire_Starts.e0)]) :=
  LsOK.cons wire_Starts.hC (LsOK.nil) (by kernel_rfl) (fun iv x => by kernel_rfl)
theorem wire_Starts.h1 : LsOK Try.prog wire_Starts.C wire_Starts.root (lkL [([0, 1, 0, 1, 1, 1, 1, 1, 1], wire_Starts.e1), ([0, 1, 0, 1, 1, 1], wire_Starts.e0)]) :=
  LsOK.cons wire_Starts.hC (wire_Starts.h0) (by kernel_rfl) (fun iv x => by kernel_rfl)
theorem wire_Starts.ok : FnOK Try.prog 9 wire_Starts.fn :=
  FnOK.of (L := lkL [([0, 1, 0, 1, 1, 1, 1, 1, 1], wire_Starts.e1), ([0, 1, 0, 1, 1, 1], wire_Starts.e0)]) (root := wire_Starts.root) wire_Starts.hC (enters_of (c := wire_Starts.root) Try.func9 (by kernel_rfl) (by kernel_rfl)) Try.func9 (by kernel_rfl) (rs := [.tmp 4, .tmp 5]) (by kernel_rfl) (by kernel_rfl) wire_Starts.h1 (fun x => by kernel_rfl)
/-- smithyardlaw8.awake -/
noncomputable def law8_awake.f : Option Bool :=
  (ob (wire_Starts.f ((2 : Int), (10 : Int)) ([((0 : Int), (8 : Int)), ((0 : Int), (8 : Int))] : List (Int × Int))) fun r1 => (cb (decide (r1.2 = (0 : Int))) (let y2 : Int := ((List.length r1.1 : Nat) : Int); (cb (decide (y2 = (2 : Int))) (ck (0 ≤ (0 : Int) ∧ (0 : Int) < ((List.length r1.1 : Nat) : Int)) (let y3 : Int := (rd (0 : Int) r1.1 (0 : Int)); (cb (decide (y3 = (0 : Int))) (ck (0 ≤ (1 : Int) ∧ (1 : Int) < ((List.length r1.1 : Nat) : Int)) (let y4 : Int := (rd (0 : Int) r1.1 (1 : Int)); (some (decide (y4 = (3 : Int)))))) (some false)))) (some false))) (some false)))
noncomputable def law8_awake.fn : TFn := ⟨[], [.bool], fun x => law8_awake.f⟩
noncomputable def law8_awake.C : Cx := ⟨T, TYt, lkF [(9, wire_Starts.fn)], lkO [], lkD [], [], [], false, [], 30⟩
theorem law8_awake.hC : CxOK Try.prog law8_awake.C := ⟨tabOK, FsOK.cons wire_Starts.ok (FsOK.nil), OsOK.nil, mixed, (fun t h => by cases h), (fun t e h => by cases h)⟩
noncomputable def law8_awake.root : Code := bodyOf Try.f10
theorem law8_awake.ok : FnOK Try.prog 10 law8_awake.fn :=
  FnOK.of (L := lkL []) (root := law8_awake.root) law8_awake.hC (enters_of (c := law8_awake.root) Try.func10 (by kernel_rfl) (by kernel_rfl)) Try.func10 (by kernel_rfl) (rs := [.tmp 0]) (by kernel_rfl) (by kernel_rfl) LsOK.nil (fun x => by kernel_rfl)
noncomputable def wire_Sent.s0 (v0_1 : (List (Int × Int))) (v0_2 : Int) (v0_3 : Int) (v0_32 : (List Int)) (v0_33 : Int) (x0_12 : Int) (x0_34 : Int) : Option ((Int × Int) ⊕ Int) :=
  (cb (decide (x0_34 < v0_33)) (ck (0 ≤ x0_34 ∧ x0_34 < ((List.length v0_32 : Nat) : Int)) (let y7 : Int := (rd (0 : Int) v0_32 x0_34); (cb (decide (v0_2 ≤ y7)) (cb (decide (y7 < v0_3)) (ck (0 ≤ x0_34 ∧ x0_34 < ((List.length v0_1 : Nat) : Int)) (let y8 : Int := (rd ((0 : Int), (0 : Int)) v0_1 x0_34).2; (ck (InR (x0_12 + y8)) (ck (InR (x0_34 + (1 : Int))) (some (.inl ((x0_12 + y8), (x0_34 + (1 : Int))))))))) (ck (InR (x0_34 + (1 : Int))) (some (.inl (x0_12, (x0_34 + (1 : Int))))))) (ck (InR (x0_34 + (1 : Int))) (some (.inl (x0_12, (x0_34 + (1 : Int))))))))) (some (.inr x0_12)))
noncomputable def wire_Sent.l0 (v0_1 : (List (Int × Int))) (v0_2 : Int) (v0_3 : Int) (v0_32 : (List Int)) (v0_33 : Int) (x0_12 : Int) (x0_34 : Int) : Option Int :=
  loopX (fun (x : (Int × Int)) => wire_Sent.s0 v0_1 v0_2 v0_3 v0_32 v0_33 x.1 x.2) (x0_12, x0_34)
noncomputable def wire_Sent.e0 : Ent where
  pre := []
  inv := [(1, .val (.slice (.pair (.int .i64) (.int .i64)))), (2, .val (.int .i64)), (3, .val (.int .i64)), (32, .val (.slice (.int .i64))), (33, .val (.int .i64))]
  car := ⟨[(12, .val (.int .i64)), (34, .val (.int .i64))], []⟩
  exits := [(.exit 0, ⟨[(12, .val (.int .i64))], []⟩)]
  step := fun iv x => wire_Sent.s0 iv.1 iv.2.1 iv.2.2.1 iv.2.2.2.1 iv.2.2.2.2 x.1 x.2
/-- wire.Sent -/
noncomputable def wire_Sent.f (a0 : (Int × Int)) (a1 : (List (Int × Int))) (a2 : Int) (a3 : Int) : Option (Int × Int) :=
  (ob (wire_Starts.f a0 a1) fun r1 => (cb (!decide (r1.2 = (0 : Int))) (some ((0 : Int), r1.2)) (ob (wire_within.f a2 (0 : Int) (1000000001 : Int)) fun r2 => (cb (!r2) (some ((0 : Int), (1 : Int))) (ob (wire_within.f a3 (0 : Int) (1000000001 : Int)) fun r3 => (cb (!r3) (some ((0 : Int), (1 : Int))) (let y4 : Int := ((List.length r1.1 : Nat) : Int); (ob (wire_Sent.l0 a1 a2 a3 r1.1 y4 (0 : Int) (0 : Int)) fun r9 => (some (r9, (0 : Int)))))))))))
noncomputable def wire_Sent.fn : TFn := ⟨[(.pair (.int .i64) (.int .i64)), (.slice (.pair (.int .i64) (.int .i64))), (.int .i64), (.int .i64)], [(.int .i64), (.int .i64)], fun x => wire_Sent.f x.1 x.2.1 x.2.2.1 x.2.2.2⟩
noncomputable def wire_Sent.C : Cx := ⟨T, TYt, lkF [(9, wire_Starts.fn), (34, wire_within.fn)], lkO [], lkD [], [4], [], false, [], 56⟩
theorem wire_Sent.hC : CxOK Try.prog wire_Sent.C := ⟨tabOK, FsOK.cons wire_Starts.ok (FsOK.cons wire_within.ok (FsOK.nil)), OsOK.nil, mixed, (fun t h => by cases h), (fun t e h => by cases h)⟩
noncomputable def wire_Sent.root : Code := bodyOf Try.f11
theorem wire_Sent.h0 : LsOK Try.prog wire_Sent.C wire_Sent.root (lkL [([0, 1, 0, 1, 1, 1, 1, 1], wire_Sent.e0)]) :=
  LsOK.cons wire_Sent.hC (LsOK.nil) (by kernel_rfl) (fun iv x => by kernel_rfl)
theorem wire_Sent.ok : FnOK Try.prog 11 wire_Sent.fn :=
  FnOK.of (L := lkL [([0, 1, 0, 1, 1, 1, 1, 1], wire_Sent.e0)]) (root := wire_Sent.root) wire_Sent.hC (enters_of (c := wire_Sent.root) Try.func11 (by kernel_rfl) (by kernel_rfl)) Try.func11 (by kernel_rfl) (rs := [.tmp 8, .tmp 9]) (by kernel_rfl) (by kernel_rfl) wire_Sent.h0 (fun x => by kernel_rfl)
noncomputable def law8_WireQuotasHold.s0 (v0_1 : (List (Int × Int))) (v0_9 : (List Int)) (v0_33 : (List Int)) (v0_34 : Int) (x0_35 : Int) : Option (Int ⊕ (Bool ⊕ Unit)) :=
  (cb (decide (x0_35 < v0_34)) (ck (0 ≤ x0_35 ∧ x0_35 < ((List.length v0_33 : Nat) : Int)) (let y10 : Int := (rd (0 : Int) v0_33 x0_35); (ck (0 ≤ x0_35 ∧ x0_35 < ((List.length v0_1 : Nat) : Int)) (let y11 : Int := (rd ((0 : Int), (0 : Int)) v0_1 x0_35).1; (cb (decide (y10 < y11)) (some (.inr (.inl false))) (cb (decide ((0 : Int) < x0_35)) (ck (InR (x0_35 - (1 : Int))) (ck (0 ≤ (x0_35 - (1 : Int)) ∧ (x0_35 - (1 : Int)) < ((List.length v0_9 : Nat) : Int)) (let y12 : Int := (rd (0 : Int) v0_9 (x0_35 - (1 : Int))); (cb (decide (y10 < y12)) (some (.inr (.inl false))) (ck (InR (x0_35 + (1 : Int))) (some (.inl (x0_35 + (1 : Int))))))))) (ck (InR (x0_35 + (1 : Int))) (some (.inl (x0_35 + (1 : Int))))))))))) (some (.inr (.inr ()))))
noncomputable def law8_WireQuotasHold.l0 (v0_1 : (List (Int × Int))) (v0_9 : (List Int)) (v0_33 : (List Int)) (v0_34 : Int) (x0_35 : Int) : Option (Bool ⊕ Unit) :=
  loopX (fun (x : Int) => law8_WireQuotasHold.s0 v0_1 v0_9 v0_33 v0_34 x) x0_35
noncomputable def law8_WireQuotasHold.e0 : Ent where
  pre := []
  inv := [(1, .val (.slice (.pair (.int .i64) (.int .i64)))), (2, .val (.int .i64)), (3, .val (.int .i64)), (4, .rp (.pair (.int .i64) (.int .i64))), (9, .val (.slice (.int .i64))), (33, .val (.slice (.int .i64))), (34, .val (.int .i64))]
  car := ⟨[(35, .val (.int .i64))], []⟩
  exits := [(.ret, ⟨[(8, .val .bool)], []⟩), (.exit 0, ⟨[], []⟩)]
  step := fun iv x => law8_WireQuotasHold.s0 iv.1 iv.2.2.2.2.1 iv.2.2.2.2.2.1 iv.2.2.2.2.2.2 x
/-- smithyardlaw8.WireQuotasHold -/
noncomputable def law8_WireQuotasHold.f (a0 : (Int × Int)) (a1 : (List (Int × Int))) (a2 : Int) (a3 : Int) : Option Bool :=
  (ob (wire_Starts.f a0 a1) fun r1 => (cb (!decide (r1.2 = (0 : Int))) (let y2 : Int := ((List.length r1.1 : Nat) : Int); (cb (decide (y2 = (0 : Int))) (ob (law8_awake.f) fun r3 => (some r3)) (some false))) (let y4 : Int := ((List.length r1.1 : Nat) : Int); (let y5 : Int := ((List.length a1 : Nat) : Int); (cb (!decide (y4 = y5)) (some false) (let y6 : Int := ((List.length r1.1 : Nat) : Int); (ob (law8_WireQuotasHold.l0 a1 r1.1 r1.1 y6 (0 : Int)) fun r13 => (caseS r13 (fun a14 => (some a14)) (fun b15 => (ob (wire_Sent.f a0 a1 a2 a3) fun r16 => (cb (!decide (r16.2 = (0 : Int))) (cb (decide (r16.1 = (0 : Int))) (ob (law8_awake.f) fun r17 => (some r17)) (some false)) (cb (decide (a3 ≤ a2)) (cb (decide (r16.1 = (0 : Int))) (ob (law8_awake.f) fun r18 => (some r18)) (some false)) (ck (InR (a3 - a2)) (ck (InR ((a3 - a2) * a0.1)) (ck (InR (a0.2 + ((a3 - a2) * a0.1))) (let y19 : Int := (a0.2 + ((a3 - a2) * a0.1)); (cb (decide (r16.1 ≤ y19)) (ob (law8_awake.f) fun r20 => (some r20)) (some false))))))))))))))))))
noncomputable def law8_WireQuotasHold.fn : TFn := ⟨[(.pair (.int .i64) (.int .i64)), (.slice (.pair (.int .i64) (.int .i64))), (.int .i64), (.int .i64)], [.bool], fun x => law8_WireQuotasHold.f x.1 x.2.1 x.2.2.1 x.2.2.2⟩
noncomputable def law8_WireQuotasHold.C : Cx := ⟨T, TYt, lkF [(9, wire_Starts.fn), (10, law8_awake.fn), (11, wire_Sent.fn)], lkO [], lkD [], [4], [], false, [], 95⟩
theorem law8_WireQuotasHold.hC : CxOK Try.prog law8_WireQuotasHold.C := ⟨tabOK, FsOK.cons wire_Starts.ok (FsOK.cons law8_awake.ok (FsOK.cons wire_Sent.ok (FsOK.nil))), OsOK.nil, mixed, (fun t h => by cases h), (fun t e h => by cases h)⟩
noncomputable def law8_WireQuotasHold.root : Code := bodyOf Try.f3
theorem law8_WireQuotasHold.h0 : LsOK Try.prog law8_WireQuotasHold.C law8_WireQuotasHold.root (lkL [([0, 1, 0, 1, 1, 1, 1], law8_WireQuotasHold.e0)]) :=
  LsOK.cons law8_WireQuotasHold.hC (LsOK.nil) (by kernel_rfl) (fun iv x => by kernel_rfl)
theorem law8_WireQuotasHold.ok : FnOK Try.prog 3 law8_WireQuotasHold.fn :=
  FnOK.of (L := lkL [([0, 1, 0, 1, 1, 1, 1], law8_WireQuotasHold.e0)]) (root := law8_WireQuotasHold.root) law8_WireQuotasHold.hC (enters_of (c := law8_WireQuotasHold.root) Try.func3 (by kernel_rfl) (by kernel_rfl)) Try.func3 (by kernel_rfl) (rs := [.tmp 8]) (by kernel_rfl) (by kernel_rfl) law8_WireQuotasHold.h0 (fun x => by kernel_rfl)
/-- slices.Clone[[]api.Ask,api.Ask] -/
noncomputable def slices_Clone_api_Ask_api_Ask.f (a0 : (List (Int × Int))) : Option (List (Int × Int)) :=
  (nq (¬ a0 = ([] : List (Int × Int))) (ck ((List.length ([] : List (Int × Int)) + List.length a0) * 16 ≤ 140737488355328) (some (([] : List (Int × Int)) ++ a0))) (some ([] : List (Int × Int))))
noncomputable def slices_Clone_api_Ask_api_Ask.fn : TFn := ⟨[(.slice (.pair (.int .i64) (.int .i64)))], [(.slice (.pair (.int .i64) (.int .i64)))], fun x => slices_Clone_api_Ask_api_Ask.f x⟩
noncomputable def slices_Clone_api_Ask_api_Ask.C : Cx := ⟨T, TYt, lkF [], lkO [], lkD [], [], [], false, [], 8⟩
theorem slices_Clone_api_Ask_api_Ask.hC : CxOK Try.prog slices_Clone_api_Ask_api_Ask.C := ⟨tabOK, FsOK.nil, OsOK.nil, mixed, (fun t h => by cases h), (fun t e h => by cases h)⟩
noncomputable def slices_Clone_api_Ask_api_Ask.root : Code := bodyOf Try.f12
theorem slices_Clone_api_Ask_api_Ask.ok : FnOK Try.prog 12 slices_Clone_api_Ask_api_Ask.fn :=
  FnOK.of (L := lkL []) (root := slices_Clone_api_Ask_api_Ask.root) slices_Clone_api_Ask_api_Ask.hC (enters_of (c := slices_Clone_api_Ask_api_Ask.root) Try.func12 (by kernel_rfl) (by kernel_rfl)) Try.func12 (by kernel_rfl) (rs := [.tmp 2]) (by kernel_rfl) (by kernel_rfl) LsOK.nil (fun x => by kernel_rfl)
/-- smithyardref8.within -/
noncomputable def ref8_within.f (a0 : Int) (a1 : Int) (a2 : Int) : Option Bool :=
  (cb (decide (a1 ≤ a0)) (some (decide (a0 ≤ a2))) (some false))
noncomputable def ref8_within.fn : TFn := ⟨[(.int .i64), (.int .i64), (.int .i64)], [.bool], fun x => ref8_within.f x.1 x.2.1 x.2.2⟩
noncomputable def ref8_within.C : Cx := ⟨T, TYt, lkF [], lkO [], lkD [], [], [], false, [], 15⟩
theorem ref8_within.hC : CxOK Try.prog ref8_within.C := ⟨tabOK, FsOK.nil, OsOK.nil, mixed, (fun t h => by cases h), (fun t e h => by cases h)⟩
noncomputable def ref8_within.root : Code := bodyOf Try.f35
theorem ref8_within.ok : FnOK Try.prog 35 ref8_within.fn :=
  FnOK.of (L := lkL []) (root := ref8_within.root) ref8_within.hC (enters_of (c := ref8_within.root) Try.func35 (by kernel_rfl) (by kernel_rfl)) Try.func35 (by kernel_rfl) (rs := [.tmp 6]) (by kernel_rfl) (by kernel_rfl) LsOK.nil (fun x => by kernel_rfl)
/-- smithyardref8.CheckQuota -/
noncomputable def ref8_CheckQuota.f (a0 : (Int × Int)) : Option Int :=
  (ob (ref8_within.f a0.1 (1 : Int) (1000000000 : Int)) fun r1 => (cb (!r1) (some (1 : Int)) (ob (ref8_within.f a0.2 (1 : Int) (1000000000 : Int)) fun r2 => (cb (!r2) (some (1 : Int)) (some (0 : Int))))))
noncomputable def ref8_CheckQuota.fn : TFn := ⟨[(.pair (.int .i64) (.int .i64))], [(.int .i64)], fun x => ref8_CheckQuota.f x⟩
noncomputable def ref8_CheckQuota.C : Cx := ⟨T, TYt, lkF [(35, ref8_within.fn)], lkO [], lkD [], [1], [], false, [], 13⟩
theorem ref8_CheckQuota.hC : CxOK Try.prog ref8_CheckQuota.C := ⟨tabOK, FsOK.cons ref8_within.ok (FsOK.nil), OsOK.nil, mixed, (fun t h => by cases h), (fun t e h => by cases h)⟩
noncomputable def ref8_CheckQuota.root : Code := bodyOf Try.f15
theorem ref8_CheckQuota.ok : FnOK Try.prog 15 ref8_CheckQuota.fn :=
  FnOK.of (L := lkL []) (root := ref8_CheckQuota.root) ref8_CheckQuota.hC (enters_of (c := ref8_CheckQuota.root) Try.func15 (by kernel_rfl) (by kernel_rfl)) Try.func15 (by kernel_rfl) (rs := [.tmp 2]) (by kernel_rfl) (by kernel_rfl) LsOK.nil (fun x => by kernel_rfl)
noncomputable def ref8_Starts.s0 (v0_1 : (List (Int × Int))) (v0_2 : (Int × Int)) (v0_24 : (List (Int × Int))) (v0_25 : Int) (x0_26 : Int) : Option (Int ⊕ (((List Int) × Int) ⊕ Unit)) :=
  (cb (decide (x0_26 < v0_25)) (ck (0 ≤ x0_26 ∧ x0_26 < ((List.length v0_24 : Nat) : Int)) (let y8 : (Int × Int) := (rd ((0 : Int), (0 : Int)) v0_24 x0_26); (ob (ref8_within.f y8.1 (0 : Int) (1000000000 : Int)) fun r9 => (cb (!r9) (some (.inr (.inl (([] : List Int), (1 : Int))))) (ob (ref8_within.f y8.2 (0 : Int) v0_2.2) fun r10 => (cb (!r10) (some (.inr (.inl (([] : List Int), (1 : Int))))) (cb (decide ((0 : Int) < x0_26)) (ck (InR (x0_26 - (1 : Int))) (ck (0 ≤ (x0_26 - (1 : Int)) ∧ (x0_26 - (1 : Int)) < ((List.length v0_1 : Nat) : Int)) (let y11 : Int := (rd ((0 : Int), (0 : Int)) v0_1 (x0_26 - (1 : Int))).1; (cb (decide (y8.1 < y11)) (some (.inr (.inl (([] : List Int), (8 : Int))))) (ck (InR (x0_26 + (1 : Int))) (some (.inl (x0_26 + (1 : Int))))))))) (ck (InR (x0_26 + (1 : Int))) (some (.inl (x0_26 + (1 : Int)))))))))))) (some (.inr (.inr ()))))
noncomputable def ref8_Starts.l0 (v0_1 : (List (Int × Int))) (v0_2 : (Int × Int)) (v0_24 : (List (Int × Int))) (v0_25 : Int) (x0_26 : Int) : Option (((List Int) × Int) ⊕ Unit) :=
  loopX (fun (x : Int) => ref8_Starts.s0 v0_1 v0_2 v0_24 v0_25 x) x0_26
noncomputable def ref8_Starts.e0 : Ent where
  pre := []
  inv := [(1, .val (.slice (.pair (.int .i64) (.int .i64)))), (2, .rp (.pair (.int .i64) (.int .i64))), (24, .val (.slice (.pair (.int .i64) (.int .i64)))), (25, .val (.int .i64))]
  car := ⟨[(26, .val (.int .i64))], []⟩
  exits := [(.ret, ⟨[(4, .val (.slice (.int .i64))), (5, .val (.int .i64))], []⟩), (.exit 0, ⟨[], []⟩)]
  step := fun iv x => ref8_Starts.s0 iv.1 iv.2.1 iv.2.2.1 iv.2.2.2 x
noncomputable def ref8_Starts.s1 (v1_2 : (Int × Int)) (v1_59 : (List (Int × Int))) (v1_60 : Int) (x1_10 : Int) (x1_11 : Int) (x1_61 : Int) (o1_0 : (List Int)) : Option ((Int × (Int × (Int × (List Int)))) ⊕ (((List Int) × Int) ⊕ (List Int))) :=
  (cb (decide (x1_61 < v1_60)) (ck (0 ≤ x1_61 ∧ x1_61 < ((List.length v1_59 : Nat) : Int)) (let y25 : (Int × Int) := (rd ((0 : Int), (0 : Int)) v1_59 x1_61); (ck (InR ((max x1_10 y25.1) - x1_10)) (let y26 : Int := ((max x1_10 y25.1) - x1_10); (ck (InR (y26 * v1_2.1)) (ck (InR (x1_11 + (y26 * v1_2.1))) (let y27 : Int := (min v1_2.2 (x1_11 + (y26 * v1_2.1))); (ck (InR (y25.2 - y27)) (cb (decide ((0 : Int) < (y25.2 - y27))) (ck (InR ((y25.2 - y27) + v1_2.1)) (ck (InR (((y25.2 - y27) + v1_2.1) - (1 : Int))) (let y28 : Int := (((y25.2 - y27) + v1_2.1) - (1 : Int)); (ck (0 ≤ y28 ∧ 0 < v1_2.1 ∧ y28 ≤ 9223372036854775807) (ck (InR ((max x1_10 y25.1) + (y28 / v1_2.1))) (let y29 : Int := ((max x1_10 y25.1) + (y28 / v1_2.1)); (cb (decide ((1000000000 : Int) < y29)) (some (.inr (.inl (([] : List Int), (1 : Int))))) (ck (InR (y29 - x1_10)) (ck (InR ((y29 - x1_10) * v1_2.1)) (ck (InR (x1_11 + ((y29 - x1_10) * v1_2.1))) (let y30 : Int := (x1_11 + ((y29 - x1_10) * v1_2.1)); (ck (InR ((min v1_2.2 y30) - y25.2)) (let y31 : Int := ((min v1_2.2 y30) - y25.2); (ck ((List.length o1_0 + List.length ([y29] : List Int)) * 8 ≤ 140737488355328) (ck (InR (x1_61 + (1 : Int))) (some (.inl (y29, y31, (x1_61 + (1 : Int)), (o1_0 ++ ([y29] : List Int)))))))))))))))))))) (cb (decide ((1000000000 : Int) < (max x1_10 y25.1))) (some (.inr (.inl (([] : List Int), (1 : Int))))) (ck (InR ((max x1_10 y25.1) - x1_10)) (let y32 : Int := ((max x1_10 y25.1) - x1_10); (ck (InR (y32 * v1_2.1)) (ck (InR (x1_11 + (y32 * v1_2.1))) (let y33 : Int := (min v1_2.2 (x1_11 + (y32 * v1_2.1))); (ck (InR (y33 - y25.2)) (ck ((List.length o1_0 + List.length ([(max x1_10 y25.1)] : List Int)) * 8 ≤ 140737488355328) (ck (InR (x1_61 + (1 : Int))) (some (.inl ((max x1_10 y25.1), (y33 - y25.2), (x1_61 + (1 : Int)), (o1_0 ++ ([(max x1_10 y25.1)] : List Int))))))))))))))))))))))) (some (.inr (.inr o1_0))))
noncomputable def ref8_Starts.l1 (v1_2 : (Int × Int)) (v1_59 : (List (Int × Int))) (v1_60 : Int) (x1_10 : Int) (x1_11 : Int) (x1_61 : Int) (o1_0 : (List Int)) : Option (((List Int) × Int) ⊕ (List Int)) :=
  loopX (fun (x : (Int × (Int × (Int × (List Int))))) => ref8_Starts.s1 v1_2 v1_59 v1_60 x.1 x.2.1 x.2.2.1 x.2.2.2) (x1_10, x1_11, x1_61, o1_0)
noncomputable def ref8_Starts.e1 : Ent where
  pre := [.nil 9 3 (.int .i64)]
  inv := [(2, .rp (.pair (.int .i64) (.int .i64))), (59, .val (.slice (.pair (.int .i64) (.int .i64)))), (60, .val (.int .i64))]
  car := ⟨[(9, .own 0 1), (10, .val (.int .i64)), (11, .val (.int .i64)), (61, .val (.int .i64))], [.row 3 (.int .i64)]⟩
  exits := [(.ret, ⟨[(4, .val (.slice (.int .i64))), (5, .val (.int .i64))], []⟩), (.exit 2, ⟨[(9, .own 0 1)], [.row 3 (.int .i64)]⟩)]
  step := fun iv x => ref8_Starts.s1 iv.1 iv.2.1 iv.2.2 x.1 x.2.1 x.2.2.1 x.2.2.2
/-- smithyardref8.Starts -/
noncomputable def ref8_Starts.f (a0 : (Int × Int)) (a1 : (List (Int × Int))) : Option ((List Int) × Int) :=
  (ob (ref8_CheckQuota.f a0) fun r1 => (cb (!decide (r1 = (0 : Int))) (some (([] : List Int), r1)) (let y2 : Int := ((List.length a1 : Nat) : Int); (cb (decide ((2000 : Int) < y2)) (some (([] : List Int), (2 : Int))) (let y3 : Int := ((List.length a1 : Nat) : Int); (ob (ref8_Starts.l0 a1 a0 a1 y3 (0 : Int)) fun r12 => (caseS r12 (fun a13 => (some (a13.1, a13.2))) (fun b14 => (let y15 : Int := ((List.length a1 : Nat) : Int); (ob (ref8_Starts.l1 a0 a1 y15 (0 : Int) a0.2 (0 : Int) ([] : List Int)) fun r34 => (caseS r34 (fun a35 => (some (a35.1, a35.2))) (fun b36 => (some (b36, (0 : Int)))))))))))))))
noncomputable def ref8_Starts.fn : TFn := ⟨[(.pair (.int .i64) (.int .i64)), (.slice (.pair (.int .i64) (.int .i64)))], [(.slice (.int .i64)), (.int .i64)], fun x => ref8_Starts.f x.1 x.2⟩
noncomputable def ref8_Starts.C : Cx := ⟨T, TYt, lkF [(15, ref8_CheckQuota.fn), (35, ref8_within.fn)], lkO [], lkD [(11, 11, [(0, true), (1, true), (2, true), (3, true), (4, true), (5, true), (6, true), (7, true), (8, true), (9, true), (10, true)], none), (15, 3, [(0, true), (1, true), (2, true)], none)], [2, 8, 13], [], false, [], 118⟩
theorem ref8_Starts.hC : CxOK Try.prog ref8_Starts.C := ⟨tabOK, FsOK.cons ref8_CheckQuota.ok (FsOK.cons ref8_within.ok (FsOK.nil)), OsOK.nil, mixed, (fun t h => by cases h), (fun t e h => by cases h)⟩
noncomputable def ref8_Starts.root : Code := bodyOf Try.f13
theorem ref8_Starts.h0 : LsOK Try.prog ref8_Starts.C ref8_Starts.root (lkL [([0, 1, 0, 1, 1, 1], ref8_Starts.e0)]) :=
  LsOK.cons ref8_Starts.hC (LsOK.nil) (by kernel_rfl) (fun iv x => by kernel_rfl)
theorem ref8_Starts.h1 : LsOK Try.prog ref8_Starts.C ref8_Starts.root (lkL [([0, 1, 0, 1, 1, 1, 1, 1, 1], ref8_Starts.e1), ([0, 1, 0, 1, 1, 1], ref8_Starts.e0)]) :=
  LsOK.cons ref8_Starts.hC (ref8_Starts.h0) (by kernel_rfl) (fun iv x => by kernel_rfl)
theorem ref8_Starts.ok : FnOK Try.prog 13 ref8_Starts.fn :=
  FnOK.of (L := lkL [([0, 1, 0, 1, 1, 1, 1, 1, 1], ref8_Starts.e1), ([0, 1, 0, 1, 1, 1], ref8_Starts.e0)]) (root := ref8_Starts.root) ref8_Starts.hC (enters_of (c := ref8_Starts.root) Try.func13 (by kernel_rfl) (by kernel_rfl)) Try.func13 (by kernel_rfl) (rs := [.tmp 4, .tmp 5]) (by kernel_rfl) (by kernel_rfl) ref8_Starts.h1 (fun x => by kernel_rfl)
noncomputable def slices_Equal_int_int.s0 (v0_0 : (List Int)) (v0_1 : (List Int)) (v0_12 : Int) (x0_13 : Int) : Option (Int ⊕ (Bool ⊕ Unit)) :=
  (cb (decide (x0_13 < v0_12)) (ck (0 ≤ x0_13 ∧ x0_13 < ((List.length v0_0 : Nat) : Int)) (let y6 : Int := (rd (0 : Int) v0_0 x0_13); (ck (0 ≤ x0_13 ∧ x0_13 < ((List.length v0_1 : Nat) : Int)) (let y7 : Int := (rd (0 : Int) v0_1 x0_13); (cb (!decide (y6 = y7)) (some (.inr (.inl false))) (ck (InR (x0_13 + (1 : Int))) (some (.inl (x0_13 + (1 : Int)))))))))) (some (.inr (.inr ()))))
noncomputable def slices_Equal_int_int.l0 (v0_0 : (List Int)) (v0_1 : (List Int)) (v0_12 : Int) (x0_13 : Int) : Option (Bool ⊕ Unit) :=
  loopX (fun (x : Int) => slices_Equal_int_int.s0 v0_0 v0_1 v0_12 x) x0_13
noncomputable def slices_Equal_int_int.e0 : Ent where
  pre := []
  inv := [(0, .val (.slice (.int .i64))), (1, .val (.slice (.int .i64))), (12, .val (.int .i64))]
  car := ⟨[(13, .val (.int .i64))], []⟩
  exits := [(.ret, ⟨[(4, .val .bool)], []⟩), (.exit 0, ⟨[], []⟩)]
  step := fun iv x => slices_Equal_int_int.s0 iv.1 iv.2.1 iv.2.2 x
/-- slices.Equal[[]int,int] -/
noncomputable def slices_Equal_int_int.f (a0 : (List Int)) (a1 : (List Int)) : Option Bool :=
  (let y1 : Int := ((List.length a0 : Nat) : Int); (let y2 : Int := ((List.length a1 : Nat) : Int); (cb (!decide (y1 = y2)) (some false) (let y3 : Int := ((List.length a0 : Nat) : Int); (ob (slices_Equal_int_int.l0 a0 a1 y3 (0 : Int)) fun r8 => (caseS r8 (fun a9 => (some a9)) (fun b10 => (some true))))))))
noncomputable def slices_Equal_int_int.fn : TFn := ⟨[(.slice (.int .i64)), (.slice (.int .i64))], [.bool], fun x => slices_Equal_int_int.f x.1 x.2⟩
noncomputable def slices_Equal_int_int.C : Cx := ⟨T, TYt, lkF [], lkO [], lkD [(6, 8, [(0, true), (1, true), (2, true), (3, true), (4, true), (5, true), (6, true), (7, true)], none)], [], [], false, [], 26⟩
theorem slices_Equal_int_int.hC : CxOK Try.prog slices_Equal_int_int.C := ⟨tabOK, FsOK.nil, OsOK.nil, mixed, (fun t h => by cases h), (fun t e h => by cases h)⟩
noncomputable def slices_Equal_int_int.root : Code := bodyOf Try.f16
theorem slices_Equal_int_int.h0 : LsOK Try.prog slices_Equal_int_int.C slices_Equal_int_int.root (lkL [([0, 1, 0, 1, 1], slices_Equal_int_int.e0)]) :=
  LsOK.cons slices_Equal_int_int.hC (LsOK.nil) (by kernel_rfl) (fun iv x => by kernel_rfl)
theorem slices_Equal_int_int.ok : FnOK Try.prog 16 slices_Equal_int_int.fn :=
  FnOK.of (L := lkL [([0, 1, 0, 1, 1], slices_Equal_int_int.e0)]) (root := slices_Equal_int_int.root) slices_Equal_int_int.hC (enters_of (c := slices_Equal_int_int.root) Try.func16 (by kernel_rfl) (by kernel_rfl)) Try.func16 (by kernel_rfl) (rs := [.tmp 4]) (by kernel_rfl) (by kernel_rfl) slices_Equal_int_int.h0 (fun x => by kernel_rfl)
noncomputable def ref8_Sent.s0 (v0_1 : (List (Int × Int))) (v0_2 : Int) (v0_3 : Int) (v0_32 : (List Int)) (v0_33 : Int) (x0_12 : Int) (x0_34 : Int) : Option ((Int × Int) ⊕ Int) :=
  (cb (decide (x0_34 < v0_33)) (ck (0 ≤ x0_34 ∧ x0_34 < ((List.length v0_32 : Nat) : Int)) (let y7 : Int := (rd (0 : Int) v0_32 x0_34); (cb (decide (v0_2 ≤ y7)) (cb (decide (y7 < v0_3)) (ck (0 ≤ x0_34 ∧ x0_34 < ((List.length v0_1 : Nat) : Int)) (let y8 : Int := (rd ((0 : Int), (0 : Int)) v0_1 x0_34).2; (ck (InR (x0_12 + y8)) (ck (InR (x0_34 + (1 : Int))) (some (.inl ((x0_12 + y8), (x0_34 + (1 : Int))))))))) (ck (InR (x0_34 + (1 : Int))) (some (.inl (x0_12, (x0_34 + (1 : Int))))))) (ck (InR (x0_34 + (1 : Int))) (some (.inl (x0_12, (x0_34 + (1 : Int))))))))) (some (.inr x0_12)))
noncomputable def ref8_Sent.l0 (v0_1 : (List (Int × Int))) (v0_2 : Int) (v0_3 : Int) (v0_32 : (List Int)) (v0_33 : Int) (x0_12 : Int) (x0_34 : Int) : Option Int :=
  loopX (fun (x : (Int × Int)) => ref8_Sent.s0 v0_1 v0_2 v0_3 v0_32 v0_33 x.1 x.2) (x0_12, x0_34)
noncomputable def ref8_Sent.e0 : Ent where
  pre := []
  inv := [(1, .val (.slice (.pair (.int .i64) (.int .i64)))), (2, .val (.int .i64)), (3, .val (.int .i64)), (32, .val (.slice (.int .i64))), (33, .val (.int .i64))]
  car := ⟨[(12, .val (.int .i64)), (34, .val (.int .i64))], []⟩
  exits := [(.exit 0, ⟨[(12, .val (.int .i64))], []⟩)]
  step := fun iv x => ref8_Sent.s0 iv.1 iv.2.1 iv.2.2.1 iv.2.2.2.1 iv.2.2.2.2 x.1 x.2
/-- smithyardref8.Sent -/
noncomputable def ref8_Sent.f (a0 : (Int × Int)) (a1 : (List (Int × Int))) (a2 : Int) (a3 : Int) : Option (Int × Int) :=
  (ob (ref8_Starts.f a0 a1) fun r1 => (cb (!decide (r1.2 = (0 : Int))) (some ((0 : Int), r1.2)) (ob (ref8_within.f a2 (0 : Int) (1000000001 : Int)) fun r2 => (cb (!r2) (some ((0 : Int), (1 : Int))) (ob (ref8_within.f a3 (0 : Int) (1000000001 : Int)) fun r3 => (cb (!r3) (some ((0 : Int), (1 : Int))) (let y4 : Int := ((List.length r1.1 : Nat) : Int); (ob (ref8_Sent.l0 a1 a2 a3 r1.1 y4 (0 : Int) (0 : Int)) fun r9 => (some (r9, (0 : Int)))))))))))
noncomputable def ref8_Sent.fn : TFn := ⟨[(.pair (.int .i64) (.int .i64)), (.slice (.pair (.int .i64) (.int .i64))), (.int .i64), (.int .i64)], [(.int .i64), (.int .i64)], fun x => ref8_Sent.f x.1 x.2.1 x.2.2.1 x.2.2.2⟩
noncomputable def ref8_Sent.C : Cx := ⟨T, TYt, lkF [(13, ref8_Starts.fn), (35, ref8_within.fn)], lkO [], lkD [], [4], [], false, [], 56⟩
theorem ref8_Sent.hC : CxOK Try.prog ref8_Sent.C := ⟨tabOK, FsOK.cons ref8_Starts.ok (FsOK.cons ref8_within.ok (FsOK.nil)), OsOK.nil, mixed, (fun t h => by cases h), (fun t e h => by cases h)⟩
noncomputable def ref8_Sent.root : Code := bodyOf Try.f17
theorem ref8_Sent.h0 : LsOK Try.prog ref8_Sent.C ref8_Sent.root (lkL [([0, 1, 0, 1, 1, 1, 1, 1], ref8_Sent.e0)]) :=
  LsOK.cons ref8_Sent.hC (LsOK.nil) (by kernel_rfl) (fun iv x => by kernel_rfl)
theorem ref8_Sent.ok : FnOK Try.prog 17 ref8_Sent.fn :=
  FnOK.of (L := lkL [([0, 1, 0, 1, 1, 1, 1, 1], ref8_Sent.e0)]) (root := ref8_Sent.root) ref8_Sent.hC (enters_of (c := ref8_Sent.root) Try.func17 (by kernel_rfl) (by kernel_rfl)) Try.func17 (by kernel_rfl) (rs := [.tmp 8, .tmp 9]) (by kernel_rfl) (by kernel_rfl) ref8_Sent.h0 (fun x => by kernel_rfl)
noncomputable def slices_Equal_api_Ask_api_Ask.s0 (v0_0 : (List (Int × Int))) (v0_1 : (List (Int × Int))) (v0_12 : Int) (x0_13 : Int) : Option (Int ⊕ (Bool ⊕ Unit)) :=
  (cb (decide (x0_13 < v0_12)) (ck (0 ≤ x0_13 ∧ x0_13 < ((List.length v0_0 : Nat) : Int)) (let y6 : (Int × Int) := (rd ((0 : Int), (0 : Int)) v0_0 x0_13); (ck (0 ≤ x0_13 ∧ x0_13 < ((List.length v0_1 : Nat) : Int)) (let y7 : (Int × Int) := (rd ((0 : Int), (0 : Int)) v0_1 x0_13); (cb (!((eqI y6.1 y7.1) && ((eqI y6.2 y7.2) && true))) (some (.inr (.inl false))) (ck (InR (x0_13 + (1 : Int))) (some (.inl (x0_13 + (1 : Int)))))))))) (some (.inr (.inr ()))))
noncomputable def slices_Equal_api_Ask_api_Ask.l0 (v0_0 : (List (Int × Int))) (v0_1 : (List (Int × Int))) (v0_12 : Int) (x0_13 : Int) : Option (Bool ⊕ Unit) :=
  loopX (fun (x : Int) => slices_Equal_api_Ask_api_Ask.s0 v0_0 v0_1 v0_12 x) x0_13
noncomputable def slices_Equal_api_Ask_api_Ask.e0 : Ent where
  pre := []
  inv := [(0, .val (.slice (.pair (.int .i64) (.int .i64)))), (1, .val (.slice (.pair (.int .i64) (.int .i64)))), (12, .val (.int .i64))]
  car := ⟨[(13, .val (.int .i64))], []⟩
  exits := [(.ret, ⟨[(4, .val .bool)], []⟩), (.exit 0, ⟨[], []⟩)]
  step := fun iv x => slices_Equal_api_Ask_api_Ask.s0 iv.1 iv.2.1 iv.2.2 x
/-- slices.Equal[[]api.Ask,api.Ask] -/
noncomputable def slices_Equal_api_Ask_api_Ask.f (a0 : (List (Int × Int))) (a1 : (List (Int × Int))) : Option Bool :=
  (let y1 : Int := ((List.length a0 : Nat) : Int); (let y2 : Int := ((List.length a1 : Nat) : Int); (cb (!decide (y1 = y2)) (some false) (let y3 : Int := ((List.length a0 : Nat) : Int); (ob (slices_Equal_api_Ask_api_Ask.l0 a0 a1 y3 (0 : Int)) fun r8 => (caseS r8 (fun a9 => (some a9)) (fun b10 => (some true))))))))
noncomputable def slices_Equal_api_Ask_api_Ask.fn : TFn := ⟨[(.slice (.pair (.int .i64) (.int .i64))), (.slice (.pair (.int .i64) (.int .i64)))], [.bool], fun x => slices_Equal_api_Ask_api_Ask.f x.1 x.2⟩
noncomputable def slices_Equal_api_Ask_api_Ask.C : Cx := ⟨T, TYt, lkF [], lkO [], lkD [(6, 8, [(0, true), (1, true), (2, true), (3, true), (4, true), (5, true), (6, true), (7, true)], none)], [], [], false, [31], 26⟩
theorem slices_Equal_api_Ask_api_Ask.hC : CxOK Try.prog slices_Equal_api_Ask_api_Ask.C := ⟨tabOK, FsOK.nil, OsOK.nil, mixed, (fun t h => eqs_of [31] (by kernel_rfl) t h), (fun t e h => by cases h)⟩
noncomputable def slices_Equal_api_Ask_api_Ask.root : Code := bodyOf Try.f18
theorem slices_Equal_api_Ask_api_Ask.h0 : LsOK Try.prog slices_Equal_api_Ask_api_Ask.C slices_Equal_api_Ask_api_Ask.root (lkL [([0, 1, 0, 1, 1], slices_Equal_api_Ask_api_Ask.e0)]) :=
  LsOK.cons slices_Equal_api_Ask_api_Ask.hC (LsOK.nil) (by kernel_rfl) (fun iv x => by kernel_rfl)
theorem slices_Equal_api_Ask_api_Ask.ok : FnOK Try.prog 18 slices_Equal_api_Ask_api_Ask.fn :=
  FnOK.of (L := lkL [([0, 1, 0, 1, 1], slices_Equal_api_Ask_api_Ask.e0)]) (root := slices_Equal_api_Ask_api_Ask.root) slices_Equal_api_Ask_api_Ask.hC (enters_of (c := slices_Equal_api_Ask_api_Ask.root) Try.func18 (by kernel_rfl) (by kernel_rfl)) Try.func18 (by kernel_rfl) (rs := [.tmp 4]) (by kernel_rfl) (by kernel_rfl) slices_Equal_api_Ask_api_Ask.h0 (fun x => by kernel_rfl)
/-- smithyardlaw8.WireQuotasMatchSpec -/
noncomputable def law8_WireQuotasMatchSpec.f (a0 : (Int × Int)) (a1 : (List (Int × Int))) (a2 : Int) (a3 : Int) : Option Bool :=
  (ob (slices_Clone_api_Ask_api_Ask.f a1) fun r1 => (ob (wire_Starts.f a0 a1) fun r2 => (ob (ref8_Starts.f a0 r1) fun r3 => (ob (wire_CheckQuota.f a0) fun r4 => (ob (ref8_CheckQuota.f a0) fun r5 => (cb (!decide (r4 = r5)) (some false) (cb (!decide (r2.2 = r3.2)) (some false) (ob (slices_Equal_int_int.f r2.1 r3.1) fun r6 => (cb (!r6) (some false) (ob (wire_Sent.f a0 a1 a2 a3) fun r7 => (ob (ref8_Sent.f a0 r1 a2 a3) fun r8 => (cb (decide (r7.2 = r8.2)) (cb (decide (r7.1 = r8.1)) (ob (slices_Equal_api_Ask_api_Ask.f a1 r1) fun r9 => (cb r9 (ob (law8_awake.f) fun r10 => (some r10)) (some false))) (some false)) (some false)))))))))))))
noncomputable def law8_WireQuotasMatchSpec.fn : TFn := ⟨[(.pair (.int .i64) (.int .i64)), (.slice (.pair (.int .i64) (.int .i64))), (.int .i64), (.int .i64)], [.bool], fun x => law8_WireQuotasMatchSpec.f x.1 x.2.1 x.2.2.1 x.2.2.2⟩
noncomputable def law8_WireQuotasMatchSpec.C : Cx := ⟨T, TYt, lkF [(9, wire_Starts.fn), (10, law8_awake.fn), (11, wire_Sent.fn), (12, slices_Clone_api_Ask_api_Ask.fn), (13, ref8_Starts.fn), (14, wire_CheckQuota.fn), (15, ref8_CheckQuota.fn), (16, slices_Equal_int_int.fn), (17, ref8_Sent.fn), (18, slices_Equal_api_Ask_api_Ask.fn)], lkO [], lkD [(4, 13, [(0, true), (2, true), (1, false), (3, false), (4, true), (5, true), (6, true), (7, true), (8, true), (9, true), (10, true), (11, true), (12, true)], none)], [4], [], false, [], 78⟩
theorem law8_WireQuotasMatchSpec.hC : CxOK Try.prog law8_WireQuotasMatchSpec.C := ⟨tabOK, FsOK.cons wire_Starts.ok (FsOK.cons law8_awake.ok (FsOK.cons wire_Sent.ok (FsOK.cons slices_Clone_api_Ask_api_Ask.ok (FsOK.cons ref8_Starts.ok (FsOK.cons wire_CheckQuota.ok (FsOK.cons ref8_CheckQuota.ok (FsOK.cons slices_Equal_int_int.ok (FsOK.cons ref8_Sent.ok (FsOK.cons slices_Equal_api_Ask_api_Ask.ok (FsOK.nil)))))))))), OsOK.nil, mixed, (fun t h => by cases h), (fun t e h => by cases h)⟩
noncomputable def law8_WireQuotasMatchSpec.root : Code := bodyOf Try.f4
theorem law8_WireQuotasMatchSpec.ok : FnOK Try.prog 4 law8_WireQuotasMatchSpec.fn :=
  FnOK.of (L := lkL []) (root := law8_WireQuotasMatchSpec.root) law8_WireQuotasMatchSpec.hC (enters_of (c := law8_WireQuotasMatchSpec.root) Try.func4 (by kernel_rfl) (by kernel_rfl)) Try.func4 (by kernel_rfl) (rs := [.tmp 8]) (by kernel_rfl) (by kernel_rfl) LsOK.nil (fun x => by kernel_rfl)
/-- smithyardref1.CopyBytes -/
noncomputable def ref1_CopyBytes.f (a0 : (List UInt8)) : Option (List UInt8) :=
  (ck (List.length a0 * 1 ≤ 140737488355328) (some a0))
noncomputable def ref1_CopyBytes.fn : TFn := ⟨[(.slice .byte)], [(.slice .byte)], fun x => ref1_CopyBytes.f x⟩
noncomputable def ref1_CopyBytes.C : Cx := ⟨T, TYt, lkF [], lkO [], lkD [], [], [], false, [], 7⟩
theorem ref1_CopyBytes.hC : CxOK Try.prog ref1_CopyBytes.C := ⟨tabOK, FsOK.nil, OsOK.nil, mixed, (fun t h => by cases h), (fun t e h => by cases h)⟩
noncomputable def ref1_CopyBytes.root : Code := bodyOf Try.f36
theorem ref1_CopyBytes.ok : FnOK Try.prog 36 ref1_CopyBytes.fn :=
  FnOK.of (L := lkL []) (root := ref1_CopyBytes.root) ref1_CopyBytes.hC (enters_of (c := ref1_CopyBytes.root) Try.func36 (by kernel_rfl) (by kernel_rfl)) Try.func36 (by kernel_rfl) (rs := [.tmp 2]) (by kernel_rfl) (by kernel_rfl) LsOK.nil (fun x => by kernel_rfl)
noncomputable def ref1_CopyPieces.s0 (v0_0 : (List (List UInt8))) (x0_4 : Int) (o0_0 : (List (List UInt8))) : Option ((Int × (List (List UInt8))) ⊕ (List (List UInt8))) :=
  (let y4 : Int := ((List.length v0_0 : Nat) : Int); (cb (decide (x0_4 < y4)) (ck (0 ≤ x0_4 ∧ x0_4 < ((List.length v0_0 : Nat) : Int)) (let y5 : (List UInt8) := (rd ([] : (List UInt8)) v0_0 x0_4); (ob (ref1_CopyBytes.f y5) fun r6 => (ck ((List.length o0_0 + List.length ([r6] : List (List UInt8))) * 24 ≤ 140737488355328) (ck (InR (x0_4 + (1 : Int))) (some (.inl ((x0_4 + (1 : Int)), (o0_0 ++ ([r6] : List (List UInt8))))))))))) (some (.inr o0_0))))
noncomputable def ref1_CopyPieces.l0 (v0_0 : (List (List UInt8))) (x0_4 : Int) (o0_0 : (List (List UInt8))) : Option (List (List UInt8)) :=
  loopX (fun (x : (Int × (List (List UInt8)))) => ref1_CopyPieces.s0 v0_0 x.1 x.2) (x0_4, o0_0)
noncomputable def ref1_CopyPieces.e0 : Ent where
  pre := [.nil 3 44 (.slice .byte)]
  inv := [(0, .val (.slice (.slice .byte)))]
  car := ⟨[(3, .own 0 1), (4, .val (.int .i64))], [.row 44 (.slice .byte)]⟩
  exits := [(.exit 0, ⟨[(3, .own 0 1)], [.row 44 (.slice .byte)]⟩)]
  step := fun iv x => ref1_CopyPieces.s0 iv x.1 x.2
/-- smithyardref1.CopyPieces -/
noncomputable def ref1_CopyPieces.f (a0 : (List (List UInt8))) : Option (List (List UInt8)) :=
  (ob (ref1_CopyPieces.l0 a0 (0 : Int) ([] : List (List UInt8))) fun r7 => (some r7))
noncomputable def ref1_CopyPieces.fn : TFn := ⟨[(.slice (.slice .byte))], [(.slice (.slice .byte))], fun x => ref1_CopyPieces.f x⟩
noncomputable def ref1_CopyPieces.C : Cx := ⟨T, TYt, lkF [(36, ref1_CopyBytes.fn)], lkO [], lkD [], [], [], false, [], 20⟩
theorem ref1_CopyPieces.hC : CxOK Try.prog ref1_CopyPieces.C := ⟨tabOK, FsOK.cons ref1_CopyBytes.ok (FsOK.nil), OsOK.nil, mixed, (fun t h => by cases h), (fun t e h => by cases h)⟩
noncomputable def ref1_CopyPieces.root : Code := bodyOf Try.f19
theorem ref1_CopyPieces.h0 : LsOK Try.prog ref1_CopyPieces.C ref1_CopyPieces.root (lkL [([0, 1, 0, 1, 1], ref1_CopyPieces.e0)]) :=
  LsOK.cons ref1_CopyPieces.hC (LsOK.nil) (by kernel_rfl) (fun iv x => by kernel_rfl)
theorem ref1_CopyPieces.ok : FnOK Try.prog 19 ref1_CopyPieces.fn :=
  FnOK.of (L := lkL [([0, 1, 0, 1, 1], ref1_CopyPieces.e0)]) (root := ref1_CopyPieces.root) ref1_CopyPieces.hC (enters_of (c := ref1_CopyPieces.root) Try.func19 (by kernel_rfl) (by kernel_rfl)) Try.func19 (by kernel_rfl) (rs := [.tmp 2]) (by kernel_rfl) (by kernel_rfl) ref1_CopyPieces.h0 (fun x => by kernel_rfl)
noncomputable def wire_checkPieces.s0 (v0_6 : (List (List UInt8))) (v0_7 : Int) (x0_3 : Int) (x0_8 : Int) : Option ((Int × Int) ⊕ Int) :=
  (cb (decide (x0_8 < v0_7)) (ck (0 ≤ x0_8 ∧ x0_8 < ((List.length v0_6 : Nat) : Int)) (let y6 : (List UInt8) := (rd ([] : (List UInt8)) v0_6 x0_8); (let y7 : Int := ((List.length y6 : Nat) : Int); (let y8 : Int := (IntKind.wrap .i64 (x0_3 + y7)); (let y9 : Int := (IntKind.wrap .i64 (x0_8 + (1 : Int))); (some (.inl (y8, y9)))))))) (some (.inr x0_3)))
noncomputable def wire_checkPieces.l0 (v0_6 : (List (List UInt8))) (v0_7 : Int) (x0_3 : Int) (x0_8 : Int) : Option Int :=
  loopX (fun (x : (Int × Int)) => wire_checkPieces.s0 v0_6 v0_7 x.1 x.2) (x0_3, x0_8)
noncomputable def wire_checkPieces.e0 : Ent where
  pre := []
  inv := [(0, .val (.slice (.slice .byte))), (6, .val (.slice (.slice .byte))), (7, .val (.int .i64))]
  car := ⟨[(3, .val (.int .i64)), (8, .val (.int .i64))], []⟩
  exits := [(.exit 0, ⟨[(3, .val (.int .i64))], []⟩)]
  step := fun iv x => wire_checkPieces.s0 iv.2.1 iv.2.2 x.1 x.2
/-- wire.checkPieces -/
noncomputable def wire_checkPieces.f (a0 : (List (List UInt8))) : Option Int :=
  (let y1 : Int := ((List.length a0 : Nat) : Int); (ob (wire_checkPieces.l0 a0 y1 (0 : Int) (0 : Int)) fun r10 => (let y11 : Int := ((List.length a0 : Nat) : Int); (cb (decide ((20000 : Int) < y11)) (some (2 : Int)) (cb (decide ((2000000 : Int) < r10)) (some (2 : Int)) (some (0 : Int)))))))
noncomputable def wire_checkPieces.fn : TFn := ⟨[(.slice (.slice .byte))], [(.int .i64)], fun x => wire_checkPieces.f x⟩
noncomputable def wire_checkPieces.C : Cx := ⟨T, TYt, lkF [], lkO [], lkD [], [], [], true, [], 24⟩
theorem wire_checkPieces.hC : CxOK Try.prog wire_checkPieces.C := ⟨tabOK, FsOK.nil, OsOK.nil, mixed, (fun t h => by cases h), (fun t e h => by cases h)⟩
noncomputable def wire_checkPieces.root : Code := bodyOf Try.f37
theorem wire_checkPieces.h0 : LsOK Try.prog wire_checkPieces.C wire_checkPieces.root (lkL [([0, 1, 0, 1, 1], wire_checkPieces.e0)]) :=
  LsOK.cons wire_checkPieces.hC (LsOK.nil) (by kernel_rfl) (fun iv x => by kernel_rfl)
theorem wire_checkPieces.ok : FnOK Try.prog 37 wire_checkPieces.fn :=
  FnOK.of (L := lkL [([0, 1, 0, 1, 1], wire_checkPieces.e0)]) (root := wire_checkPieces.root) wire_checkPieces.hC (enters_of (c := wire_checkPieces.root) Try.func37 (by kernel_rfl) (by kernel_rfl)) Try.func37 (by kernel_rfl) (rs := [.tmp 2]) (by kernel_rfl) (by kernel_rfl) wire_checkPieces.h0 (fun x => by kernel_rfl)
noncomputable def wire_Fresh.s0 (v0_27 : (List (List UInt8))) (v0_28 : Int) (x0_29 : Int) (o0_0 : (List (ByteArray × Bool))) : Option ((Int × (List (ByteArray × Bool))) ⊕ (List (ByteArray × Bool))) :=
  (cb (decide (x0_29 < v0_28)) (ck (0 ≤ x0_29 ∧ x0_29 < ((List.length v0_27 : Nat) : Int)) (let y5 : (List UInt8) := (rd ([] : (List UInt8)) v0_27 x0_29); (ck (InR (x0_29 + (1 : Int))) (some (.inl ((x0_29 + (1 : Int)), (mset (bstr y5) true o0_0))))))) (some (.inr o0_0)))
noncomputable def wire_Fresh.l0 (v0_27 : (List (List UInt8))) (v0_28 : Int) (x0_29 : Int) (o0_0 : (List (ByteArray × Bool))) : Option (List (ByteArray × Bool)) :=
  loopX (fun (x : (Int × (List (ByteArray × Bool)))) => wire_Fresh.s0 v0_27 v0_28 x.1 x.2) (x0_29, o0_0)
noncomputable def wire_Fresh.e0 : Ent where
  pre := []
  inv := [(1, .val (.slice (.slice .byte))), (27, .val (.slice (.slice .byte))), (28, .val (.int .i64))]
  car := ⟨[(9, .nm 0 0), (29, .val (.int .i64))], [.mapo .bool]⟩
  exits := [(.exit 0, ⟨[(9, .nm 0 0)], [.mapo .bool]⟩)]
  step := fun iv x => wire_Fresh.s0 iv.2.1 iv.2.2 x.1 x.2
noncomputable def wire_Fresh.s1 (v1_37 : (List (List UInt8))) (v1_38 : Int) (x1_13 : Int) (x1_39 : Int) (o1_0 : (List (ByteArray × Bool))) (o1_1 : (List Int)) : Option ((Int × (Int × ((List (ByteArray × Bool)) × (List Int)))) ⊕ (Int × ((List (ByteArray × Bool)) × (List Int)))) :=
  (cb (decide (x1_39 < v1_38)) (ck (0 ≤ x1_39 ∧ x1_39 < ((List.length v1_37 : Nat) : Int)) (let y10 : (List UInt8) := (rd ([] : (List UInt8)) v1_37 x1_39); (cb (!(Option.getD (mget (bstr y10) o1_0) false)) (ck ((List.length o1_1 + List.length ([x1_39] : List Int)) * 8 ≤ 140737488355328) (let y11 : Int := ((List.length y10 : Nat) : Int); (ck (InR (x1_13 + y11)) (ck (InR (x1_39 + (1 : Int))) (some (.inl ((x1_13 + y11), (x1_39 + (1 : Int)), (mset (bstr y10) true o1_0), (o1_1 ++ ([x1_39] : List Int))))))))) (ck (InR (x1_39 + (1 : Int))) (some (.inl (x1_13, (x1_39 + (1 : Int)), o1_0, o1_1))))))) (some (.inr (x1_13, o1_0, o1_1))))
noncomputable def wire_Fresh.l1 (v1_37 : (List (List UInt8))) (v1_38 : Int) (x1_13 : Int) (x1_39 : Int) (o1_0 : (List (ByteArray × Bool))) (o1_1 : (List Int)) : Option (Int × ((List (ByteArray × Bool)) × (List Int))) :=
  loopX (fun (x : (Int × (Int × ((List (ByteArray × Bool)) × (List Int))))) => wire_Fresh.s1 v1_37 v1_38 x.1 x.2.1 x.2.2.1 x.2.2.2) (x1_13, x1_39, o1_0, o1_1)
noncomputable def wire_Fresh.e1 : Ent where
  pre := [.nil 12 3 (.int .i64)]
  inv := [(37, .val (.slice (.slice .byte))), (38, .val (.int .i64))]
  car := ⟨[(9, .nm 0 0), (12, .own 1 1), (13, .val (.int .i64)), (39, .val (.int .i64))], [.mapo .bool, .row 3 (.int .i64)]⟩
  exits := [(.exit 2, ⟨[(12, .own 1 1), (13, .val (.int .i64))], [.mapo .bool, .row 3 (.int .i64)]⟩)]
  step := fun iv x => wire_Fresh.s1 iv.1 iv.2 x.1 x.2.1 x.2.2.1 x.2.2.2
/-- wire.Fresh -/
noncomputable def wire_Fresh.f (a0 : (List (List UInt8))) (a1 : (List (List UInt8))) : Option ((List Int) × (Int × Int)) :=
  (ob (wire_checkPieces.f a0) fun r1 => (cb (!decide (r1 = (0 : Int))) (some (([] : List Int), (0 : Int), r1)) (ob (wire_checkPieces.f a1) fun r2 => (cb (!decide (r2 = (0 : Int))) (some (([] : List Int), (0 : Int), r2)) (let y3 : Int := ((List.length a0 : Nat) : Int); (ob (wire_Fresh.l0 a0 y3 (0 : Int) ([] : List (ByteArray × Bool))) fun r6 => (let y7 : Int := ((List.length a1 : Nat) : Int); (ob (wire_Fresh.l1 a1 y7 (0 : Int) (0 : Int) r6 ([] : List Int)) fun r12 => (some (r12.2.2, r12.1, (0 : Int)))))))))))
noncomputable def wire_Fresh.fn : TFn := ⟨[(.slice (.slice .byte)), (.slice (.slice .byte))], [(.slice (.int .i64)), (.int .i64), (.int .i64)], fun x => wire_Fresh.f x.1 x.2⟩
noncomputable def wire_Fresh.C : Cx := ⟨T, TYt, lkF [(37, wire_checkPieces.fn)], lkO [], lkD [], [], [(68, 4)], false, [], 63⟩
theorem wire_Fresh.hC : CxOK Try.prog wire_Fresh.C := ⟨tabOK, FsOK.cons wire_checkPieces.ok (FsOK.nil), OsOK.nil, mixed, (fun t h => by cases h), (mps_of [(68, 4)] (by kernel_rfl))⟩
noncomputable def wire_Fresh.root : Code := bodyOf Try.f20
theorem wire_Fresh.h0 : LsOK Try.prog wire_Fresh.C wire_Fresh.root (lkL [([0, 1, 0, 1, 1, 1, 1], wire_Fresh.e0)]) :=
  LsOK.cons wire_Fresh.hC (LsOK.nil) (by kernel_rfl) (fun iv x => by kernel_rfl)
theorem wire_Fresh.h1 : LsOK Try.prog wire_Fresh.C wire_Fresh.root (lkL [([0, 1, 0, 1, 1, 1, 1, 1, 1, 1], wire_Fresh.e1), ([0, 1, 0, 1, 1, 1, 1], wire_Fresh.e0)]) :=
  LsOK.cons wire_Fresh.hC (wire_Fresh.h0) (by kernel_rfl) (fun iv x => by kernel_rfl)
theorem wire_Fresh.ok : FnOK Try.prog 20 wire_Fresh.fn :=
  FnOK.of (L := lkL [([0, 1, 0, 1, 1, 1, 1, 1, 1, 1], wire_Fresh.e1), ([0, 1, 0, 1, 1, 1, 1], wire_Fresh.e0)]) (root := wire_Fresh.root) wire_Fresh.hC (enters_of (c := wire_Fresh.root) Try.func20 (by kernel_rfl) (by kernel_rfl)) Try.func20 (by kernel_rfl) (rs := [.tmp 4, .tmp 5, .tmp 6]) (by kernel_rfl) (by kernel_rfl) wire_Fresh.h1 (fun x => by kernel_rfl)
noncomputable def ref8_checkPieces.s0 (v0_6 : (List (List UInt8))) (v0_7 : Int) (x0_3 : Int) (x0_8 : Int) : Option ((Int × Int) ⊕ Int) :=
  (cb (decide (x0_8 < v0_7)) (ck (0 ≤ x0_8 ∧ x0_8 < ((List.length v0_6 : Nat) : Int)) (let y6 : (List UInt8) := (rd ([] : (List UInt8)) v0_6 x0_8); (let y7 : Int := ((List.length y6 : Nat) : Int); (let y8 : Int := (IntKind.wrap .i64 (x0_3 + y7)); (let y9 : Int := (IntKind.wrap .i64 (x0_8 + (1 : Int))); (some (.inl (y8, y9)))))))) (some (.inr x0_3)))
noncomputable def ref8_checkPieces.l0 (v0_6 : (List (List UInt8))) (v0_7 : Int) (x0_3 : Int) (x0_8 : Int) : Option Int :=
  loopX (fun (x : (Int × Int)) => ref8_checkPieces.s0 v0_6 v0_7 x.1 x.2) (x0_3, x0_8)
noncomputable def ref8_checkPieces.e0 : Ent where
  pre := []
  inv := [(0, .val (.slice (.slice .byte))), (6, .val (.slice (.slice .byte))), (7, .val (.int .i64))]
  car := ⟨[(3, .val (.int .i64)), (8, .val (.int .i64))], []⟩
  exits := [(.exit 0, ⟨[(3, .val (.int .i64))], []⟩)]
  step := fun iv x => ref8_checkPieces.s0 iv.2.1 iv.2.2 x.1 x.2
/-- smithyardref8.checkPieces -/
noncomputable def ref8_checkPieces.f (a0 : (List (List UInt8))) : Option Int :=
  (let y1 : Int := ((List.length a0 : Nat) : Int); (ob (ref8_checkPieces.l0 a0 y1 (0 : Int) (0 : Int)) fun r10 => (let y11 : Int := ((List.length a0 : Nat) : Int); (cb (decide ((20000 : Int) < y11)) (some (2 : Int)) (cb (decide ((2000000 : Int) < r10)) (some (2 : Int)) (some (0 : Int)))))))
noncomputable def ref8_checkPieces.fn : TFn := ⟨[(.slice (.slice .byte))], [(.int .i64)], fun x => ref8_checkPieces.f x⟩
noncomputable def ref8_checkPieces.C : Cx := ⟨T, TYt, lkF [], lkO [], lkD [], [], [], true, [], 24⟩
theorem ref8_checkPieces.hC : CxOK Try.prog ref8_checkPieces.C := ⟨tabOK, FsOK.nil, OsOK.nil, mixed, (fun t h => by cases h), (fun t e h => by cases h)⟩
noncomputable def ref8_checkPieces.root : Code := bodyOf Try.f38
theorem ref8_checkPieces.h0 : LsOK Try.prog ref8_checkPieces.C ref8_checkPieces.root (lkL [([0, 1, 0, 1, 1], ref8_checkPieces.e0)]) :=
  LsOK.cons ref8_checkPieces.hC (LsOK.nil) (by kernel_rfl) (fun iv x => by kernel_rfl)
theorem ref8_checkPieces.ok : FnOK Try.prog 38 ref8_checkPieces.fn :=
  FnOK.of (L := lkL [([0, 1, 0, 1, 1], ref8_checkPieces.e0)]) (root := ref8_checkPieces.root) ref8_checkPieces.hC (enters_of (c := ref8_checkPieces.root) Try.func38 (by kernel_rfl) (by kernel_rfl)) Try.func38 (by kernel_rfl) (rs := [.tmp 2]) (by kernel_rfl) (by kernel_rfl) ref8_checkPieces.h0 (fun x => by kernel_rfl)
noncomputable def slices_Equal_byte_byte.s0 (v0_0 : (List UInt8)) (v0_1 : (List UInt8)) (v0_12 : Int) (x0_13 : Int) : Option (Int ⊕ (Bool ⊕ Unit)) :=
  (cb (decide (x0_13 < v0_12)) (ck (0 ≤ x0_13 ∧ x0_13 < ((List.length v0_0 : Nat) : Int)) (let y6 : UInt8 := (rd (0 : UInt8) v0_0 x0_13); (ck (0 ≤ x0_13 ∧ x0_13 < ((List.length v0_1 : Nat) : Int)) (let y7 : UInt8 := (rd (0 : UInt8) v0_1 x0_13); (cb (!decide (((UInt8.toNat y6 : Nat) : Int) = ((UInt8.toNat y7 : Nat) : Int))) (some (.inr (.inl false))) (ck (InR (x0_13 + (1 : Int))) (some (.inl (x0_13 + (1 : Int)))))))))) (some (.inr (.inr ()))))
noncomputable def slices_Equal_byte_byte.l0 (v0_0 : (List UInt8)) (v0_1 : (List UInt8)) (v0_12 : Int) (x0_13 : Int) : Option (Bool ⊕ Unit) :=
  loopX (fun (x : Int) => slices_Equal_byte_byte.s0 v0_0 v0_1 v0_12 x) x0_13
noncomputable def slices_Equal_byte_byte.e0 : Ent where
  pre := []
  inv := [(0, .val (.slice .byte)), (1, .val (.slice .byte)), (12, .val (.int .i64))]
  car := ⟨[(13, .val (.int .i64))], []⟩
  exits := [(.ret, ⟨[(4, .val .bool)], []⟩), (.exit 0, ⟨[], []⟩)]
  step := fun iv x => slices_Equal_byte_byte.s0 iv.1 iv.2.1 iv.2.2 x
/-- slices.Equal[[]byte,byte] -/
noncomputable def slices_Equal_byte_byte.f (a0 : (List UInt8)) (a1 : (List UInt8)) : Option Bool :=
  (let y1 : Int := ((List.length a0 : Nat) : Int); (let y2 : Int := ((List.length a1 : Nat) : Int); (cb (!decide (y1 = y2)) (some false) (let y3 : Int := ((List.length a0 : Nat) : Int); (ob (slices_Equal_byte_byte.l0 a0 a1 y3 (0 : Int)) fun r8 => (caseS r8 (fun a9 => (some a9)) (fun b10 => (some true))))))))
noncomputable def slices_Equal_byte_byte.fn : TFn := ⟨[(.slice .byte), (.slice .byte)], [.bool], fun x => slices_Equal_byte_byte.f x.1 x.2⟩
noncomputable def slices_Equal_byte_byte.C : Cx := ⟨T, TYt, lkF [], lkO [], lkD [(6, 8, [(0, true), (1, true), (2, true), (3, true), (4, true), (5, true), (6, true), (7, true)], none)], [], [], false, [], 26⟩
theorem slices_Equal_byte_byte.hC : CxOK Try.prog slices_Equal_byte_byte.C := ⟨tabOK, FsOK.nil, OsOK.nil, mixed, (fun t h => by cases h), (fun t e h => by cases h)⟩
noncomputable def slices_Equal_byte_byte.root : Code := bodyOf Try.f26
theorem slices_Equal_byte_byte.h0 : LsOK Try.prog slices_Equal_byte_byte.C slices_Equal_byte_byte.root (lkL [([0, 1, 0, 1, 1], slices_Equal_byte_byte.e0)]) :=
  LsOK.cons slices_Equal_byte_byte.hC (LsOK.nil) (by kernel_rfl) (fun iv x => by kernel_rfl)
theorem slices_Equal_byte_byte.ok : FnOK Try.prog 26 slices_Equal_byte_byte.fn :=
  FnOK.of (L := lkL [([0, 1, 0, 1, 1], slices_Equal_byte_byte.e0)]) (root := slices_Equal_byte_byte.root) slices_Equal_byte_byte.hC (enters_of (c := slices_Equal_byte_byte.root) Try.func26 (by kernel_rfl) (by kernel_rfl)) Try.func26 (by kernel_rfl) (rs := [.tmp 4]) (by kernel_rfl) (by kernel_rfl) slices_Equal_byte_byte.h0 (fun x => by kernel_rfl)
noncomputable def ref8_has.s0 (v0_1 : (List UInt8)) (v0_7 : (List (List UInt8))) (v0_8 : Int) (x0_9 : Int) : Option (Int ⊕ (Bool ⊕ Unit)) :=
  (cb (decide (x0_9 < v0_8)) (ck (0 ≤ x0_9 ∧ x0_9 < ((List.length v0_7 : Nat) : Int)) (let y4 : (List UInt8) := (rd ([] : (List UInt8)) v0_7 x0_9); (ob (slices_Equal_byte_byte.f y4 v0_1) fun r5 => (cb r5 (some (.inr (.inl true))) (ck (InR (x0_9 + (1 : Int))) (some (.inl (x0_9 + (1 : Int))))))))) (some (.inr (.inr ()))))
noncomputable def ref8_has.l0 (v0_1 : (List UInt8)) (v0_7 : (List (List UInt8))) (v0_8 : Int) (x0_9 : Int) : Option (Bool ⊕ Unit) :=
  loopX (fun (x : Int) => ref8_has.s0 v0_1 v0_7 v0_8 x) x0_9
noncomputable def ref8_has.e0 : Ent where
  pre := []
  inv := [(1, .val (.slice .byte)), (7, .val (.slice (.slice .byte))), (8, .val (.int .i64))]
  car := ⟨[(9, .val (.int .i64))], []⟩
  exits := [(.ret, ⟨[(4, .val .bool)], []⟩), (.exit 0, ⟨[], []⟩)]
  step := fun iv x => ref8_has.s0 iv.1 iv.2.1 iv.2.2 x
/-- smithyardref8.has -/
noncomputable def ref8_has.f (a0 : (List (List UInt8))) (a1 : (List UInt8)) : Option Bool :=
  (let y1 : Int := ((List.length a0 : Nat) : Int); (ob (ref8_has.l0 a1 a0 y1 (0 : Int)) fun r6 => (caseS r6 (fun a7 => (some a7)) (fun b8 => (some false)))))
noncomputable def ref8_has.fn : TFn := ⟨[(.slice (.slice .byte)), (.slice .byte)], [.bool], fun x => ref8_has.f x.1 x.2⟩
noncomputable def ref8_has.C : Cx := ⟨T, TYt, lkF [(26, slices_Equal_byte_byte.fn)], lkO [], lkD [], [], [], false, [], 17⟩
theorem ref8_has.hC : CxOK Try.prog ref8_has.C := ⟨tabOK, FsOK.cons slices_Equal_byte_byte.ok (FsOK.nil), OsOK.nil, mixed, (fun t h => by cases h), (fun t e h => by cases h)⟩
noncomputable def ref8_has.root : Code := bodyOf Try.f39
theorem ref8_has.h0 : LsOK Try.prog ref8_has.C ref8_has.root (lkL [([0, 1, 0, 1], ref8_has.e0)]) :=
  LsOK.cons ref8_has.hC (LsOK.nil) (by kernel_rfl) (fun iv x => by kernel_rfl)
theorem ref8_has.ok : FnOK Try.prog 39 ref8_has.fn :=
  FnOK.of (L := lkL [([0, 1, 0, 1], ref8_has.e0)]) (root := ref8_has.root) ref8_has.hC (enters_of (c := ref8_has.root) Try.func39 (by kernel_rfl) (by kernel_rfl)) Try.func39 (by kernel_rfl) (rs := [.tmp 4]) (by kernel_rfl) (by kernel_rfl) ref8_has.h0 (fun x => by kernel_rfl)
noncomputable def ref8_Fresh.s0 (v0_0 : (List (List UInt8))) (v0_1 : (List (List UInt8))) (v0_23 : (List (List UInt8))) (v0_24 : Int) (x0_10 : Int) (x0_25 : Int) (o0_0 : (List Int)) : Option ((Int × (Int × (List Int))) ⊕ (Int × (List Int))) :=
  (cb (decide (x0_25 < v0_24)) (ck (0 ≤ x0_25 ∧ x0_25 < ((List.length v0_23 : Nat) : Int)) (let y9 : (List UInt8) := (rd ([] : (List UInt8)) v0_23 x0_25); (ob (ref8_has.f v0_0 y9) fun r10 => (cb (!r10) (ck (0 ≤ x0_25 ∧ x0_25 ≤ ((List.length v0_1 : Nat) : Int)) (let y11 : (List (List UInt8)) := (List.take (Int.toNat x0_25) v0_1); (ob (ref8_has.f y11 y9) fun r12 => (cb (!r12) (ck ((List.length o0_0 + List.length ([x0_25] : List Int)) * 8 ≤ 140737488355328) (let y13 : Int := ((List.length y9 : Nat) : Int); (ck (InR (x0_10 + y13)) (ck (InR (x0_25 + (1 : Int))) (some (.inl ((x0_10 + y13), (x0_25 + (1 : Int)), (o0_0 ++ ([x0_25] : List Int))))))))) (ck (InR (x0_25 + (1 : Int))) (some (.inl (x0_10, (x0_25 + (1 : Int)), o0_0)))))))) (ck (InR (x0_25 + (1 : Int))) (some (.inl (x0_10, (x0_25 + (1 : Int)), o0_0)))))))) (some (.inr (x0_10, o0_0))))
noncomputable def ref8_Fresh.l0 (v0_0 : (List (List UInt8))) (v0_1 : (List (List UInt8))) (v0_23 : (List (List UInt8))) (v0_24 : Int) (x0_10 : Int) (x0_25 : Int) (o0_0 : (List Int)) : Option (Int × (List Int)) :=
  loopX (fun (x : (Int × (Int × (List Int)))) => ref8_Fresh.s0 v0_0 v0_1 v0_23 v0_24 x.1 x.2.1 x.2.2) (x0_10, x0_25, o0_0)
noncomputable def ref8_Fresh.e0 : Ent where
  pre := [.nil 9 3 (.int .i64)]
  inv := [(0, .val (.slice (.slice .byte))), (1, .val (.slice (.slice .byte))), (23, .val (.slice (.slice .byte))), (24, .val (.int .i64))]
  car := ⟨[(9, .own 0 1), (10, .val (.int .i64)), (25, .val (.int .i64))], [.row 3 (.int .i64)]⟩
  exits := [(.exit 0, ⟨[(9, .own 0 1), (10, .val (.int .i64))], [.row 3 (.int .i64)]⟩)]
  step := fun iv x => ref8_Fresh.s0 iv.1 iv.2.1 iv.2.2.1 iv.2.2.2 x.1 x.2.1 x.2.2
/-- smithyardref8.Fresh -/
noncomputable def ref8_Fresh.f (a0 : (List (List UInt8))) (a1 : (List (List UInt8))) : Option ((List Int) × (Int × Int)) :=
  (ob (ref8_checkPieces.f a0) fun r1 => (cb (!decide (r1 = (0 : Int))) (some (([] : List Int), (0 : Int), r1)) (ob (ref8_checkPieces.f a1) fun r2 => (cb (!decide (r2 = (0 : Int))) (some (([] : List Int), (0 : Int), r2)) (let y3 : Int := ((List.length a1 : Nat) : Int); (ob (ref8_Fresh.l0 a0 a1 a1 y3 (0 : Int) (0 : Int) ([] : List Int)) fun r14 => (some (r14.2, r14.1, (0 : Int)))))))))
noncomputable def ref8_Fresh.fn : TFn := ⟨[(.slice (.slice .byte)), (.slice (.slice .byte))], [(.slice (.int .i64)), (.int .i64), (.int .i64)], fun x => ref8_Fresh.f x.1 x.2⟩
noncomputable def ref8_Fresh.C : Cx := ⟨T, TYt, lkF [(38, ref8_checkPieces.fn), (39, ref8_has.fn)], lkO [], lkD [], [], [], false, [], 53⟩
theorem ref8_Fresh.hC : CxOK Try.prog ref8_Fresh.C := ⟨tabOK, FsOK.cons ref8_checkPieces.ok (FsOK.cons ref8_has.ok (FsOK.nil)), OsOK.nil, mixed, (fun t h => by cases h), (fun t e h => by cases h)⟩
noncomputable def ref8_Fresh.root : Code := bodyOf Try.f21
theorem ref8_Fresh.h0 : LsOK Try.prog ref8_Fresh.C ref8_Fresh.root (lkL [([0, 1, 0, 1, 1, 1, 1, 1], ref8_Fresh.e0)]) :=
  LsOK.cons ref8_Fresh.hC (LsOK.nil) (by kernel_rfl) (fun iv x => by kernel_rfl)
theorem ref8_Fresh.ok : FnOK Try.prog 21 ref8_Fresh.fn :=
  FnOK.of (L := lkL [([0, 1, 0, 1, 1, 1, 1, 1], ref8_Fresh.e0)]) (root := ref8_Fresh.root) ref8_Fresh.hC (enters_of (c := ref8_Fresh.root) Try.func21 (by kernel_rfl) (by kernel_rfl)) Try.func21 (by kernel_rfl) (rs := [.tmp 4, .tmp 5, .tmp 6]) (by kernel_rfl) (by kernel_rfl) ref8_Fresh.h0 (fun x => by kernel_rfl)
/-- bytes.Equal -/
noncomputable def bytes_Equal.f (a0 : (List UInt8)) (a1 : (List UInt8)) : Option Bool :=
  (some (decide ((bstr a0) = (bstr a1))))
noncomputable def bytes_Equal.fn : TFn := ⟨[(.slice .byte), (.slice .byte)], [.bool], fun x => bytes_Equal.f x.1 x.2⟩
noncomputable def bytes_Equal.C : Cx := ⟨T, TYt, lkF [], lkO [], lkD [], [], [], false, [], 10⟩
theorem bytes_Equal.hC : CxOK Try.prog bytes_Equal.C := ⟨tabOK, FsOK.nil, OsOK.nil, mixed, (fun t h => by cases h), (fun t e h => by cases h)⟩
noncomputable def bytes_Equal.root : Code := bodyOf Try.f40
theorem bytes_Equal.ok : FnOK Try.prog 40 bytes_Equal.fn :=
  FnOK.of (L := lkL []) (root := bytes_Equal.root) bytes_Equal.hC (enters_of (c := bytes_Equal.root) Try.func40 (by kernel_rfl) (by kernel_rfl)) Try.func40 (by kernel_rfl) (rs := [.tmp 4]) (by kernel_rfl) (by kernel_rfl) LsOK.nil (fun x => by kernel_rfl)
noncomputable def ref1_SamePieces.s0 (v0_0 : (List (List UInt8))) (v0_1 : (List (List UInt8))) (x0_5 : Int) : Option (Int ⊕ (Bool ⊕ Unit)) :=
  (let y7 : Int := ((List.length v0_0 : Nat) : Int); (cb (decide (x0_5 < y7)) (ck (0 ≤ x0_5 ∧ x0_5 < ((List.length v0_0 : Nat) : Int)) (let y8 : (List UInt8) := (rd ([] : (List UInt8)) v0_0 x0_5); (ck (0 ≤ x0_5 ∧ x0_5 < ((List.length v0_1 : Nat) : Int)) (let y9 : (List UInt8) := (rd ([] : (List UInt8)) v0_1 x0_5); (ob (bytes_Equal.f y8 y9) fun r10 => (cb (!r10) (some (.inr (.inl false))) (ck (InR (x0_5 + (1 : Int))) (some (.inl (x0_5 + (1 : Int))))))))))) (some (.inr (.inr ())))))
noncomputable def ref1_SamePieces.l0 (v0_0 : (List (List UInt8))) (v0_1 : (List (List UInt8))) (x0_5 : Int) : Option (Bool ⊕ Unit) :=
  loopX (fun (x : Int) => ref1_SamePieces.s0 v0_0 v0_1 x) x0_5
noncomputable def ref1_SamePieces.e0 : Ent where
  pre := []
  inv := [(0, .val (.slice (.slice .byte))), (1, .val (.slice (.slice .byte)))]
  car := ⟨[(5, .val (.int .i64))], []⟩
  exits := [(.ret, ⟨[(4, .val .bool)], []⟩), (.exit 0, ⟨[], []⟩)]
  step := fun iv x => ref1_SamePieces.s0 iv.1 iv.2 x
/-- smithyardref1.SamePieces -/
noncomputable def ref1_SamePieces.f (a0 : (List (List UInt8))) (a1 : (List (List UInt8))) : Option Bool :=
  (let y1 : Int := ((List.length a0 : Nat) : Int); (let y2 : Int := ((List.length a1 : Nat) : Int); (cb (!decide (y1 = y2)) (some false) (ob (ref1_SamePieces.l0 a0 a1 (0 : Int)) fun r11 => (caseS r11 (fun a12 => (some a12)) (fun b13 => (some true)))))))
noncomputable def ref1_SamePieces.fn : TFn := ⟨[(.slice (.slice .byte)), (.slice (.slice .byte))], [.bool], fun x => ref1_SamePieces.f x.1 x.2⟩
noncomputable def ref1_SamePieces.C : Cx := ⟨T, TYt, lkF [(40, bytes_Equal.fn)], lkO [], lkD [(6, 8, [(0, true), (1, true), (2, true), (3, true), (4, true), (5, true), (6, true), (7, true)], none)], [], [], false, [], 27⟩
theorem ref1_SamePieces.hC : CxOK Try.prog ref1_SamePieces.C := ⟨tabOK, FsOK.cons bytes_Equal.ok (FsOK.nil), OsOK.nil, mixed, (fun t h => by cases h), (fun t e h => by cases h)⟩
noncomputable def ref1_SamePieces.root : Code := bodyOf Try.f22
theorem ref1_SamePieces.h0 : LsOK Try.prog ref1_SamePieces.C ref1_SamePieces.root (lkL [([0, 1, 0, 1, 1], ref1_SamePieces.e0)]) :=
  LsOK.cons ref1_SamePieces.hC (LsOK.nil) (by kernel_rfl) (fun iv x => by kernel_rfl)
theorem ref1_SamePieces.ok : FnOK Try.prog 22 ref1_SamePieces.fn :=
  FnOK.of (L := lkL [([0, 1, 0, 1, 1], ref1_SamePieces.e0)]) (root := ref1_SamePieces.root) ref1_SamePieces.hC (enters_of (c := ref1_SamePieces.root) Try.func22 (by kernel_rfl) (by kernel_rfl)) Try.func22 (by kernel_rfl) (rs := [.tmp 4]) (by kernel_rfl) (by kernel_rfl) ref1_SamePieces.h0 (fun x => by kernel_rfl)
/-- smithyardlaw8.WireFreshMatchesSpec -/
noncomputable def law8_WireFreshMatchesSpec.f (a0 : (List (List UInt8))) (a1 : (List (List UInt8))) : Option Bool :=
  (ob (ref1_CopyPieces.f a0) fun r1 => (ob (ref1_CopyPieces.f a1) fun r2 => (ob (wire_Fresh.f a0 a1) fun r3 => (ob (ref8_Fresh.f r1 r2) fun r4 => (cb (decide (r3.2.2 = r4.2.2)) (cb (decide (r3.2.1 = r4.2.1)) (ob (slices_Equal_int_int.f r3.1 r4.1) fun r5 => (cb r5 (ob (ref1_SamePieces.f a0 r1) fun r6 => (cb r6 (ob (ref1_SamePieces.f a1 r2) fun r7 => (cb r7 (ob (law8_awake.f) fun r8 => (some r8)) (some false))) (some false))) (some false))) (some false)) (some false))))))
noncomputable def law8_WireFreshMatchesSpec.fn : TFn := ⟨[(.slice (.slice .byte)), (.slice (.slice .byte))], [.bool], fun x => law8_WireFreshMatchesSpec.f x.1 x.2⟩
noncomputable def law8_WireFreshMatchesSpec.C : Cx := ⟨T, TYt, lkF [(10, law8_awake.fn), (16, slices_Equal_int_int.fn), (19, ref1_CopyPieces.fn), (20, wire_Fresh.fn), (21, ref8_Fresh.fn), (22, ref1_SamePieces.fn)], lkO [], lkD [], [], [], false, [], 57⟩
theorem law8_WireFreshMatchesSpec.hC : CxOK Try.prog law8_WireFreshMatchesSpec.C := ⟨tabOK, FsOK.cons law8_awake.ok (FsOK.cons slices_Equal_int_int.ok (FsOK.cons ref1_CopyPieces.ok (FsOK.cons wire_Fresh.ok (FsOK.cons ref8_Fresh.ok (FsOK.cons ref1_SamePieces.ok (FsOK.nil)))))), OsOK.nil, mixed, (fun t h => by cases h), (fun t e h => by cases h)⟩
noncomputable def law8_WireFreshMatchesSpec.root : Code := bodyOf Try.f5
theorem law8_WireFreshMatchesSpec.ok : FnOK Try.prog 5 law8_WireFreshMatchesSpec.fn :=
  FnOK.of (L := lkL []) (root := law8_WireFreshMatchesSpec.root) law8_WireFreshMatchesSpec.hC (enters_of (c := law8_WireFreshMatchesSpec.root) Try.func5 (by kernel_rfl) (by kernel_rfl)) Try.func5 (by kernel_rfl) (rs := [.tmp 4]) (by kernel_rfl) (by kernel_rfl) LsOK.nil (fun x => by kernel_rfl)
/-- slices.Clone[[]int,int] -/
noncomputable def slices_Clone_int_int.f (a0 : (List Int)) : Option (List Int) :=
  (nq (¬ a0 = ([] : List Int)) (ck ((List.length ([] : List Int) + List.length a0) * 8 ≤ 140737488355328) (some (([] : List Int) ++ a0))) (some ([] : List Int)))
noncomputable def slices_Clone_int_int.fn : TFn := ⟨[(.slice (.int .i64))], [(.slice (.int .i64))], fun x => slices_Clone_int_int.f x⟩
noncomputable def slices_Clone_int_int.C : Cx := ⟨T, TYt, lkF [], lkO [], lkD [], [], [], false, [], 8⟩
theorem slices_Clone_int_int.hC : CxOK Try.prog slices_Clone_int_int.C := ⟨tabOK, FsOK.nil, OsOK.nil, mixed, (fun t h => by cases h), (fun t e h => by cases h)⟩
noncomputable def slices_Clone_int_int.root : Code := bodyOf Try.f23
theorem slices_Clone_int_int.ok : FnOK Try.prog 23 slices_Clone_int_int.fn :=
  FnOK.of (L := lkL []) (root := slices_Clone_int_int.root) slices_Clone_int_int.hC (enters_of (c := slices_Clone_int_int.root) Try.func23 (by kernel_rfl) (by kernel_rfl)) Try.func23 (by kernel_rfl) (rs := [.tmp 2]) (by kernel_rfl) (by kernel_rfl) LsOK.nil (fun x => by kernel_rfl)
/-- smithyardref8.Below -/
noncomputable def ref8_Below.f (a0 : Int) (a1 : Int) : Option Int :=
  (ck (a1 ≠ 0) (cb (decide ((Int.tmod a0 a1) < (0 : Int))) (ck (InR ((Int.tmod a0 a1) + a1)) (some ((Int.tmod a0 a1) + a1))) (some (Int.tmod a0 a1))))
noncomputable def ref8_Below.fn : TFn := ⟨[(.int .i64), (.int .i64)], [(.int .i64)], fun x => ref8_Below.f x.1 x.2⟩
noncomputable def ref8_Below.C : Cx := ⟨T, TYt, lkF [], lkO [], lkD [], [], [], false, [], 14⟩
theorem ref8_Below.hC : CxOK Try.prog ref8_Below.C := ⟨tabOK, FsOK.nil, OsOK.nil, mixed, (fun t h => by cases h), (fun t e h => by cases h)⟩
noncomputable def ref8_Below.root : Code := bodyOf Try.f24
theorem ref8_Below.ok : FnOK Try.prog 24 ref8_Below.fn :=
  FnOK.of (L := lkL []) (root := ref8_Below.root) ref8_Below.hC (enters_of (c := ref8_Below.root) Try.func24 (by kernel_rfl) (by kernel_rfl)) Try.func24 (by kernel_rfl) (rs := [.tmp 4]) (by kernel_rfl) (by kernel_rfl) LsOK.nil (fun x => by kernel_rfl)
noncomputable def slices_Index_bool_bool.s0 (v0_0 : (List Bool)) (v0_1 : Bool) (v0_7 : Int) (x0_8 : Int) : Option (Int ⊕ (Int ⊕ Unit)) :=
  (cb (decide (x0_8 < v0_7)) (ck (0 ≤ x0_8 ∧ x0_8 < ((List.length v0_0 : Nat) : Int)) (cb (v0_1 == (rd false v0_0 x0_8)) (some (.inr (.inl x0_8))) (ck (InR (x0_8 + (1 : Int))) (some (.inl (x0_8 + (1 : Int))))))) (some (.inr (.inr ()))))
noncomputable def slices_Index_bool_bool.l0 (v0_0 : (List Bool)) (v0_1 : Bool) (v0_7 : Int) (x0_8 : Int) : Option (Int ⊕ Unit) :=
  loopX (fun (x : Int) => slices_Index_bool_bool.s0 v0_0 v0_1 v0_7 x) x0_8
noncomputable def slices_Index_bool_bool.e0 : Ent where
  pre := []
  inv := [(0, .val (.slice .bool)), (1, .val .bool), (7, .val (.int .i64))]
  car := ⟨[(8, .val (.int .i64))], []⟩
  exits := [(.ret, ⟨[(4, .val (.int .i64))], []⟩), (.exit 0, ⟨[], []⟩)]
  step := fun iv x => slices_Index_bool_bool.s0 iv.1 iv.2.1 iv.2.2 x
/-- slices.Index[[]bool,bool] -/
noncomputable def slices_Index_bool_bool.f (a0 : (List Bool)) (a1 : Bool) : Option Int :=
  (let y1 : Int := ((List.length a0 : Nat) : Int); (ob (slices_Index_bool_bool.l0 a0 a1 y1 (0 : Int)) fun r2 => (caseS r2 (fun a3 => (some a3)) (fun b4 => (some (-1 : Int))))))
noncomputable def slices_Index_bool_bool.fn : TFn := ⟨[(.slice .bool), .bool], [(.int .i64)], fun x => slices_Index_bool_bool.f x.1 x.2⟩
noncomputable def slices_Index_bool_bool.C : Cx := ⟨T, TYt, lkF [], lkO [], lkD [], [], [], false, [], 19⟩
theorem slices_Index_bool_bool.hC : CxOK Try.prog slices_Index_bool_bool.C := ⟨tabOK, FsOK.nil, OsOK.nil, mixed, (fun t h => by cases h), (fun t e h => by cases h)⟩
noncomputable def slices_Index_bool_bool.root : Code := bodyOf Try.f46
theorem slices_Index_bool_bool.h0 : LsOK Try.prog slices_Index_bool_bool.C slices_Index_bool_bool.root (lkL [([0, 1, 0, 1], slices_Index_bool_bool.e0)]) :=
  LsOK.cons slices_Index_bool_bool.hC (LsOK.nil) (by kernel_rfl) (fun iv x => by kernel_rfl)
theorem slices_Index_bool_bool.ok : FnOK Try.prog 46 slices_Index_bool_bool.fn :=
  FnOK.of (L := lkL [([0, 1, 0, 1], slices_Index_bool_bool.e0)]) (root := slices_Index_bool_bool.root) slices_Index_bool_bool.hC (enters_of (c := slices_Index_bool_bool.root) Try.func46 (by kernel_rfl) (by kernel_rfl)) Try.func46 (by kernel_rfl) (rs := [.tmp 4]) (by kernel_rfl) (by kernel_rfl) slices_Index_bool_bool.h0 (fun x => by kernel_rfl)
/-- slices.Contains[[]bool,bool] -/
noncomputable def slices_Contains_bool_bool.f (a0 : (List Bool)) (a1 : Bool) : Option Bool :=
  (ob (slices_Index_bool_bool.f a0 a1) fun r1 => (some (decide ((0 : Int) ≤ r1))))
noncomputable def slices_Contains_bool_bool.fn : TFn := ⟨[(.slice .bool), .bool], [.bool], fun x => slices_Contains_bool_bool.f x.1 x.2⟩
noncomputable def slices_Contains_bool_bool.C : Cx := ⟨T, TYt, lkF [(46, slices_Index_bool_bool.fn)], lkO [], lkD [], [], [], false, [], 9⟩
theorem slices_Contains_bool_bool.hC : CxOK Try.prog slices_Contains_bool_bool.C := ⟨tabOK, FsOK.cons slices_Index_bool_bool.ok (FsOK.nil), OsOK.nil, mixed, (fun t h => by cases h), (fun t e h => by cases h)⟩
noncomputable def slices_Contains_bool_bool.root : Code := bodyOf Try.f41
theorem slices_Contains_bool_bool.ok : FnOK Try.prog 41 slices_Contains_bool_bool.fn :=
  FnOK.of (L := lkL []) (root := slices_Contains_bool_bool.root) slices_Contains_bool_bool.hC (enters_of (c := slices_Contains_bool_bool.root) Try.func41 (by kernel_rfl) (by kernel_rfl)) Try.func41 (by kernel_rfl) (rs := [.tmp 4]) (by kernel_rfl) (by kernel_rfl) LsOK.nil (fun x => by kernel_rfl)
noncomputable def wire_Patch.s0 (v0_1 : Int) (v0_21 : (List (Int × (List UInt8)))) (v0_22 : Int) (x0_23 : Int) : Option (Int ⊕ (((List UInt8) × Int) ⊕ Unit)) :=
  (cb (decide (x0_23 < v0_22)) (ck (0 ≤ x0_23 ∧ x0_23 < ((List.length v0_21 : Nat) : Int)) (let y7 : (Int × (List UInt8)) := (rd ((0 : Int), ([] : (List UInt8))) v0_21 x0_23); (ob (wire_within.f y7.1 (0 : Int) v0_1) fun r8 => (cb (!r8) (some (.inr (.inl (([] : List UInt8), (1 : Int))))) (let y9 : Int := ((List.length y7.2 : Nat) : Int); (ck (InR (v0_1 - y7.1)) (cb (decide ((v0_1 - y7.1) < y9)) (some (.inr (.inl (([] : List UInt8), (1 : Int))))) (ck (InR (x0_23 + (1 : Int))) (some (.inl (x0_23 + (1 : Int)))))))))))) (some (.inr (.inr ()))))
noncomputable def wire_Patch.l0 (v0_1 : Int) (v0_21 : (List (Int × (List UInt8)))) (v0_22 : Int) (x0_23 : Int) : Option (((List UInt8) × Int) ⊕ Unit) :=
  loopX (fun (x : Int) => wire_Patch.s0 v0_1 v0_21 v0_22 x) x0_23
noncomputable def wire_Patch.e0 : Ent where
  pre := []
  inv := [(0, .val (.slice (.pair (.int .i64) (.slice .byte)))), (1, .val (.int .i64)), (21, .val (.slice (.pair (.int .i64) (.slice .byte)))), (22, .val (.int .i64))]
  car := ⟨[(23, .val (.int .i64))], []⟩
  exits := [(.ret, ⟨[(4, .val (.slice .byte)), (5, .val (.int .i64))], []⟩), (.exit 0, ⟨[], []⟩)]
  step := fun iv x => wire_Patch.s0 iv.2.1 iv.2.2.1 iv.2.2.2 x
noncomputable def wire_Patch.s2 (v2_11 : (Int × (List UInt8))) (v2_54 : (List UInt8)) (v2_55 : Int) (x2_56 : Int) (o2_0 : (List UInt8)) (o2_1 : (List Bool)) : Option ((Int × ((List UInt8) × (List Bool))) ⊕ (((List UInt8) × Int) ⊕ ((List UInt8) × (List Bool)))) :=
  (cb (decide (x2_56 < v2_55)) (ck (0 ≤ x2_56 ∧ x2_56 < ((List.length v2_54 : Nat) : Int)) (let y18 : UInt8 := (rd (0 : UInt8) v2_54 x2_56); (ck (InR (v2_11.1 + x2_56)) (ck (0 ≤ (v2_11.1 + x2_56) ∧ (v2_11.1 + x2_56) < ((List.length o2_1 : Nat) : Int)) (ck ((Int.toNat (v2_11.1 + x2_56)) < List.length o2_1) (cb (List.getD o2_1 (Int.toNat (v2_11.1 + x2_56)) false) (ck (0 ≤ (v2_11.1 + x2_56) ∧ (v2_11.1 + x2_56) < ((List.length o2_0 : Nat) : Int)) (ck ((Int.toNat (v2_11.1 + x2_56)) < List.length o2_0) (let y19 : UInt8 := (List.getD o2_0 (Int.toNat (v2_11.1 + x2_56)) (0 : UInt8)); (cb (!decide (((UInt8.toNat y19 : Nat) : Int) = ((UInt8.toNat y18 : Nat) : Int))) (some (.inr (.inl (([] : List UInt8), (12 : Int))))) (ck (0 ≤ (v2_11.1 + x2_56) ∧ (v2_11.1 + x2_56) < ((List.length o2_0 : Nat) : Int)) (ck ((Int.toNat (v2_11.1 + x2_56)) < List.length o2_0) (ck (0 ≤ (v2_11.1 + x2_56) ∧ (v2_11.1 + x2_56) < ((List.length o2_1 : Nat) : Int)) (ck ((Int.toNat (v2_11.1 + x2_56)) < List.length o2_1) (ck (InR (x2_56 + (1 : Int))) (some (.inl ((x2_56 + (1 : Int)), (List.set o2_0 (Int.toNat (v2_11.1 + x2_56)) y18), (List.set o2_1 (Int.toNat (v2_11.1 + x2_56)) true))))))))))))) (ck (0 ≤ (v2_11.1 + x2_56) ∧ (v2_11.1 + x2_56) < ((List.length o2_0 : Nat) : Int)) (ck ((Int.toNat (v2_11.1 + x2_56)) < List.length o2_0) (ck (0 ≤ (v2_11.1 + x2_56) ∧ (v2_11.1 + x2_56) < ((List.length o2_1 : Nat) : Int)) (ck ((Int.toNat (v2_11.1 + x2_56)) < List.length o2_1) (ck (InR (x2_56 + (1 : Int))) (some (.inl ((x2_56 + (1 : Int)), (List.set o2_0 (Int.toNat (v2_11.1 + x2_56)) y18), (List.set o2_1 (Int.toNat (v2_11.1 + x2_56)) true))))))))))))))) (some (.inr (.inr (o2_0, o2_1)))))
noncomputable def wire_Patch.l2 (v2_11 : (Int × (List UInt8))) (v2_54 : (List UInt8)) (v2_55 : Int) (x2_56 : Int) (o2_0 : (List UInt8)) (o2_1 : (List Bool)) : Option (((List UInt8) × Int) ⊕ ((List UInt8) × (List Bool))) :=
  loopX (fun (x : (Int × ((List UInt8) × (List Bool)))) => wire_Patch.s2 v2_11 v2_54 v2_55 x.1 x.2.1 x.2.2) (x2_56, o2_0, o2_1)
noncomputable def wire_Patch.e2 : Ent where
  pre := []
  inv := [(11, .rp (.pair (.int .i64) (.slice .byte))), (47, .val (.slice (.pair (.int .i64) (.slice .byte)))), (48, .val (.int .i64)), (49, .val (.int .i64)), (54, .val (.slice .byte)), (55, .val (.int .i64))]
  car := ⟨[(8, .own 0 1), (9, .own 1 1), (56, .val (.int .i64))], [.row 5 .byte, .row 4 .bool, .dead]⟩
  exits := [(.ret, ⟨[(4, .val (.slice .byte)), (5, .val (.int .i64))], []⟩), (.exit 4, ⟨[(8, .own 0 1), (9, .own 1 1)], [.row 5 .byte, .row 4 .bool, .dead]⟩)]
  step := fun iv x => wire_Patch.s2 iv.1 iv.2.2.2.2.1 iv.2.2.2.2.2 x.1 x.2.1 x.2.2
noncomputable def wire_Patch.s1 (v1_47 : (List (Int × (List UInt8)))) (v1_48 : Int) (x1_49 : Int) (o1_0 : (List UInt8)) (o1_1 : (List Bool)) : Option ((Int × ((List UInt8) × (List Bool))) ⊕ (((List UInt8) × Int) ⊕ ((List UInt8) × (List Bool)))) :=
  (cb (decide (x1_49 < v1_48)) (ck (0 ≤ x1_49 ∧ x1_49 < ((List.length v1_47 : Nat) : Int)) (let y23 : (Int × (List UInt8)) := (rd ((0 : Int), ([] : (List UInt8))) v1_47 x1_49); (let y24 : Int := ((List.length y23.2 : Nat) : Int); (ob (wire_Patch.l2 y23 y23.2 y24 (0 : Int) o1_0 o1_1) fun r25 => (caseS r25 (fun a26 => (some (.inr (.inl (a26.1, a26.2))))) (fun b27 => (ck (InR (x1_49 + (1 : Int))) (some (.inl ((x1_49 + (1 : Int)), b27.1, b27.2)))))))))) (some (.inr (.inr (o1_0, o1_1)))))
noncomputable def wire_Patch.l1 (v1_47 : (List (Int × (List UInt8)))) (v1_48 : Int) (x1_49 : Int) (o1_0 : (List UInt8)) (o1_1 : (List Bool)) : Option (((List UInt8) × Int) ⊕ ((List UInt8) × (List Bool))) :=
  loopX (fun (x : (Int × ((List UInt8) × (List Bool)))) => wire_Patch.s1 v1_47 v1_48 x.1 x.2.1 x.2.2) (x1_49, o1_0, o1_1)
noncomputable def wire_Patch.e1 : Ent where
  pre := []
  inv := [(47, .val (.slice (.pair (.int .i64) (.slice .byte)))), (48, .val (.int .i64))]
  car := ⟨[(8, .own 0 1), (9, .own 1 1), (49, .val (.int .i64))], [.row 5 .byte, .row 4 .bool]⟩
  exits := [(.ret, ⟨[(4, .val (.slice .byte)), (5, .val (.int .i64))], []⟩), (.exit 2, ⟨[(8, .own 0 1), (9, .own 1 1)], [.row 5 .byte, .row 4 .bool]⟩)]
  step := fun iv x => wire_Patch.s1 iv.1 iv.2 x.1 x.2.1 x.2.2
/-- wire.Patch -/
noncomputable def wire_Patch.f (a0 : (List (Int × (List UInt8)))) (a1 : Int) : Option ((List UInt8) × Int) :=
  (ob (wire_within.f a1 (0 : Int) (2000000 : Int)) fun r1 => (cb (!r1) (some (([] : List UInt8), (1 : Int))) (let y2 : Int := ((List.length a0 : Nat) : Int); (cb (decide ((20000 : Int) < y2)) (some (([] : List UInt8), (2 : Int))) (let y3 : Int := ((List.length a0 : Nat) : Int); (ob (wire_Patch.l0 a1 a0 y3 (0 : Int)) fun r10 => (caseS r10 (fun a11 => (some (a11.1, a11.2))) (fun b12 => (dup (ck (0 ≤ a1 ∧ a1 * (1 : Int) ≤ 140737488355328) (ck (0 ≤ a1 ∧ a1 * (1 : Int) ≤ 140737488355328) (let y13 : Int := ((List.length a0 : Nat) : Int); (ob (wire_Patch.l1 a0 y13 (0 : Int) (List.replicate (Int.toNat a1) (0 : UInt8)) (List.replicate (Int.toNat a1) false)) fun r28 => (caseS r28 (fun a29 => (some (a29.1, a29.2))) (fun b30 => (ob (slices_Contains_bool_bool.f b30.2 false) fun r31 => (cb r31 (some (([] : List UInt8), (9 : Int))) (some (b30.1, (0 : Int))))))))))))))))))))
noncomputable def wire_Patch.fn : TFn := ⟨[(.slice (.pair (.int .i64) (.slice .byte))), (.int .i64)], [(.slice .byte), (.int .i64)], fun x => wire_Patch.f x.1 x.2⟩
noncomputable def wire_Patch.C : Cx := ⟨T, TYt, lkF [(34, wire_within.fn), (41, slices_Contains_bool_bool.fn)], lkO [], lkD [(11, 5, [(0, true), (2, true)], some (1, [(4, true), (3, false)], 3, [(1, false), (4, true)]))], [7, 11], [], false, [], 89⟩
theorem wire_Patch.hC : CxOK Try.prog wire_Patch.C := ⟨tabOK, FsOK.cons wire_within.ok (FsOK.cons slices_Contains_bool_bool.ok (FsOK.nil)), OsOK.nil, mixed, (fun t h => by cases h), (fun t e h => by cases h)⟩
noncomputable def wire_Patch.root : Code := bodyOf Try.f25
theorem wire_Patch.h0 : LsOK Try.prog wire_Patch.C wire_Patch.root (lkL [([0, 1, 0, 1, 1, 1], wire_Patch.e0)]) :=
  LsOK.cons wire_Patch.hC (LsOK.nil) (by kernel_rfl) (fun iv x => by kernel_rfl)
theorem wire_Patch.h2 : LsOK Try.prog wire_Patch.C wire_Patch.root (lkL [([0, 1, 1, 0, 0, 1, 1, 0, 0, 1, 0, 1, 1, 1, 1, 1], wire_Patch.e2), ([0, 1, 0, 1, 1, 1], wire_Patch.e0)]) :=
  LsOK.cons wire_Patch.hC (wire_Patch.h0) (by kernel_rfl) (fun iv x => by kernel_rfl)
theorem wire_Patch.h1 : LsOK Try.prog wire_Patch.C wire_Patch.root (lkL [([0, 1, 0, 1, 1, 1, 1, 1], wire_Patch.e1), ([0, 1, 1, 0, 0, 1, 1, 0, 0, 1, 0, 1, 1, 1, 1, 1], wire_Patch.e2), ([0, 1, 0, 1, 1, 1], wire_Patch.e0)]) :=
  LsOK.cons wire_Patch.hC (wire_Patch.h2) (by kernel_rfl) (fun iv x => by kernel_rfl)
theorem wire_Patch.ok : FnOK Try.prog 25 wire_Patch.fn :=
  FnOK.of (L := lkL [([0, 1, 0, 1, 1, 1, 1, 1], wire_Patch.e1), ([0, 1, 1, 0, 0, 1, 1, 0, 0, 1, 0, 1, 1, 1, 1, 1], wire_Patch.e2), ([0, 1, 0, 1, 1, 1], wire_Patch.e0)]) (root := wire_Patch.root) wire_Patch.hC (enters_of (c := wire_Patch.root) Try.func25 (by kernel_rfl) (by kernel_rfl)) Try.func25 (by kernel_rfl) (rs := [.tmp 4, .tmp 5]) (by kernel_rfl) (by kernel_rfl) wire_Patch.h1 (fun x => by kernel_rfl)
/-- slices.Clone[[]int,int] -/
noncomputable def slices_Clone_int_int_o.f (a0 : (List Int)) : Option (List Int) :=
  (nq (¬ a0 = ([] : List Int)) (ck ((List.length ([] : List Int) + List.length a0) * 8 ≤ 140737488355328) (some (([] : List Int) ++ a0))) (some ([] : List Int)))
noncomputable def slices_Clone_int_int_o.fn : TFo := ⟨[(.slice (.int .i64))], [(.slice (.int .i64))], [some 3], fun x => slices_Clone_int_int_o.f x⟩
noncomputable def slices_Clone_int_int_o.C : Cx := ⟨T, TYt, lkF [], lkO [], lkD [], [], [], false, [], 8⟩
theorem slices_Clone_int_int_o.hC : CxOK Try.prog slices_Clone_int_int_o.C := ⟨tabOK, FsOK.nil, OsOK.nil, mixed, (fun t h => by cases h), (fun t e h => by cases h)⟩
noncomputable def slices_Clone_int_int_o.root : Code := bodyOf Try.f23
theorem slices_Clone_int_int_o.ok : FnOKo Try.prog 23 slices_Clone_int_int_o.fn :=
  FnOKo.of (L := lkL []) (root := slices_Clone_int_int_o.root) slices_Clone_int_int_o.hC (enters_of (c := slices_Clone_int_int_o.root) Try.func23 (by kernel_rfl) (by kernel_rfl)) Try.func23 (by kernel_rfl) (rs := [.tmp 2]) (by kernel_rfl) (by kernel_rfl) LsOK.nil (fun x => by kernel_rfl)
noncomputable def law8_WirePatchPutsTogether.s0 (v0_0 : (List UInt8)) (v0_27 : Int) (x0_5 : (List (Int × (List UInt8)))) (x0_6 : Int) (x0_28 : Int) (o0_1 : (List Int)) (o0_2 : (List Int)) : Option (((List (Int × (List UInt8))) × (Int × (Int × ((List Int) × (List Int))))) ⊕ ((List (Int × (List UInt8))) × ((List Int) × (List Int)))) :=
  (cb (decide (x0_28 < v0_27)) (ck (0 ≤ x0_28 ∧ x0_28 < ((List.length o0_1 : Nat) : Int)) (ck ((Int.toNat x0_28) < List.length o0_1) (let y29 : Int := (List.getD o0_1 (Int.toNat x0_28) (0 : Int)); (let y30 : Int := ((List.length v0_0 : Nat) : Int); (cb (decide ((0 : Int) ≤ y29)) (let y31 : Int := ((List.length v0_0 : Nat) : Int); (ck (InR (y31 - x0_6)) (ck (InR ((y31 - x0_6) + (1 : Int))) (let y32 : Int := ((y31 - x0_6) + (1 : Int)); (ob (ref8_Below.f y29 y32) fun r33 => (ck (InR (x0_6 + r33)) (ob (ref8_Below.f y29 (3 : Int)) fun r34 => (ck (InR (x0_6 - r34)) (let y35 : Int := (max (0 : Int) (x0_6 - r34)); (ck (0 ≤ y35 ∧ y35 ≤ (x0_6 + r33) ∧ (x0_6 + r33) ≤ ((List.length v0_0 : Nat) : Int)) (let y36 : (List UInt8) := (List.drop (Int.toNat y35) (List.take (Int.toNat (x0_6 + r33)) v0_0)); (ck ((List.length ([(y35, y36)] : List (Int × (List UInt8))) + List.length x0_5) * 32 ≤ 140737488355328) (ck (InR (x0_28 + (1 : Int))) (some (.inl ((([(y35, y36)] : List (Int × (List UInt8))) ++ x0_5), (x0_6 + r33), (x0_28 + (1 : Int)), o0_1, o0_2)))))))))))))))) (ob (ref8_Below.f y29 (3 : Int)) fun r37 => (ck (InR (x0_6 - r37)) (let y38 : Int := (max (0 : Int) (x0_6 - r37)); (ck (0 ≤ y38 ∧ y38 ≤ y30 ∧ y30 ≤ ((List.length v0_0 : Nat) : Int)) (let y39 : (List UInt8) := (List.drop (Int.toNat y38) (List.take (Int.toNat y30) v0_0)); (ck ((List.length ([(y38, y39)] : List (Int × (List UInt8))) + List.length x0_5) * 32 ≤ 140737488355328) (ck (InR (x0_28 + (1 : Int))) (some (.inl ((([(y38, y39)] : List (Int × (List UInt8))) ++ x0_5), y30, (x0_28 + (1 : Int)), o0_1, o0_2))))))))))))))) (some (.inr (x0_5, o0_1, o0_2))))
noncomputable def law8_WirePatchPutsTogether.l0 (v0_0 : (List UInt8)) (v0_27 : Int) (x0_5 : (List (Int × (List UInt8)))) (x0_6 : Int) (x0_28 : Int) (o0_1 : (List Int)) (o0_2 : (List Int)) : Option ((List (Int × (List UInt8))) × ((List Int) × (List Int))) :=
  loopX (fun (x : ((List (Int × (List UInt8))) × (Int × (Int × ((List Int) × (List Int)))))) => law8_WirePatchPutsTogether.s0 v0_0 v0_27 x.1 x.2.1 x.2.2.1 x.2.2.2.1 x.2.2.2.2) (x0_5, x0_6, x0_28, o0_1, o0_2)
noncomputable def law8_WirePatchPutsTogether.e0 : Ent where
  pre := [.frz 5]
  inv := [(0, .val (.slice .byte)), (27, .val (.int .i64))]
  car := ⟨[(5, .val (.slice (.pair (.int .i64) (.slice .byte)))), (6, .val (.int .i64)), (26, .own 1 1), (28, .val (.int .i64))], [.dead, .row 3 (.int .i64), .row 3 (.int .i64)]⟩
  exits := [(.exit 0, ⟨[(5, .val (.slice (.pair (.int .i64) (.slice .byte))))], [.dead, .row 3 (.int .i64), .row 3 (.int .i64)]⟩)]
  step := fun iv x => law8_WirePatchPutsTogether.s0 iv.1 iv.2 x.1 x.2.1 x.2.2.1 x.2.2.2.1 x.2.2.2.2
/-- smithyardlaw8.WirePatchPutsTogether -/
noncomputable def law8_WirePatchPutsTogether.f (a0 : (List UInt8)) (a1 : (List Int)) : Option Bool :=
  (let y1 : Int := ((List.length a0 : Nat) : Int); (cb (decide ((2000000 : Int) < y1)) (ob (law8_awake.f) fun r2 => (some r2)) (let y3 : Int := ((List.length a1 : Nat) : Int); (cb (decide ((1000 : Int) < y3)) (ob (law8_awake.f) fun r4 => (some r4)) (ob (slices_Clone_int_int_o.f a1) fun r5 => (ck ((List.length r5 + List.length ([(-1 : Int)] : List Int)) * 8 ≤ 140737488355328) (let y6 : Int := ((List.length (r5 ++ ([(-1 : Int)] : List Int)) : Nat) : Int); (ob (law8_WirePatchPutsTogether.l0 a0 y6 ([] : List (Int × (List UInt8))) (0 : Int) (0 : Int) (r5 ++ ([(-1 : Int)] : List Int)) ([(-1 : Int)] : List Int)) fun r40 => (let y41 : Int := ((List.length a0 : Nat) : Int); (ob (wire_Patch.f r40.1 y41) fun r42 => (cb (decide (r42.2 = (0 : Int))) (ob (slices_Equal_byte_byte.f r42.1 a0) fun r43 => (cb r43 (ob (law8_awake.f) fun r44 => (some r44)) (some false))) (some false))))))))))))
noncomputable def law8_WirePatchPutsTogether.fn : TFn := ⟨[(.slice .byte), (.slice (.int .i64))], [.bool], fun x => law8_WirePatchPutsTogether.f x.1 x.2⟩
noncomputable def law8_WirePatchPutsTogether.C : Cx := ⟨T, TYt, lkF [(10, law8_awake.fn), (24, ref8_Below.fn), (25, wire_Patch.fn), (26, slices_Equal_byte_byte.fn)], lkO [(23, slices_Clone_int_int_o.fn)], lkD [], [], [], false, [], 78⟩
theorem law8_WirePatchPutsTogether.hC : CxOK Try.prog law8_WirePatchPutsTogether.C := ⟨tabOK, FsOK.cons law8_awake.ok (FsOK.cons ref8_Below.ok (FsOK.cons wire_Patch.ok (FsOK.cons slices_Equal_byte_byte.ok (FsOK.nil)))), OsOK.cons slices_Clone_int_int_o.ok (OsOK.nil), mixed, (fun t h => by cases h), (fun t e h => by cases h)⟩
noncomputable def law8_WirePatchPutsTogether.root : Code := bodyOf Try.f6
theorem law8_WirePatchPutsTogether.h0 : LsOK Try.prog law8_WirePatchPutsTogether.C law8_WirePatchPutsTogether.root (lkL [([0, 1, 0, 1, 1, 1, 1], law8_WirePatchPutsTogether.e0)]) :=
  LsOK.cons law8_WirePatchPutsTogether.hC (LsOK.nil) (by kernel_rfl) (fun iv x => by kernel_rfl)
theorem law8_WirePatchPutsTogether.ok : FnOK Try.prog 6 law8_WirePatchPutsTogether.fn :=
  FnOK.of (L := lkL [([0, 1, 0, 1, 1, 1, 1], law8_WirePatchPutsTogether.e0)]) (root := law8_WirePatchPutsTogether.root) law8_WirePatchPutsTogether.hC (enters_of (c := law8_WirePatchPutsTogether.root) Try.func6 (by kernel_rfl) (by kernel_rfl)) Try.func6 (by kernel_rfl) (rs := [.tmp 4]) (by kernel_rfl) (by kernel_rfl) law8_WirePatchPutsTogether.h0 (fun x => by kernel_rfl)
end Go.Proofs.Ytpeiomhgaembaaa
