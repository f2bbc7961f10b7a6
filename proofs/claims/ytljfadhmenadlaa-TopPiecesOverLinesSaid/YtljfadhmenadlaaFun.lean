/-
  What the program's functions that the laws of this seat reach compute, as plain functions: printed by a program, each checked by the kernel. No condition.
-/
import Derived.Test.YtljfadhmenadlaaTypes
set_option linter.unusedVariables false
set_option maxRecDepth 100000
namespace Go.Proofs.Ytljfadhmenadlaa
open Go Go.Proofs.Ytljfadhmenadlaa.Eng
def bs_ : ByteArray := ⟨#[]⟩
def bs_48_49_50_51_52_53_54_55_56_57_97_98_99_100_101_102 : ByteArray := ⟨#[48, 49, 50, 51, 52, 53, 54, 55, 56, 57, 97, 98, 99, 100, 101, 102]⟩
def bs_97_102_54_51_100_99_52_99_56_54_48_49_101_99_56_99 : ByteArray := ⟨#[97, 102, 54, 51, 100, 99, 52, 99, 56, 54, 48, 49, 101, 99, 56, 99]⟩
noncomputable def blob_cut.s0 (x0_9 : Int) (x0_16 : Int) : Option ((Int × Int) ⊕ Int) :=
  (cb (decide (x0_16 < (15 : Int))) (let y2 : Int := (IntKind.u32.wrap (x0_9 * (31 : Int))); (ck (InR (x0_16 + (1 : Int))) (some (.inl (y2, (x0_16 + (1 : Int))))))) (some (.inr x0_9)))
noncomputable def blob_cut.l0 (x0_9 : Int) (x0_16 : Int) : Option Int :=
  loopX (fun (x : (Int × Int)) => blob_cut.s0 x.1 x.2) (x0_9, x0_16)
noncomputable def blob_cut.e0 : Ent where
  pre := []
  inv := [(0, .val (.slice .byte)), (1, .val (.int .i64)), (2, .val (.int .i64)), (3, .val (.int .i64))]
  car := ⟨[(9, .val (.int .u32)), (16, .val (.int .i64))], []⟩
  exits := [(.exit 0, ⟨[(9, .val (.int .u32))], []⟩)]
  step := fun iv x => blob_cut.s0 x.1 x.2
noncomputable def blob_cut.s1 (v1_0 : (List UInt8)) (v1_1 : Int) (v1_2 : Int) (v1_3 : Int) (v1_9 : Int) (v1_21 : (List UInt8)) (v1_22 : Int) (x1_11 : Int) (x1_12 : Int) (x1_23 : Int) (o1_0 : (List Int)) : Option ((Int × (Int × (Int × (List Int)))) ⊕ (Int × (List Int))) :=
  (cb (decide (x1_23 < v1_22)) (ck (0 ≤ x1_23 ∧ x1_23 < ((List.length v1_21 : Nat) : Int)) (let y24 : UInt8 := (rd (0 : UInt8) v1_21 x1_23); (cb (decide ((16 : Int) ≤ x1_23)) (ck (InR (x1_23 - (16 : Int))) (ck (0 ≤ (x1_23 - (16 : Int)) ∧ (x1_23 - (16 : Int)) < ((List.length v1_0 : Nat) : Int)) (let y25 : UInt8 := (rd (0 : UInt8) v1_0 (x1_23 - (16 : Int))); (let y26 : Int := (IntKind.u32.wrap ((UInt8.toNat y25 : Nat) : Int)); (let y27 : Int := (IntKind.u32.wrap (v1_9 * y26)); (let y28 : Int := (IntKind.u32.wrap (x1_11 - y27)); (let y29 : Int := (IntKind.u32.wrap ((31 : Int) * y28)); (let y30 : Int := (IntKind.u32.wrap ((UInt8.toNat y24 : Nat) : Int)); (let y31 : Int := (IntKind.u32.wrap (y29 + y30)); (ck (InR (x1_23 + (1 : Int))) (ck (InR ((x1_23 + (1 : Int)) - x1_12)) (let y32 : Int := ((x1_23 + (1 : Int)) - x1_12); (cb (decide (v1_1 ≤ y32)) (ck (0 ≤ v1_2) (let y33 : Int := (IntKind.u32.wrap ((1 : Int) * 2 ^ min (Int.toNat v1_2) (IntKind.bits .u32))); (let y34 : Int := (IntKind.u32.wrap (y33 - (1 : Int))); (let y35 : Int := (IntKind.u32.wrap ((BitVec.toNat (BitVec.ofInt (IntKind.bits .u32) y31 &&& BitVec.ofInt (IntKind.bits .u32) y34) : Nat) : Int)); (cb (decide (y35 = (0 : Int))) (ck ((List.length o1_0 + List.length ([y32] : List Int)) * 8 ≤ 140737488355328) (ck (InR (x1_23 + (1 : Int))) (ck (InR (x1_23 + (1 : Int))) (some (.inl (y31, (x1_23 + (1 : Int)), (x1_23 + (1 : Int)), (o1_0 ++ ([y32] : List Int)))))))) (cb (decide (v1_3 ≤ y32)) (ck ((List.length o1_0 + List.length ([y32] : List Int)) * 8 ≤ 140737488355328) (ck (InR (x1_23 + (1 : Int))) (ck (InR (x1_23 + (1 : Int))) (some (.inl (y31, (x1_23 + (1 : Int)), (x1_23 + (1 : Int)), (o1_0 ++ ([y32] : List Int)))))))) (ck (InR (x1_23 + (1 : Int))) (some (.inl (y31, x1_12, (x1_23 + (1 : Int)), o1_0)))))))))) (cb (decide (v1_3 ≤ y32)) (ck ((List.length o1_0 + List.length ([y32] : List Int)) * 8 ≤ 140737488355328) (ck (InR (x1_23 + (1 : Int))) (ck (InR (x1_23 + (1 : Int))) (some (.inl (y31, (x1_23 + (1 : Int)), (x1_23 + (1 : Int)), (o1_0 ++ ([y32] : List Int)))))))) (ck (InR (x1_23 + (1 : Int))) (some (.inl (y31, x1_12, (x1_23 + (1 : Int)), o1_0)))))))))))))))))) (let y36 : Int := (IntKind.u32.wrap ((31 : Int) * x1_11)); (let y37 : Int := (IntKind.u32.wrap ((UInt8.toNat y24 : Nat) : Int)); (let y38 : Int := (IntKind.u32.wrap (y36 + y37)); (ck (InR (x1_23 + (1 : Int))) (ck (InR ((x1_23 + (1 : Int)) - x1_12)) (let y39 : Int := ((x1_23 + (1 : Int)) - x1_12); (cb (decide (v1_1 ≤ y39)) (ck (0 ≤ v1_2) (let y40 : Int := (IntKind.u32.wrap ((1 : Int) * 2 ^ min (Int.toNat v1_2) (IntKind.bits .u32))); (let y41 : Int := (IntKind.u32.wrap (y40 - (1 : Int))); (let y42 : Int := (IntKind.u32.wrap ((BitVec.toNat (BitVec.ofInt (IntKind.bits .u32) y38 &&& BitVec.ofInt (IntKind.bits .u32) y41) : Nat) : Int)); (cb (decide (y42 = (0 : Int))) (ck ((List.length o1_0 + List.length ([y39] : List Int)) * 8 ≤ 140737488355328) (ck (InR (x1_23 + (1 : Int))) (ck (InR (x1_23 + (1 : Int))) (some (.inl (y38, (x1_23 + (1 : Int)), (x1_23 + (1 : Int)), (o1_0 ++ ([y39] : List Int)))))))) (cb (decide (v1_3 ≤ y39)) (ck ((List.length o1_0 + List.length ([y39] : List Int)) * 8 ≤ 140737488355328) (ck (InR (x1_23 + (1 : Int))) (ck (InR (x1_23 + (1 : Int))) (some (.inl (y38, (x1_23 + (1 : Int)), (x1_23 + (1 : Int)), (o1_0 ++ ([y39] : List Int)))))))) (ck (InR (x1_23 + (1 : Int))) (some (.inl (y38, x1_12, (x1_23 + (1 : Int)), o1_0)))))))))) (cb (decide (v1_3 ≤ y39)) (ck ((List.length o1_0 + List.length ([y39] : List Int)) * 8 ≤ 140737488355328) (ck (InR (x1_23 + (1 : Int))) (ck (InR (x1_23 + (1 : Int))) (some (.inl (y38, (x1_23 + (1 : Int)), (x1_23 + (1 : Int)), (o1_0 ++ ([y39] : List Int)))))))) (ck (InR (x1_23 + (1 : Int))) (some (.inl (y38, x1_12, (x1_23 + (1 : Int)), o1_0))))))))))))))) (some (.inr (x1_12, o1_0))))
noncomputable def blob_cut.l1 (v1_0 : (List UInt8)) (v1_1 : Int) (v1_2 : Int) (v1_3 : Int) (v1_9 : Int) (v1_21 : (List UInt8)) (v1_22 : Int) (x1_11 : Int) (x1_12 : Int) (x1_23 : Int) (o1_0 : (List Int)) : Option (Int × (List Int)) :=
  loopX (fun (x : (Int × (Int × (Int × (List Int))))) => blob_cut.s1 v1_0 v1_1 v1_2 v1_3 v1_9 v1_21 v1_22 x.1 x.2.1 x.2.2.1 x.2.2.2) (x1_11, x1_12, x1_23, o1_0)
noncomputable def blob_cut.e1 : Ent where
  pre := [.nil 10 3 (.int .i64)]
  inv := [(0, .val (.slice .byte)), (1, .val (.int .i64)), (2, .val (.int .i64)), (3, .val (.int .i64)), (9, .val (.int .u32)), (21, .val (.slice .byte)), (22, .val (.int .i64))]
  car := ⟨[(10, .own 0 1), (11, .val (.int .u32)), (12, .val (.int .i64)), (23, .val (.int .i64))], [.row 3 (.int .i64)]⟩
  exits := [(.exit 2, ⟨[(10, .own 0 1), (12, .val (.int .i64))], [.row 3 (.int .i64)]⟩)]
  step := fun iv x => blob_cut.s1 iv.1 iv.2.1 iv.2.2.1 iv.2.2.2.1 iv.2.2.2.2.1 iv.2.2.2.2.2.1 iv.2.2.2.2.2.2 x.1 x.2.1 x.2.2.1 x.2.2.2
/-- blob.cut -/
noncomputable def blob_cut.f (a0 : (List UInt8)) (a1 : Int) (a2 : Int) (a3 : Int) : Option (List Int) :=
  (ob (blob_cut.l0 (1 : Int) (0 : Int)) fun r3 => (let y4 : Int := ((List.length a0 : Nat) : Int); (ob (blob_cut.l1 a0 a1 a2 a3 r3 a0 y4 (0 : Int) (0 : Int) (0 : Int) ([] : List Int)) fun r43 => (let y44 : Int := ((List.length a0 : Nat) : Int); (cb (decide (r43.1 < y44)) (let y45 : Int := ((List.length a0 : Nat) : Int); (ck (InR (y45 - r43.1)) (ck ((List.length r43.2 + List.length ([(y45 - r43.1)] : List Int)) * 8 ≤ 140737488355328) (some (r43.2 ++ ([(y45 - r43.1)] : List Int)))))) (some r43.2))))))
noncomputable def blob_cut.fn : TFn := ⟨[(.slice .byte), (.int .i64), (.int .i64), (.int .i64)], [(.slice (.int .i64))], fun x => blob_cut.f x.1 x.2.1 x.2.2.1 x.2.2.2⟩
noncomputable def blob_cut.C : Cx := ⟨T, TYt, lkF [], lkO [], lkD [], lkP [], [], [], false, [], [], 84⟩
theorem blob_cut.hC : CxOK Try.prog blob_cut.C := ⟨tabOK, FsOK.nil, OsOK.nil, mixed, (fun t h => by cases h), (fun t e h => by cases h)⟩
noncomputable def blob_cut.root : Code := bodyOf Try.f10
theorem blob_cut.h0 : LsOK Try.prog blob_cut.C blob_cut.root (lkL [([0, 1, 0, 1, 1], blob_cut.e0)]) :=
  LsOK.cons blob_cut.hC (LsOK.nil) (by kernel_rfl) (fun iv x => by kernel_rfl)
theorem blob_cut.h1 : LsOK Try.prog blob_cut.C blob_cut.root (lkL [([0, 1, 0, 1, 1, 1, 1, 1], blob_cut.e1), ([0, 1, 0, 1, 1], blob_cut.e0)]) :=
  LsOK.cons blob_cut.hC (blob_cut.h0) (by kernel_rfl) (fun iv x => by kernel_rfl)
theorem blob_cut.ok : FnOK Try.prog 10 blob_cut.fn :=
  FnOK.of (L := lkL [([0, 1, 0, 1, 1, 1, 1, 1], blob_cut.e1), ([0, 1, 0, 1, 1], blob_cut.e0)]) (root := blob_cut.root) blob_cut.hC (enters_of (c := blob_cut.root) Try.func10 (by kernel_rfl) (by kernel_rfl)) Try.func10 (by kernel_rfl) (rs := [.tmp 8]) (by kernel_rfl) (by kernel_rfl) blob_cut.h1 (fun x => by kernel_rfl)
/-- blob.Pieces -/
noncomputable def blob_Pieces.f (a0 : (List UInt8)) (a1 : Int) (a2 : Int) (a3 : Int) : Option ((List Int) × Int) :=
  (let y1 : Int := ((List.length a0 : Nat) : Int); (cb (decide ((2000000 : Int) < y1)) (some (([] : List Int), (2 : Int))) (cb (decide (a1 < (1 : Int))) (some (([] : List Int), (1 : Int))) (cb (decide (a3 < a1)) (some (([] : List Int), (1 : Int))) (cb (decide (a2 < (0 : Int))) (some (([] : List Int), (1 : Int))) (cb (decide ((20 : Int) < a2)) (some (([] : List Int), (1 : Int))) (cb (decide ((100000 : Int) < a3)) (some (([] : List Int), (1 : Int))) (ob (blob_cut.f a0 a1 a2 a3) fun r2 => (let y3 : Int := ((List.length r2 : Nat) : Int); (cb (decide ((20000 : Int) < y3)) (some (([] : List Int), (2 : Int))) (some (r2, (0 : Int)))))))))))))
noncomputable def blob_Pieces.fn : TFn := ⟨[(.slice .byte), (.int .i64), (.int .i64), (.int .i64)], [(.slice (.int .i64)), (.int .i64)], fun x => blob_Pieces.f x.1 x.2.1 x.2.2.1 x.2.2.2⟩
noncomputable def blob_Pieces.C : Cx := ⟨T, TYt, lkF [(10, blob_cut.fn)], lkO [], lkD [], lkP [], [], [], false, [], [], 42⟩
theorem blob_Pieces.hC : CxOK Try.prog blob_Pieces.C := ⟨tabOK, FsOK.cons blob_cut.ok (FsOK.nil), OsOK.nil, mixed, (fun t h => by cases h), (fun t e h => by cases h)⟩
noncomputable def blob_Pieces.root : Code := bodyOf Try.f4
theorem blob_Pieces.ok : FnOK Try.prog 4 blob_Pieces.fn :=
  FnOK.of (L := lkL []) (root := blob_Pieces.root) blob_Pieces.hC (enters_of (c := blob_Pieces.root) Try.func4 (by kernel_rfl) (by kernel_rfl)) Try.func4 (by kernel_rfl) (rs := [.tmp 8, .tmp 9]) (by kernel_rfl) (by kernel_rfl) LsOK.nil (fun x => by kernel_rfl)
noncomputable def blob_Digest.s0 (v0_8 : (List UInt8)) (v0_9 : Int) (x0_3 : Int) (x0_10 : Int) : Option ((Int × Int) ⊕ Int) :=
  (cb (decide (x0_10 < v0_9)) (ck (0 ≤ x0_10 ∧ x0_10 < ((List.length v0_8 : Nat) : Int)) (let y6 : UInt8 := (rd (0 : UInt8) v0_8 x0_10); (let y7 : Int := (IntKind.u64.wrap ((UInt8.toNat y6 : Nat) : Int)); (let y8 : Int := (IntKind.u64.wrap ((BitVec.toNat (BitVec.ofInt (IntKind.bits .u64) x0_3 ^^^ BitVec.ofInt (IntKind.bits .u64) y7) : Nat) : Int)); (let y9 : Int := (IntKind.u64.wrap (y8 * (1099511628211 : Int))); (ck (InR (x0_10 + (1 : Int))) (some (.inl (y9, (x0_10 + (1 : Int))))))))))) (some (.inr x0_3)))
noncomputable def blob_Digest.l0 (v0_8 : (List UInt8)) (v0_9 : Int) (x0_3 : Int) (x0_10 : Int) : Option Int :=
  loopX (fun (x : (Int × Int)) => blob_Digest.s0 v0_8 v0_9 x.1 x.2) (x0_3, x0_10)
noncomputable def blob_Digest.e0 : Ent where
  pre := []
  inv := [(8, .val (.slice .byte)), (9, .val (.int .i64))]
  car := ⟨[(3, .val (.int .u64)), (10, .val (.int .i64))], []⟩
  exits := [(.exit 0, ⟨[(3, .val (.int .u64))], []⟩)]
  step := fun iv x => blob_Digest.s0 iv.1 iv.2 x.1 x.2
noncomputable def blob_Digest.s1 (v1_22 : Int) (x1_3 : Int) (x1_23 : Int) (o1_0 : (List UInt8)) : Option ((Int × (Int × (List UInt8))) ⊕ (List UInt8)) :=
  (cb (decide (x1_23 < v1_22)) (ck (InR ((15 : Int) - x1_23)) (let y15 : Int := (IntKind.u64.wrap ((BitVec.toNat (BitVec.ofInt (IntKind.bits .u64) x1_3 &&& BitVec.ofInt (IntKind.bits .u64) (15 : Int)) : Nat) : Int)); (ck (0 ≤ y15 ∧ y15 < ((ByteArray.size bs_48_49_50_51_52_53_54_55_56_57_97_98_99_100_101_102 : Nat) : Int)) (let y16 : UInt8 := (bt bs_48_49_50_51_52_53_54_55_56_57_97_98_99_100_101_102 y15); (ck (0 ≤ ((15 : Int) - x1_23) ∧ ((15 : Int) - x1_23) < ((List.length o1_0 : Nat) : Int)) (ck ((Int.toNat ((15 : Int) - x1_23)) < List.length o1_0) (let y17 : Int := (Int.fdiv x1_3 (2 ^ min (Int.toNat (4 : Int)) (IntKind.bits .u64))); (ck (InR (x1_23 + (1 : Int))) (some (.inl (y17, (x1_23 + (1 : Int)), (List.set o1_0 (Int.toNat ((15 : Int) - x1_23)) y16)))))))))))) (some (.inr o1_0)))
noncomputable def blob_Digest.l1 (v1_22 : Int) (x1_3 : Int) (x1_23 : Int) (o1_0 : (List UInt8)) : Option (List UInt8) :=
  loopX (fun (x : (Int × (Int × (List UInt8)))) => blob_Digest.s1 v1_22 x.1 x.2.1 x.2.2) (x1_3, x1_23, o1_0)
noncomputable def blob_Digest.e1 : Ent where
  pre := []
  inv := [(22, .val (.int .i64))]
  car := ⟨[(3, .val (.int .u64)), (6, .own 0 1), (23, .val (.int .i64))], [.row 5 .byte]⟩
  exits := [(.exit 2, ⟨[(6, .own 0 1)], [.row 5 .byte]⟩)]
  step := fun iv x => blob_Digest.s1 iv x.1 x.2.1 x.2.2
/-- blob.Digest -/
noncomputable def blob_Digest.f (a0 : (List UInt8)) : Option ByteArray :=
  (let y1 : Int := ((List.length a0 : Nat) : Int); (ob (blob_Digest.l0 a0 y1 (14695981039346656037 : Int) (0 : Int)) fun r10 => (ck (0 ≤ (16 : Int) ∧ (16 : Int) * (1 : Int) ≤ 140737488355328) (let y11 : Int := ((List.length (List.replicate (Int.toNat (16 : Int)) (0 : UInt8)) : Nat) : Int); (ob (blob_Digest.l1 y11 r10 (0 : Int) (List.replicate (Int.toNat (16 : Int)) (0 : UInt8))) fun r18 => (some (bstr r18)))))))
noncomputable def blob_Digest.fn : TFn := ⟨[(.slice .byte)], [.str], fun x => blob_Digest.f x⟩
noncomputable def blob_Digest.C : Cx := ⟨T, TYt, lkF [], lkO [], lkD [], lkP [], [], [], false, [], [], 38⟩
theorem blob_Digest.hC : CxOK Try.prog blob_Digest.C := ⟨tabOK, FsOK.nil, OsOK.nil, mixed, (fun t h => by cases h), (fun t e h => by cases h)⟩
noncomputable def blob_Digest.root : Code := bodyOf Try.f11
theorem blob_Digest.h0 : LsOK Try.prog blob_Digest.C blob_Digest.root (lkL [([0, 1, 0, 1, 1], blob_Digest.e0)]) :=
  LsOK.cons blob_Digest.hC (LsOK.nil) (by kernel_rfl) (fun iv x => by kernel_rfl)
theorem blob_Digest.h1 : LsOK Try.prog blob_Digest.C blob_Digest.root (lkL [([0, 1, 0, 1, 1, 1, 1], blob_Digest.e1), ([0, 1, 0, 1, 1], blob_Digest.e0)]) :=
  LsOK.cons blob_Digest.hC (blob_Digest.h0) (by kernel_rfl) (fun iv x => by kernel_rfl)
theorem blob_Digest.ok : FnOK Try.prog 11 blob_Digest.fn :=
  FnOK.of (L := lkL [([0, 1, 0, 1, 1, 1, 1], blob_Digest.e1), ([0, 1, 0, 1, 1], blob_Digest.e0)]) (root := blob_Digest.root) blob_Digest.hC (enters_of (c := blob_Digest.root) Try.func11 (by kernel_rfl) (by kernel_rfl)) Try.func11 (by kernel_rfl) (rs := [.tmp 2]) (by kernel_rfl) (by kernel_rfl) blob_Digest.h1 (fun x => by kernel_rfl)
/-- smithyardtop.lives -/
noncomputable def top_lives.f : Option Bool :=
  (ck (0 < List.length ([(UInt8.ofInt (97 : Int))] : List UInt8)) (let y1 : (List UInt8) := ([(UInt8.ofInt (97 : Int))] : List UInt8); (ob (blob_Digest.f y1) fun r2 => (some (decide (r2 = bs_97_102_54_51_100_99_52_99_56_54_48_49_101_99_56_99))))))
noncomputable def top_lives.fn : TFn := ⟨[], [.bool], fun x => top_lives.f⟩
noncomputable def top_lives.C : Cx := ⟨T, TYt, lkF [(11, blob_Digest.fn)], lkO [], lkD [], lkP [], [], [], false, [], [], 5⟩
theorem top_lives.hC : CxOK Try.prog top_lives.C := ⟨tabOK, FsOK.cons blob_Digest.ok (FsOK.nil), OsOK.nil, mixed, (fun t h => by cases h), (fun t e h => by cases h)⟩
noncomputable def top_lives.root : Code := bodyOf Try.f5
theorem top_lives.ok : FnOK Try.prog 5 top_lives.fn :=
  FnOK.of (L := lkL []) (root := top_lives.root) top_lives.hC (enters_of (c := top_lives.root) Try.func5 (by kernel_rfl) (by kernel_rfl)) Try.func5 (by kernel_rfl) (rs := [.tmp 0]) (by kernel_rfl) (by kernel_rfl) LsOK.nil (fun x => by kernel_rfl)
noncomputable def top_cut.s0 (v0_0 : (List UInt8)) (v0_1 : (List Int)) (x0_6 : Int) (x0_7 : Int) (o0_0 : (List (List UInt8))) : Option ((Int × (Int × (List (List UInt8)))) ⊕ (List (List UInt8))) :=
  (let y5 : Int := ((List.length v0_1 : Nat) : Int); (cb (decide (x0_7 < y5)) (ck (0 ≤ x0_7 ∧ x0_7 < ((List.length v0_1 : Nat) : Int)) (ck (InR (x0_6 + (rd (0 : Int) v0_1 x0_7))) (let y6 : Int := (x0_6 + (rd (0 : Int) v0_1 x0_7)); (ck (0 ≤ x0_6 ∧ x0_6 ≤ y6 ∧ y6 ≤ ((List.length v0_0 : Nat) : Int)) (let y7 : (List UInt8) := (List.drop (Int.toNat x0_6) (List.take (Int.toNat y6) v0_0)); (ck ((List.length o0_0 + List.length ([y7] : List (List UInt8))) * 24 ≤ 140737488355328) (ck (0 ≤ x0_7 ∧ x0_7 < ((List.length v0_1 : Nat) : Int)) (ck (InR (x0_6 + (rd (0 : Int) v0_1 x0_7))) (let y8 : Int := (x0_6 + (rd (0 : Int) v0_1 x0_7)); (ck (InR (x0_7 + (1 : Int))) (some (.inl (y8, (x0_7 + (1 : Int)), (o0_0 ++ ([y7] : List (List UInt8)))))))))))))))) (some (.inr o0_0))))
noncomputable def top_cut.l0 (v0_0 : (List UInt8)) (v0_1 : (List Int)) (x0_6 : Int) (x0_7 : Int) (o0_0 : (List (List UInt8))) : Option (List (List UInt8)) :=
  loopX (fun (x : (Int × (Int × (List (List UInt8))))) => top_cut.s0 v0_0 v0_1 x.1 x.2.1 x.2.2) (x0_6, x0_7, o0_0)
noncomputable def top_cut.e0 : Ent where
  pre := [.nil 5 22 (.slice .byte)]
  inv := [(0, .val (.slice .byte)), (1, .val (.slice (.int .i64)))]
  car := ⟨[(5, .own 0 1), (6, .val (.int .i64)), (7, .val (.int .i64))], [.row 22 (.slice .byte)]⟩
  exits := [(.exit 0, ⟨[(5, .own 0 1)], [.row 22 (.slice .byte)]⟩)]
  step := fun iv x => top_cut.s0 iv.1 iv.2 x.1 x.2.1 x.2.2
/-- smithyardtop.cut -/
noncomputable def top_cut.f (a0 : (List UInt8)) (a1 : (List Int)) : Option (List (List UInt8)) :=
  (ob (top_cut.l0 a0 a1 (0 : Int) (0 : Int) ([] : List (List UInt8))) fun r9 => (some r9))
noncomputable def top_cut.fn : TFn := ⟨[(.slice .byte), (.slice (.int .i64))], [(.slice (.slice .byte))], fun x => top_cut.f x.1 x.2⟩
noncomputable def top_cut.C : Cx := ⟨T, TYt, lkF [], lkO [], lkD [], lkP [], [], [], false, [], [], 33⟩
theorem top_cut.hC : CxOK Try.prog top_cut.C := ⟨tabOK, FsOK.nil, OsOK.nil, mixed, (fun t h => by cases h), (fun t e h => by cases h)⟩
noncomputable def top_cut.root : Code := bodyOf Try.f6
theorem top_cut.h0 : LsOK Try.prog top_cut.C top_cut.root (lkL [([0, 1, 0, 1, 1, 1], top_cut.e0)]) :=
  LsOK.cons top_cut.hC (LsOK.nil) (by kernel_rfl) (fun iv x => by kernel_rfl)
theorem top_cut.ok : FnOK Try.prog 6 top_cut.fn :=
  FnOK.of (L := lkL [([0, 1, 0, 1, 1, 1], top_cut.e0)]) (root := top_cut.root) top_cut.hC (enters_of (c := top_cut.root) Try.func6 (by kernel_rfl) (by kernel_rfl)) Try.func6 (by kernel_rfl) (rs := [.tmp 4]) (by kernel_rfl) (by kernel_rfl) top_cut.h0 (fun x => by kernel_rfl)
noncomputable def wire_checkPieces.s0 (v0_6 : (List (List UInt8))) (v0_7 : Int) (x0_3 : Int) (x0_8 : Int) : Option ((Int × Int) ⊕ Int) :=
  (cb (decide (x0_8 < v0_7)) (ck (0 ≤ x0_8 ∧ x0_8 < ((List.length v0_6 : Nat) : Int)) (let y4 : (List UInt8) := (rd ([] : (List UInt8)) v0_6 x0_8); (let y5 : Int := ((List.length y4 : Nat) : Int); (ck (InR (x0_3 + y5)) (ck (InR (x0_8 + (1 : Int))) (some (.inl ((x0_3 + y5), (x0_8 + (1 : Int)))))))))) (some (.inr x0_3)))
noncomputable def wire_checkPieces.l0 (v0_6 : (List (List UInt8))) (v0_7 : Int) (x0_3 : Int) (x0_8 : Int) : Option Int :=
  loopX (fun (x : (Int × Int)) => wire_checkPieces.s0 v0_6 v0_7 x.1 x.2) (x0_3, x0_8)
noncomputable def wire_checkPieces.e0 : Ent where
  pre := []
  inv := [(0, .val (.slice (.slice .byte))), (6, .val (.slice (.slice .byte))), (7, .val (.int .i64))]
  car := ⟨[(3, .val (.int .i64)), (8, .val (.int .i64))], []⟩
  exits := [(.exit 0, ⟨[(3, .val (.int .i64))], []⟩)]
  step := fun iv x => wire_checkPieces.s0 iv.2.1 iv.2.2 x.1 x.2
/-- wire.checkPieces -/
noncomputable def wire_checkPieces.f (a0 : (List (List UInt8))) : Option Int :=
  (let y1 : Int := ((List.length a0 : Nat) : Int); (ob (wire_checkPieces.l0 a0 y1 (0 : Int) (0 : Int)) fun r6 => (let y7 : Int := ((List.length a0 : Nat) : Int); (cb (decide ((20000 : Int) < y7)) (some (2 : Int)) (cb (decide ((2000000 : Int) < r6)) (some (2 : Int)) (some (0 : Int)))))))
noncomputable def wire_checkPieces.fn : TFn := ⟨[(.slice (.slice .byte))], [(.int .i64)], fun x => wire_checkPieces.f x⟩
noncomputable def wire_checkPieces.C : Cx := ⟨T, TYt, lkF [], lkO [], lkD [], lkP [], [], [], false, [], [], 24⟩
theorem wire_checkPieces.hC : CxOK Try.prog wire_checkPieces.C := ⟨tabOK, FsOK.nil, OsOK.nil, mixed, (fun t h => by cases h), (fun t e h => by cases h)⟩
noncomputable def wire_checkPieces.root : Code := bodyOf Try.f12
theorem wire_checkPieces.h0 : LsOK Try.prog wire_checkPieces.C wire_checkPieces.root (lkL [([0, 1, 0, 1, 1], wire_checkPieces.e0)]) :=
  LsOK.cons wire_checkPieces.hC (LsOK.nil) (by kernel_rfl) (fun iv x => by kernel_rfl)
theorem wire_checkPieces.ok : FnOK Try.prog 12 wire_checkPieces.fn :=
  FnOK.of (L := lkL [([0, 1, 0, 1, 1], wire_checkPieces.e0)]) (root := wire_checkPieces.root) wire_checkPieces.hC (enters_of (c := wire_checkPieces.root) Try.func12 (by kernel_rfl) (by kernel_rfl)) Try.func12 (by kernel_rfl) (rs := [.tmp 2]) (by kernel_rfl) (by kernel_rfl) wire_checkPieces.h0 (fun x => by kernel_rfl)
noncomputable def wire_Fresh.s0 (v0_27 : (List (List UInt8))) (v0_28 : Int) (x0_29 : Int) (o0_0 : (List (ByteArray × Bool))) : Option ((Int × (List (ByteArray × Bool))) ⊕ (List (ByteArray × Bool))) :=
  (cb (decide (x0_29 < v0_28)) (ck (0 ≤ x0_29 ∧ x0_29 < ((List.length v0_27 : Nat) : Int)) (let y5 : (List UInt8) := (rd ([] : (List UInt8)) v0_27 x0_29); (ck (InR (x0_29 + (1 : Int))) (some (.inl ((x0_29 + (1 : Int)), (mset (bstr y5) true o0_0))))))) (some (.inr o0_0)))
noncomputable def wire_Fresh.l0 (v0_27 : (List (List UInt8))) (v0_28 : Int) (x0_29 : Int) (o0_0 : (List (ByteArray × Bool))) : Option (List (ByteArray × Bool)) :=
  loopX (fun (x : (Int × (List (ByteArray × Bool)))) => wire_Fresh.s0 v0_27 v0_28 x.1 x.2) (x0_29, o0_0)
noncomputable def wire_Fresh.e0 : Ent where
  pre := []
  inv := [(1, .val (.slice (.slice .byte))), (27, .val (.slice (.slice .byte))), (28, .val (.int .i64))]
  car := ⟨[(9, .nm 0 []), (29, .val (.int .i64))], [.mapo .bool]⟩
  exits := [(.exit 0, ⟨[(9, .nm 0 [])], [.mapo .bool]⟩)]
  step := fun iv x => wire_Fresh.s0 iv.2.1 iv.2.2 x.1 x.2
noncomputable def wire_Fresh.s1 (v1_37 : (List (List UInt8))) (v1_38 : Int) (x1_13 : Int) (x1_39 : Int) (o1_0 : (List (ByteArray × Bool))) (o1_1 : (List Int)) : Option ((Int × (Int × ((List (ByteArray × Bool)) × (List Int)))) ⊕ (Int × ((List (ByteArray × Bool)) × (List Int)))) :=
  (cb (decide (x1_39 < v1_38)) (ck (0 ≤ x1_39 ∧ x1_39 < ((List.length v1_37 : Nat) : Int)) (let y10 : (List UInt8) := (rd ([] : (List UInt8)) v1_37 x1_39); (cb (!(Option.getD (mget (bstr y10) o1_0) false)) (ck ((List.length o1_1 + List.length ([x1_39] : List Int)) * 8 ≤ 140737488355328) (let y11 : Int := ((List.length y10 : Nat) : Int); (ck (InR (x1_13 + y11)) (ck (InR (x1_39 + (1 : Int))) (some (.inl ((x1_13 + y11), (x1_39 + (1 : Int)), (mset (bstr y10) true o1_0), (o1_1 ++ ([x1_39] : List Int))))))))) (ck (InR (x1_39 + (1 : Int))) (some (.inl (x1_13, (x1_39 + (1 : Int)), o1_0, o1_1))))))) (some (.inr (x1_13, o1_0, o1_1))))
noncomputable def wire_Fresh.l1 (v1_37 : (List (List UInt8))) (v1_38 : Int) (x1_13 : Int) (x1_39 : Int) (o1_0 : (List (ByteArray × Bool))) (o1_1 : (List Int)) : Option (Int × ((List (ByteArray × Bool)) × (List Int))) :=
  loopX (fun (x : (Int × (Int × ((List (ByteArray × Bool)) × (List Int))))) => wire_Fresh.s1 v1_37 v1_38 x.1 x.2.1 x.2.2.1 x.2.2.2) (x1_13, x1_39, o1_0, o1_1)
noncomputable def wire_Fresh.e1 : Ent where
  pre := [.nil 12 3 (.int .i64)]
  inv := [(37, .val (.slice (.slice .byte))), (38, .val (.int .i64))]
  car := ⟨[(9, .nm 0 []), (12, .own 1 1), (13, .val (.int .i64)), (39, .val (.int .i64))], [.mapo .bool, .row 3 (.int .i64)]⟩
  exits := [(.exit 2, ⟨[(12, .own 1 1), (13, .val (.int .i64))], [.mapo .bool, .row 3 (.int .i64)]⟩)]
  step := fun iv x => wire_Fresh.s1 iv.1 iv.2 x.1 x.2.1 x.2.2.1 x.2.2.2
/-- wire.Fresh -/
noncomputable def wire_Fresh.f (a0 : (List (List UInt8))) (a1 : (List (List UInt8))) : Option ((List Int) × (Int × Int)) :=
  (ob (wire_checkPieces.f a0) fun r1 => (cb (!decide (r1 = (0 : Int))) (some (([] : List Int), (0 : Int), r1)) (ob (wire_checkPieces.f a1) fun r2 => (cb (!decide (r2 = (0 : Int))) (some (([] : List Int), (0 : Int), r2)) (let y3 : Int := ((List.length a0 : Nat) : Int); (ob (wire_Fresh.l0 a0 y3 (0 : Int) ([] : List (ByteArray × Bool))) fun r6 => (let y7 : Int := ((List.length a1 : Nat) : Int); (ob (wire_Fresh.l1 a1 y7 (0 : Int) (0 : Int) r6 ([] : List Int)) fun r12 => (some (r12.2.2, r12.1, (0 : Int)))))))))))
noncomputable def wire_Fresh.fn : TFn := ⟨[(.slice (.slice .byte)), (.slice (.slice .byte))], [(.slice (.int .i64)), (.int .i64), (.int .i64)], fun x => wire_Fresh.f x.1 x.2⟩
noncomputable def wire_Fresh.C : Cx := ⟨T, TYt, lkF [(12, wire_checkPieces.fn)], lkO [], lkD [], lkP [], [], [(39, 4)], false, [], [], 63⟩
theorem wire_Fresh.hC : CxOK Try.prog wire_Fresh.C := ⟨tabOK, FsOK.cons wire_checkPieces.ok (FsOK.nil), OsOK.nil, mixed, (fun t h => by cases h), (mps_of [(39, 4)] (by kernel_rfl))⟩
noncomputable def wire_Fresh.root : Code := bodyOf Try.f7
theorem wire_Fresh.h0 : LsOK Try.prog wire_Fresh.C wire_Fresh.root (lkL [([0, 1, 0, 1, 1, 1, 1], wire_Fresh.e0)]) :=
  LsOK.cons wire_Fresh.hC (LsOK.nil) (by kernel_rfl) (fun iv x => by kernel_rfl)
theorem wire_Fresh.h1 : LsOK Try.prog wire_Fresh.C wire_Fresh.root (lkL [([0, 1, 0, 1, 1, 1, 1, 1, 1, 1], wire_Fresh.e1), ([0, 1, 0, 1, 1, 1, 1], wire_Fresh.e0)]) :=
  LsOK.cons wire_Fresh.hC (wire_Fresh.h0) (by kernel_rfl) (fun iv x => by kernel_rfl)
theorem wire_Fresh.ok : FnOK Try.prog 7 wire_Fresh.fn :=
  FnOK.of (L := lkL [([0, 1, 0, 1, 1, 1, 1, 1, 1, 1], wire_Fresh.e1), ([0, 1, 0, 1, 1, 1, 1], wire_Fresh.e0)]) (root := wire_Fresh.root) wire_Fresh.hC (enters_of (c := wire_Fresh.root) Try.func7 (by kernel_rfl) (by kernel_rfl)) Try.func7 (by kernel_rfl) (rs := [.tmp 4, .tmp 5, .tmp 6]) (by kernel_rfl) (by kernel_rfl) wire_Fresh.h1 (fun x => by kernel_rfl)
/-- bytes.Equal -/
noncomputable def bytes_Equal.f (a0 : (List UInt8)) (a1 : (List UInt8)) : Option Bool :=
  (some (decide ((bstr a0) = (bstr a1))))
noncomputable def bytes_Equal.fn : TFn := ⟨[(.slice .byte), (.slice .byte)], [.bool], fun x => bytes_Equal.f x.1 x.2⟩
noncomputable def bytes_Equal.C : Cx := ⟨T, TYt, lkF [], lkO [], lkD [], lkP [], [], [], false, [], [], 10⟩
theorem bytes_Equal.hC : CxOK Try.prog bytes_Equal.C := ⟨tabOK, FsOK.nil, OsOK.nil, mixed, (fun t h => by cases h), (fun t e h => by cases h)⟩
noncomputable def bytes_Equal.root : Code := bodyOf Try.f8
theorem bytes_Equal.ok : FnOK Try.prog 8 bytes_Equal.fn :=
  FnOK.of (L := lkL []) (root := bytes_Equal.root) bytes_Equal.hC (enters_of (c := bytes_Equal.root) Try.func8 (by kernel_rfl) (by kernel_rfl)) Try.func8 (by kernel_rfl) (rs := [.tmp 4]) (by kernel_rfl) (by kernel_rfl) LsOK.nil (fun x => by kernel_rfl)
noncomputable def blob_Shared.s0 (v0_44 : (List Int)) (v0_45 : Int) (x0_0 : (List UInt8)) (x0_46 : Int) (o0_0 : (List (ByteArray × Bool))) : Option (((List UInt8) × (Int × (List (ByteArray × Bool)))) ⊕ (List (ByteArray × Bool))) :=
  (cb (decide (x0_46 < v0_45)) (ck (0 ≤ x0_46 ∧ x0_46 < ((List.length v0_44 : Nat) : Int)) (let y7 : Int := (rd (0 : Int) v0_44 x0_46); (ck (0 ≤ y7 ∧ y7 ≤ ((List.length x0_0 : Nat) : Int)) (let y8 : (List UInt8) := (List.take (Int.toNat y7) x0_0); (ck (0 ≤ y7 ∧ y7 ≤ ((List.length x0_0 : Nat) : Int)) (let y9 : (List UInt8) := (List.drop (Int.toNat y7) x0_0); (ck (InR (x0_46 + (1 : Int))) (some (.inl (y9, (x0_46 + (1 : Int)), (mset (bstr y8) true o0_0))))))))))) (some (.inr o0_0)))
noncomputable def blob_Shared.l0 (v0_44 : (List Int)) (v0_45 : Int) (x0_0 : (List UInt8)) (x0_46 : Int) (o0_0 : (List (ByteArray × Bool))) : Option (List (ByteArray × Bool)) :=
  loopX (fun (x : ((List UInt8) × (Int × (List (ByteArray × Bool))))) => blob_Shared.s0 v0_44 v0_45 x.1 x.2.1 x.2.2) (x0_0, x0_46, o0_0)
noncomputable def blob_Shared.e0 : Ent where
  pre := []
  inv := [(1, .val (.slice .byte)), (14, .val (.slice (.int .i64))), (44, .val (.slice (.int .i64))), (45, .val (.int .i64))]
  car := ⟨[(0, .val (.slice .byte)), (15, .nm 0 []), (46, .val (.int .i64))], [.mapo .bool]⟩
  exits := [(.exit 0, ⟨[(15, .nm 0 [])], [.mapo .bool]⟩)]
  step := fun iv x => blob_Shared.s0 iv.2.2.1 iv.2.2.2 x.1 x.2.1 x.2.2
noncomputable def blob_Shared.s1 (v1_59 : (List Int)) (v1_60 : Int) (x1_1 : (List UInt8)) (x1_18 : Int) (x1_61 : Int) (o1_0 : (List (ByteArray × Bool))) : Option (((List UInt8) × (Int × (Int × (List (ByteArray × Bool))))) ⊕ (Int × (List (ByteArray × Bool)))) :=
  (cb (decide (x1_61 < v1_60)) (ck (0 ≤ x1_61 ∧ x1_61 < ((List.length v1_59 : Nat) : Int)) (let y16 : Int := (rd (0 : Int) v1_59 x1_61); (ck (0 ≤ y16 ∧ y16 ≤ ((List.length x1_1 : Nat) : Int)) (let y17 : (List UInt8) := (List.take (Int.toNat y16) x1_1); (cb (Option.getD (mget (bstr y17) o1_0) false) (ck (InR (x1_18 + y16)) (ck (0 ≤ y16 ∧ y16 ≤ ((List.length x1_1 : Nat) : Int)) (let y18 : (List UInt8) := (List.drop (Int.toNat y16) x1_1); (ck (InR (x1_61 + (1 : Int))) (some (.inl (y18, (x1_18 + y16), (x1_61 + (1 : Int)), o1_0))))))) (ck (0 ≤ y16 ∧ y16 ≤ ((List.length x1_1 : Nat) : Int)) (let y19 : (List UInt8) := (List.drop (Int.toNat y16) x1_1); (ck (InR (x1_61 + (1 : Int))) (some (.inl (y19, x1_18, (x1_61 + (1 : Int)), o1_0))))))))))) (some (.inr (x1_18, o1_0))))
noncomputable def blob_Shared.l1 (v1_59 : (List Int)) (v1_60 : Int) (x1_1 : (List UInt8)) (x1_18 : Int) (x1_61 : Int) (o1_0 : (List (ByteArray × Bool))) : Option (Int × (List (ByteArray × Bool))) :=
  loopX (fun (x : ((List UInt8) × (Int × (Int × (List (ByteArray × Bool)))))) => blob_Shared.s1 v1_59 v1_60 x.1 x.2.1 x.2.2.1 x.2.2.2) (x1_1, x1_18, x1_61, o1_0)
noncomputable def blob_Shared.e1 : Ent where
  pre := []
  inv := [(59, .val (.slice (.int .i64))), (60, .val (.int .i64))]
  car := ⟨[(1, .val (.slice .byte)), (15, .nm 0 []), (18, .val (.int .i64)), (61, .val (.int .i64))], [.mapo .bool]⟩
  exits := [(.exit 2, ⟨[(18, .val (.int .i64))], [.mapo .bool]⟩)]
  step := fun iv x => blob_Shared.s1 iv.1 iv.2 x.1 x.2.1 x.2.2.1 x.2.2.2
/-- blob.Shared -/
noncomputable def blob_Shared.f (a0 : (List UInt8)) (a1 : (List UInt8)) (a2 : Int) (a3 : Int) (a4 : Int) : Option (Int × Int) :=
  (ob (blob_Pieces.f a0 a2 a3 a4) fun r1 => (cb (!decide (r1.2 = (0 : Int))) (some ((0 : Int), r1.2)) (ob (blob_Pieces.f a1 a2 a3 a4) fun r2 => (cb (!decide (r2.2 = (0 : Int))) (some ((0 : Int), r2.2)) (let y3 : Int := ((List.length r1.1 : Nat) : Int); (ob (blob_Shared.l0 r1.1 y3 a0 (0 : Int) ([] : List (ByteArray × Bool))) fun r10 => (let y11 : Int := ((List.length r2.1 : Nat) : Int); (ob (blob_Shared.l1 r2.1 y11 a1 (0 : Int) (0 : Int) r10) fun r20 => (some (r20.1, (0 : Int)))))))))))
noncomputable def blob_Shared.fn : TFn := ⟨[(.slice .byte), (.slice .byte), (.int .i64), (.int .i64), (.int .i64)], [(.int .i64), (.int .i64)], fun x => blob_Shared.f x.1 x.2.1 x.2.2.1 x.2.2.2.1 x.2.2.2.2⟩
noncomputable def blob_Shared.C : Cx := ⟨T, TYt, lkF [(4, blob_Pieces.fn)], lkO [], lkD [], lkP [], [], [(39, 4)], false, [], [], 79⟩
theorem blob_Shared.hC : CxOK Try.prog blob_Shared.C := ⟨tabOK, FsOK.cons blob_Pieces.ok (FsOK.nil), OsOK.nil, mixed, (fun t h => by cases h), (mps_of [(39, 4)] (by kernel_rfl))⟩
noncomputable def blob_Shared.root : Code := bodyOf Try.f9
theorem blob_Shared.h0 : LsOK Try.prog blob_Shared.C blob_Shared.root (lkL [([0, 1, 0, 1, 1, 1, 1, 1, 1], blob_Shared.e0)]) :=
  LsOK.cons blob_Shared.hC (LsOK.nil) (by kernel_rfl) (fun iv x => by kernel_rfl)
theorem blob_Shared.h1 : LsOK Try.prog blob_Shared.C blob_Shared.root (lkL [([0, 1, 0, 1, 1, 1, 1, 1, 1, 1, 1], blob_Shared.e1), ([0, 1, 0, 1, 1, 1, 1, 1, 1], blob_Shared.e0)]) :=
  LsOK.cons blob_Shared.hC (blob_Shared.h0) (by kernel_rfl) (fun iv x => by kernel_rfl)
theorem blob_Shared.ok : FnOK Try.prog 9 blob_Shared.fn :=
  FnOK.of (L := lkL [([0, 1, 0, 1, 1, 1, 1, 1, 1, 1, 1], blob_Shared.e1), ([0, 1, 0, 1, 1, 1, 1, 1, 1], blob_Shared.e0)]) (root := blob_Shared.root) blob_Shared.hC (enters_of (c := blob_Shared.root) Try.func9 (by kernel_rfl) (by kernel_rfl)) Try.func9 (by kernel_rfl) (rs := [.tmp 10, .tmp 11]) (by kernel_rfl) (by kernel_rfl) blob_Shared.h1 (fun x => by kernel_rfl)
noncomputable def top_TopPiecesOverLines.s0 (v0_16 : (List (List UInt8))) (v0_17 : (List Int)) (x0_19 : Int) (x0_21 : Int) (o0_0 : (List (List UInt8))) : Option ((Int × (Int × (List (List UInt8)))) ⊕ (Int × (List (List UInt8)))) :=
  (let y26 : Int := ((List.length v0_17 : Nat) : Int); (cb (decide (x0_21 < y26)) (ck (0 ≤ x0_21 ∧ x0_21 < ((List.length v0_17 : Nat) : Int)) (let y27 : Int := (rd (0 : Int) v0_17 x0_21); (ck (0 ≤ y27 ∧ y27 < ((List.length v0_16 : Nat) : Int)) (let y28 : (List UInt8) := (rd ([] : (List UInt8)) v0_16 y27); (ck ((List.length o0_0 + List.length ([y28] : List (List UInt8))) * 24 ≤ 140737488355328) (ck (0 ≤ x0_21 ∧ x0_21 < ((List.length v0_17 : Nat) : Int)) (let y29 : Int := (rd (0 : Int) v0_17 x0_21); (ck (0 ≤ y29 ∧ y29 < ((List.length v0_16 : Nat) : Int)) (let y30 : (List UInt8) := (rd ([] : (List UInt8)) v0_16 y29); (let y31 : Int := ((List.length y30 : Nat) : Int); (ck (InR (x0_19 + y31)) (ck (InR (x0_21 + (1 : Int))) (some (.inl ((x0_19 + y31), (x0_21 + (1 : Int)), (o0_0 ++ ([y28] : List (List UInt8)))))))))))))))))) (some (.inr (x0_19, o0_0)))))
noncomputable def top_TopPiecesOverLines.l0 (v0_16 : (List (List UInt8))) (v0_17 : (List Int)) (x0_19 : Int) (x0_21 : Int) (o0_0 : (List (List UInt8))) : Option (Int × (List (List UInt8))) :=
  loopX (fun (x : (Int × (Int × (List (List UInt8))))) => top_TopPiecesOverLines.s0 v0_16 v0_17 x.1 x.2.1 x.2.2) (x0_19, x0_21, o0_0)
noncomputable def top_TopPiecesOverLines.e0 : Ent where
  pre := []
  inv := [(0, .val (.slice .byte)), (1, .val (.slice .byte)), (2, .val (.int .i64)), (3, .val (.int .i64)), (4, .val (.int .i64)), (16, .val (.slice (.slice .byte))), (17, .val (.slice (.int .i64))), (18, .val (.int .i64))]
  car := ⟨[(19, .val (.int .i64)), (20, .own 0 1), (21, .val (.int .i64))], [.row 22 (.slice .byte)]⟩
  exits := [(.exit 0, ⟨[(19, .val (.int .i64)), (20, .own 0 1)], [.row 22 (.slice .byte)]⟩)]
  step := fun iv x => top_TopPiecesOverLines.s0 iv.2.2.2.2.2.1 iv.2.2.2.2.2.2.1 x.1 x.2.1 x.2.2
noncomputable def top_TopPiecesOverLines.s2 (v2_16 : (List (List UInt8))) (v2_22 : Int) (x2_23 : Bool) (x2_24 : Int) (o2_0 : (List (List UInt8))) : Option ((Bool × (Int × (List (List UInt8)))) ⊕ (Bool × (List (List UInt8)))) :=
  (let y38 : Int := ((List.length o2_0 : Nat) : Int); (cb (decide (x2_24 < y38)) (cb (!x2_23) (ck (0 ≤ x2_24 ∧ x2_24 < ((List.length o2_0 : Nat) : Int)) (ck ((Int.toNat x2_24) < List.length o2_0) (let y39 : (List UInt8) := (List.getD o2_0 (Int.toNat x2_24) ([] : (List UInt8))); (ck (0 ≤ v2_22 ∧ v2_22 < ((List.length v2_16 : Nat) : Int)) (let y40 : (List UInt8) := (rd ([] : (List UInt8)) v2_16 v2_22); (ob (bytes_Equal.f y39 y40) fun r41 => (ck (InR (x2_24 + (1 : Int))) (some (.inl (r41, (x2_24 + (1 : Int)), o2_0)))))))))) (some (.inr (x2_23, o2_0)))) (some (.inr (x2_23, o2_0)))))
noncomputable def top_TopPiecesOverLines.l2 (v2_16 : (List (List UInt8))) (v2_22 : Int) (x2_23 : Bool) (x2_24 : Int) (o2_0 : (List (List UInt8))) : Option (Bool × (List (List UInt8))) :=
  loopX (fun (x : (Bool × (Int × (List (List UInt8))))) => top_TopPiecesOverLines.s2 v2_16 v2_22 x.1 x.2.1 x.2.2) (x2_23, x2_24, o2_0)
noncomputable def top_TopPiecesOverLines.e2 : Ent where
  pre := []
  inv := [(0, .val (.slice .byte)), (1, .val (.slice .byte)), (2, .val (.int .i64)), (3, .val (.int .i64)), (4, .val (.int .i64)), (16, .val (.slice (.slice .byte))), (18, .val (.int .i64)), (19, .val (.int .i64)), (22, .val (.int .i64))]
  car := ⟨[(20, .own 0 1), (23, .val .bool), (24, .val (.int .i64))], [.row 22 (.slice .byte)]⟩
  exits := [(.exit 4, ⟨[(20, .own 0 1), (23, .val .bool)], [.row 22 (.slice .byte)]⟩)]
  step := fun iv x => top_TopPiecesOverLines.s2 iv.2.2.2.2.2.1 iv.2.2.2.2.2.2.2.2 x.1 x.2.1 x.2.2
noncomputable def top_TopPiecesOverLines.s1 (v1_16 : (List (List UInt8))) (x1_22 : Int) (o1_0 : (List (List UInt8))) : Option ((Int × (List (List UInt8))) ⊕ (Bool ⊕ (List (List UInt8)))) :=
  (let y43 : Int := ((List.length v1_16 : Nat) : Int); (cb (decide (x1_22 < y43)) (ob (top_TopPiecesOverLines.l2 v1_16 x1_22 false (0 : Int) o1_0) fun r44 => (cb (!r44.1) (some (.inr (.inl false))) (ck (InR (x1_22 + (1 : Int))) (some (.inl ((x1_22 + (1 : Int)), r44.2)))))) (some (.inr (.inr o1_0)))))
noncomputable def top_TopPiecesOverLines.l1 (v1_16 : (List (List UInt8))) (x1_22 : Int) (o1_0 : (List (List UInt8))) : Option (Bool ⊕ (List (List UInt8))) :=
  loopX (fun (x : (Int × (List (List UInt8)))) => top_TopPiecesOverLines.s1 v1_16 x.1 x.2) (x1_22, o1_0)
noncomputable def top_TopPiecesOverLines.e1 : Ent where
  pre := []
  inv := [(0, .val (.slice .byte)), (1, .val (.slice .byte)), (2, .val (.int .i64)), (3, .val (.int .i64)), (4, .val (.int .i64)), (16, .val (.slice (.slice .byte))), (18, .val (.int .i64)), (19, .val (.int .i64))]
  car := ⟨[(20, .own 0 1), (22, .val (.int .i64))], [.row 22 (.slice .byte)]⟩
  exits := [(.ret, ⟨[(10, .val .bool)], []⟩), (.exit 2, ⟨[], [.row 22 (.slice .byte)]⟩)]
  step := fun iv x => top_TopPiecesOverLines.s1 iv.2.2.2.2.2.1 x.1 x.2
/-- smithyardtop.TopPiecesOverLines -/
noncomputable def top_TopPiecesOverLines.f (a0 : (List UInt8)) (a1 : (List UInt8)) (a2 : Int) (a3 : Int) (a4 : Int) : Option Bool :=
  (ob (blob_Pieces.f a0 a2 a3 a4) fun r1 => (ob (blob_Pieces.f a1 a2 a3 a4) fun r2 => (cb (!decide (r1.2 = (0 : Int))) (cb (decide (r1.2 = (0 : Int))) (cb (decide (r2.2 = (0 : Int))) (ob (top_lives.f) fun r3 => (some r3)) (let y4 : Int := ((List.length r2.1 : Nat) : Int); (cb (decide (y4 = (0 : Int))) (ob (top_lives.f) fun r5 => (some r5)) (some false)))) (let y6 : Int := ((List.length r1.1 : Nat) : Int); (cb (decide (y6 = (0 : Int))) (cb (decide (r2.2 = (0 : Int))) (ob (top_lives.f) fun r7 => (some r7)) (let y8 : Int := ((List.length r2.1 : Nat) : Int); (cb (decide (y8 = (0 : Int))) (ob (top_lives.f) fun r9 => (some r9)) (some false)))) (some false)))) (cb (!decide (r2.2 = (0 : Int))) (cb (decide (r1.2 = (0 : Int))) (cb (decide (r2.2 = (0 : Int))) (ob (top_lives.f) fun r10 => (some r10)) (let y11 : Int := ((List.length r2.1 : Nat) : Int); (cb (decide (y11 = (0 : Int))) (ob (top_lives.f) fun r12 => (some r12)) (some false)))) (let y13 : Int := ((List.length r1.1 : Nat) : Int); (cb (decide (y13 = (0 : Int))) (cb (decide (r2.2 = (0 : Int))) (ob (top_lives.f) fun r14 => (some r14)) (let y15 : Int := ((List.length r2.1 : Nat) : Int); (cb (decide (y15 = (0 : Int))) (ob (top_lives.f) fun r16 => (some r16)) (some false)))) (some false)))) (ob (top_cut.f a0 r1.1) fun r17 => (ob (top_cut.f a1 r2.1) fun r18 => (ob (wire_Fresh.f r17 r18) fun r19 => (cb (!decide (r19.2.2 = (0 : Int))) (some false) (ck (List.length r17 * 24 ≤ 140737488355328) (ob (top_TopPiecesOverLines.l0 r18 r19.1 (0 : Int) (0 : Int) r17) fun r32 => (ob (top_TopPiecesOverLines.l1 r18 (0 : Int) r32.2) fun r45 => (caseS r45 (fun a46 => (some a46)) (fun b47 => (ob (blob_Shared.f a0 a1 a2 a3 a4) fun r48 => (cb (decide (r48.2 = (0 : Int))) (cb (decide (r32.1 = r19.2.1)) (ck (InR (r19.2.1 + r48.1)) (let y49 : Int := ((List.length a1 : Nat) : Int); (cb (decide ((r19.2.1 + r48.1) ≤ y49)) (ob (top_lives.f) fun r50 => (some r50)) (some false)))) (some false)) (some false))))))))))))))))
noncomputable def top_TopPiecesOverLines.fn : TFn := ⟨[(.slice .byte), (.slice .byte), (.int .i64), (.int .i64), (.int .i64)], [.bool], fun x => top_TopPiecesOverLines.f x.1 x.2.1 x.2.2.1 x.2.2.2.1 x.2.2.2.2⟩
noncomputable def top_TopPiecesOverLines.C : Cx := ⟨T, TYt, lkF [(4, blob_Pieces.fn), (5, top_lives.fn), (6, top_cut.fn), (7, wire_Fresh.fn), (8, bytes_Equal.fn), (9, blob_Shared.fn)], lkO [], lkD [(24, 8, [(0, true), (1, true), (2, true), (3, true), (4, true), (5, true), (6, true), (7, true)], none)], lkP [], [], [], false, [], [], 165⟩
theorem top_TopPiecesOverLines.hC : CxOK Try.prog top_TopPiecesOverLines.C := ⟨tabOK, FsOK.cons blob_Pieces.ok (FsOK.cons top_lives.ok (FsOK.cons top_cut.ok (FsOK.cons wire_Fresh.ok (FsOK.cons bytes_Equal.ok (FsOK.cons blob_Shared.ok (FsOK.nil)))))), OsOK.nil, mixed, (fun t h => by cases h), (fun t e h => by cases h)⟩
noncomputable def top_TopPiecesOverLines.root : Code := bodyOf Try.f3
theorem top_TopPiecesOverLines.h0 : LsOK Try.prog top_TopPiecesOverLines.C top_TopPiecesOverLines.root (lkL [([0, 1, 0, 1, 1, 1, 1, 1, 1, 1, 1, 1, 1], top_TopPiecesOverLines.e0)]) :=
  LsOK.cons top_TopPiecesOverLines.hC (LsOK.nil) (by kernel_rfl) (fun iv x => by kernel_rfl)
theorem top_TopPiecesOverLines.h2 : LsOK Try.prog top_TopPiecesOverLines.C top_TopPiecesOverLines.root (lkL [([0, 1, 0, 1, 0, 0, 1, 0, 0, 1, 0, 1, 1, 1, 1, 1, 1, 1, 1, 1, 1, 1], top_TopPiecesOverLines.e2), ([0, 1, 0, 1, 1, 1, 1, 1, 1, 1, 1, 1, 1], top_TopPiecesOverLines.e0)]) :=
  LsOK.cons top_TopPiecesOverLines.hC (top_TopPiecesOverLines.h0) (by kernel_rfl) (fun iv x => by kernel_rfl)
theorem top_TopPiecesOverLines.h1 : LsOK Try.prog top_TopPiecesOverLines.C top_TopPiecesOverLines.root (lkL [([0, 1, 0, 1, 1, 1, 1, 1, 1, 1, 1, 1, 1, 1], top_TopPiecesOverLines.e1), ([0, 1, 0, 1, 0, 0, 1, 0, 0, 1, 0, 1, 1, 1, 1, 1, 1, 1, 1, 1, 1, 1], top_TopPiecesOverLines.e2), ([0, 1, 0, 1, 1, 1, 1, 1, 1, 1, 1, 1, 1], top_TopPiecesOverLines.e0)]) :=
  LsOK.cons top_TopPiecesOverLines.hC (top_TopPiecesOverLines.h2) (by kernel_rfl) (fun iv x => by kernel_rfl)
theorem top_TopPiecesOverLines.ok : FnOK Try.prog 3 top_TopPiecesOverLines.fn :=
  FnOK.of (L := lkL [([0, 1, 0, 1, 1, 1, 1, 1, 1, 1, 1, 1, 1, 1], top_TopPiecesOverLines.e1), ([0, 1, 0, 1, 0, 0, 1, 0, 0, 1, 0, 1, 1, 1, 1, 1, 1, 1, 1, 1, 1, 1], top_TopPiecesOverLines.e2), ([0, 1, 0, 1, 1, 1, 1, 1, 1, 1, 1, 1, 1], top_TopPiecesOverLines.e0)]) (root := top_TopPiecesOverLines.root) top_TopPiecesOverLines.hC (enters_of (c := top_TopPiecesOverLines.root) Try.func3 (by kernel_rfl) (by kernel_rfl)) Try.func3 (by kernel_rfl) (rs := [.tmp 10]) (by kernel_rfl) (by kernel_rfl) top_TopPiecesOverLines.h1 (fun x => by kernel_rfl)
end Go.Proofs.Ytljfadhmenadlaa
