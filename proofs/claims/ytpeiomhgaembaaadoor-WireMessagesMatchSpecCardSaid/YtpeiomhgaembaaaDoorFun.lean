/-
  What the program's functions that the laws of this seat reach compute, as plain functions: printed by a program, each checked by the kernel. No condition.
-/
import Derived.Test.YtpeiomhgaembaaaDoorTypes
set_option linter.unusedVariables false
set_option maxRecDepth 100000
namespace Go.Proofs.YtpeiomhgaembaaaDoor
open Go Go.Proofs.YtpeiomhgaembaaaDoor.Eng
def bs_ : ByteArray := ⟨#[]⟩
def bs_48_49_50_51_52_53_54_55_56_57_97_98_99_100_101_102 : ByteArray := ⟨#[48, 49, 50, 51, 52, 53, 54, 55, 56, 57, 97, 98, 99, 100, 101, 102]⟩
noncomputable def slices_Clone_byte_byte.f (a0 : (List UInt8)) : Option (List UInt8) :=
 (nq (¬ a0 = ([] : List UInt8)) (ck ((List.length ([] : List UInt8) + List.length a0) * 1 ≤ 140737488355328) (some (([] : List UInt8) ++ a0))) (some ([] : List UInt8)))
noncomputable def slices_Clone_byte_byte.fn : TFn := ⟨[(.slice .byte)], [(.slice .byte)], fun x => slices_Clone_byte_byte.f x⟩
noncomputable def slices_Clone_byte_byte.C : Cx := ⟨T, TYt, lkF [], lkO [], lkD [], [], [], false, [], 8⟩
theorem slices_Clone_byte_byte.hC : CxOK Tryd.prog slices_Clone_byte_byte.C := ⟨tabOK, FsOK.nil, OsOK.nil, mixed, (fun t h => by cases h), (fun t e h => by cases h)⟩
noncomputable def slices_Clone_byte_byte.root : Code := bodyOf Tryd.f18
theorem slices_Clone_byte_byte.ok : FnOK Tryd.prog 18 slices_Clone_byte_byte.fn :=
 FnOK.of (L := lkL []) (root := slices_Clone_byte_byte.root) slices_Clone_byte_byte.hC (enters_of (c := slices_Clone_byte_byte.root) Tryd.func18 (by kernel_rfl) (by kernel_rfl)) Tryd.func18 (by kernel_rfl) (rs := [.tmp 2]) (by kernel_rfl) (by kernel_rfl) LsOK.nil (fun x => by kernel_rfl)
noncomputable def blob_IsDigest.f (a0 : ByteArray) : Option Bool :=
 (let y1 : Int := ((ByteArray.size a0 : Nat) : Int); (cb (decide (y1 = (16 : Int))) (ob (strings_Trim.f a0 bs_48_49_50_51_52_53_54_55_56_57_97_98_99_100_101_102) fun r2 => (some (decide (r2 = bs_)))) (some false)))
noncomputable def blob_IsDigest.fn : TFn := ⟨[.str], [.bool], fun x => blob_IsDigest.f x⟩
noncomputable def blob_IsDigest.C : Cx := ⟨T, TYt, lkF [(92, strings_Trim.fn)], lkO [], lkD [], [], [], false, [], 11⟩
theorem blob_IsDigest.hC : CxOK Tryd.prog blob_IsDigest.C := ⟨tabOK, FsOK.cons strings_Trim.ok (FsOK.nil), OsOK.nil, mixed, (fun t h => by cases h), (fun t e h => by cases h)⟩
noncomputable def blob_IsDigest.root : Code := bodyOf Tryd.f65
theorem blob_IsDigest.ok : FnOK Tryd.prog 65 blob_IsDigest.fn :=
 FnOK.of (L := lkL []) (root := blob_IsDigest.root) blob_IsDigest.hC (enters_of (c := blob_IsDigest.root) Tryd.func65 (by kernel_rfl) (by kernel_rfl)) Tryd.func65 (by kernel_rfl) (rs := [.tmp 2]) (by kernel_rfl) (by kernel_rfl) LsOK.nil (fun x => by kernel_rfl)
noncomputable def wire_checkContent.f (a0 : ByteArray) (a1 : (List UInt8)) : Option Int :=
 (ob (blob_IsDigest.f a0) fun r1 => (cb (!r1) (some (3 : Int)) (let y2 : Int := ((List.length a1 : Nat) : Int); (cb (decide ((100000 : Int) < y2)) (some (2 : Int)) (some (0 : Int))))))
noncomputable def wire_checkContent.fn : TFn := ⟨[.str, (.slice .byte)], [(.int .i64)], fun x => wire_checkContent.f x.1 x.2⟩
noncomputable def wire_checkContent.C : Cx := ⟨T, TYt, lkF [(65, blob_IsDigest.fn)], lkO [], lkD [], [], [], false, [], 11⟩
theorem wire_checkContent.hC : CxOK Tryd.prog wire_checkContent.C := ⟨tabOK, FsOK.cons blob_IsDigest.ok (FsOK.nil), OsOK.nil, mixed, (fun t h => by cases h), (fun t e h => by cases h)⟩
noncomputable def wire_checkContent.root : Code := bodyOf Tryd.f60
theorem wire_checkContent.ok : FnOK Tryd.prog 60 wire_checkContent.fn :=
 FnOK.of (L := lkL []) (root := wire_checkContent.root) wire_checkContent.hC (enters_of (c := wire_checkContent.root) Tryd.func60 (by kernel_rfl) (by kernel_rfl)) Tryd.func60 (by kernel_rfl) (rs := [.tmp 4]) (by kernel_rfl) (by kernel_rfl) LsOK.nil (fun x => by kernel_rfl)
noncomputable def wire_within.f (a0 : Int) (a1 : Int) (a2 : Int) : Option Bool :=
 (cb (decide (a1 ≤ a0)) (some (decide (a0 ≤ a2))) (some false))
noncomputable def wire_within.fn : TFn := ⟨[(.int .i64), (.int .i64), (.int .i64)], [.bool], fun x => wire_within.f x.1 x.2.1 x.2.2⟩
noncomputable def wire_within.C : Cx := ⟨T, TYt, lkF [], lkO [], lkD [], [], [], false, [], 15⟩
theorem wire_within.hC : CxOK Tryd.prog wire_within.C := ⟨tabOK, FsOK.nil, OsOK.nil, mixed, (fun t h => by cases h), (fun t e h => by cases h)⟩
noncomputable def wire_within.root : Code := bodyOf Tryd.f58
theorem wire_within.ok : FnOK Tryd.prog 58 wire_within.fn :=
 FnOK.of (L := lkL []) (root := wire_within.root) wire_within.hC (enters_of (c := wire_within.root) Tryd.func58 (by kernel_rfl) (by kernel_rfl)) Tryd.func58 (by kernel_rfl) (rs := [.tmp 6]) (by kernel_rfl) (by kernel_rfl) LsOK.nil (fun x => by kernel_rfl)
noncomputable def wire_dataFrom.f (a0 : ByteArray) (a1 : (List UInt8)) (a2 : Int) (a3 : Int) : Option (Int × (ByteArray × (Int × (Int × (List UInt8))))) :=
 (ck (InR (a2 + a3)) (let y1 : Int := ((List.length a1 : Nat) : Int); (ck (0 ≤ a2 ∧ a2 ≤ (min (a2 + a3) y1) ∧ (min (a2 + a3) y1) ≤ ((List.length a1 : Nat) : Int)) (let y2 : (List UInt8) := (List.drop (Int.toNat a2) (List.take (Int.toNat (min (a2 + a3) y1)) a1)); (ob (slices_Clone_byte_byte.f y2) fun r3 => (some ((2 : Int), (a0, (a2, ((0 : Int), r3))))))))))
noncomputable def wire_dataFrom.fn : TFn := ⟨[.str, (.slice .byte), (.int .i64), (.int .i64)], [(.pair (.int .i64) (.pair .str (.pair (.int .i64) (.pair (.int .i64) (.slice .byte)))))], fun x => wire_dataFrom.f x.1 x.2.1 x.2.2.1 x.2.2.2⟩
noncomputable def wire_dataFrom.C : Cx := ⟨T, TYt, lkF [(18, slices_Clone_byte_byte.fn)], lkO [], lkD [], [], [], false, [], 22⟩
theorem wire_dataFrom.hC : CxOK Tryd.prog wire_dataFrom.C := ⟨tabOK, FsOK.cons slices_Clone_byte_byte.ok (FsOK.nil), OsOK.nil, mixed, (fun t h => by cases h), (fun t e h => by cases h)⟩
noncomputable def wire_dataFrom.root : Code := bodyOf Tryd.f61
theorem wire_dataFrom.ok : FnOK Tryd.prog 61 wire_dataFrom.fn :=
 FnOK.of (L := lkL []) (root := wire_dataFrom.root) wire_dataFrom.hC (enters_of (c := wire_dataFrom.root) Tryd.func61 (by kernel_rfl) (by kernel_rfl)) Tryd.func61 (by kernel_rfl) (rs := [.cell 8 63]) (by kernel_rfl) (by kernel_rfl) LsOK.nil (fun x => by kernel_rfl)
noncomputable def wire_Messages.s0 (v0_0 : ByteArray) (v0_1 : (List UInt8)) (v0_3 : Int) (x0_2 : Int) (o0_0 : (List (Int × (ByteArray × (Int × (Int × (List UInt8))))))) : Option ((Int × (List (Int × (ByteArray × (Int × (Int × (List UInt8))))))) ⊕ (List (Int × (ByteArray × (Int × (Int × (List UInt8))))))) :=
 (let y8 : Int := ((List.length v0_1 : Nat) : Int); (cb (decide (x0_2 < y8)) (ob (wire_dataFrom.f v0_0 v0_1 x0_2 v0_3) fun r9 => (ck ((List.length o0_0 + List.length ([r9] : List (Int × (ByteArray × (Int × (Int × (List UInt8))))))) * 64 ≤ 140737488355328) (ck (InR (x0_2 + v0_3)) (some (.inl ((x0_2 + v0_3), (o0_0 ++ ([r9] : List (Int × (ByteArray × (Int × (Int × (List UInt8))))))))))))) (some (.inr o0_0))))
noncomputable def wire_Messages.l0 (v0_0 : ByteArray) (v0_1 : (List UInt8)) (v0_3 : Int) (x0_2 : Int) (o0_0 : (List (Int × (ByteArray × (Int × (Int × (List UInt8))))))) : Option (List (Int × (ByteArray × (Int × (Int × (List UInt8)))))) :=
 loopX (fun (x : (Int × (List (Int × (ByteArray × (Int × (Int × (List UInt8)))))))) => wire_Messages.s0 v0_0 v0_1 v0_3 x.1 x.2) (x0_2, o0_0)
noncomputable def wire_Messages.e0 : Ent where
 pre := []
 inv := [(0, .val .str), (1, .val (.slice .byte)), (3, .val (.int .i64))]
 car := ⟨[(2, .val (.int .i64)), (11, .own 0 5)], [.row 63 (.pair (.int .i64) (.pair .str (.pair (.int .i64) (.pair (.int .i64) (.slice .byte)))))]⟩
 exits := [(.exit 0, ⟨[(11, .own 0 5)], [.row 63 (.pair (.int .i64) (.pair .str (.pair (.int .i64) (.pair (.int .i64) (.slice .byte)))))]⟩)]
 step := fun iv x => wire_Messages.s0 iv.1 iv.2.1 iv.2.2 x.1 x.2
noncomputable def wire_Messages.f (a0 : ByteArray) (a1 : (List UInt8)) (a2 : Int) (a3 : Int) : Option ((List (Int × (ByteArray × (Int × (Int × (List UInt8)))))) × Int) :=
 (ob (wire_checkContent.f a0 a1) fun r1 => (cb (!decide (r1 = (0 : Int))) (some (([] : List (Int × (ByteArray × (Int × (Int × (List UInt8)))))), r1)) (let y2 : Int := ((List.length a1 : Nat) : Int); (ob (wire_within.f a2 (0 : Int) y2) fun r3 => (cb (!r3) (some (([] : List (Int × (ByteArray × (Int × (Int × (List UInt8)))))), (1 : Int))) (ob (wire_within.f a3 (1 : Int) (65536 : Int)) fun r4 => (cb (!r4) (some (([] : List (Int × (ByteArray × (Int × (Int × (List UInt8)))))), (1 : Int))) (let y5 : Int := ((List.length a1 : Nat) : Int); (ob (wire_Messages.l0 a0 a1 a3 a2 ([((1 : Int), (a0, ((0 : Int), (y5, ([] : List UInt8)))))] : List (Int × (ByteArray × (Int × (Int × (List UInt8))))))) fun r10 => (some (r10, (0 : Int))))))))))))
noncomputable def wire_Messages.fn : TFn := ⟨[.str, (.slice .byte), (.int .i64), (.int .i64)], [(.slice (.pair (.int .i64) (.pair .str (.pair (.int .i64) (.pair (.int .i64) (.slice .byte)))))), (.int .i64)], fun x => wire_Messages.f x.1 x.2.1 x.2.2.1 x.2.2.2⟩
noncomputable def wire_Messages.C : Cx := ⟨T, TYt, lkF [(58, wire_within.fn), (60, wire_checkContent.fn), (61, wire_dataFrom.fn)], lkO [], lkD [], [], [], false, [], 49⟩
theorem wire_Messages.hC : CxOK Tryd.prog wire_Messages.C := ⟨tabOK, FsOK.cons wire_within.ok (FsOK.cons wire_checkContent.ok (FsOK.cons wire_dataFrom.ok (FsOK.nil))), OsOK.nil, mixed, (fun t h => by cases h), (fun t e h => by cases h)⟩
noncomputable def wire_Messages.root : Code := bodyOf Tryd.f19
theorem wire_Messages.h0 : LsOK Tryd.prog wire_Messages.C wire_Messages.root (lkL [([0, 0, 1, 1, 1, 1], wire_Messages.e0)]) :=
 LsOK.cons wire_Messages.hC (LsOK.nil) (by kernel_rfl) (fun iv x => by kernel_rfl)
theorem wire_Messages.ok : FnOK Tryd.prog 19 wire_Messages.fn :=
 FnOK.of (L := lkL [([0, 0, 1, 1, 1, 1], wire_Messages.e0)]) (root := wire_Messages.root) wire_Messages.hC (enters_of (c := wire_Messages.root) Tryd.func19 (by kernel_rfl) (by kernel_rfl)) Tryd.func19 (by kernel_rfl) (rs := [.tmp 8, .tmp 9]) (by kernel_rfl) (by kernel_rfl) wire_Messages.h0 (fun x => by kernel_rfl)
noncomputable def ref8_isDigest.f (a0 : ByteArray) : Option Bool :=
 (let y1 : Int := ((ByteArray.size a0 : Nat) : Int); (cb (decide (y1 = (16 : Int))) (ob (strings_Trim.f a0 bs_48_49_50_51_52_53_54_55_56_57_97_98_99_100_101_102) fun r2 => (some (decide (r2 = bs_)))) (some false)))
noncomputable def ref8_isDigest.fn : TFn := ⟨[.str], [.bool], fun x => ref8_isDigest.f x⟩
noncomputable def ref8_isDigest.C : Cx := ⟨T, TYt, lkF [(92, strings_Trim.fn)], lkO [], lkD [], [], [], false, [], 11⟩
theorem ref8_isDigest.hC : CxOK Tryd.prog ref8_isDigest.C := ⟨tabOK, FsOK.cons strings_Trim.ok (FsOK.nil), OsOK.nil, mixed, (fun t h => by cases h), (fun t e h => by cases h)⟩
noncomputable def ref8_isDigest.root : Code := bodyOf Tryd.f62
theorem ref8_isDigest.ok : FnOK Tryd.prog 62 ref8_isDigest.fn :=
 FnOK.of (L := lkL []) (root := ref8_isDigest.root) ref8_isDigest.hC (enters_of (c := ref8_isDigest.root) Tryd.func62 (by kernel_rfl) (by kernel_rfl)) Tryd.func62 (by kernel_rfl) (rs := [.tmp 2]) (by kernel_rfl) (by kernel_rfl) LsOK.nil (fun x => by kernel_rfl)
noncomputable def ref8_within.f (a0 : Int) (a1 : Int) (a2 : Int) : Option Bool :=
 (cb (decide (a1 ≤ a0)) (some (decide (a0 ≤ a2))) (some false))
noncomputable def ref8_within.fn : TFn := ⟨[(.int .i64), (.int .i64), (.int .i64)], [.bool], fun x => ref8_within.f x.1 x.2.1 x.2.2⟩
noncomputable def ref8_within.C : Cx := ⟨T, TYt, lkF [], lkO [], lkD [], [], [], false, [], 15⟩
theorem ref8_within.hC : CxOK Tryd.prog ref8_within.C := ⟨tabOK, FsOK.nil, OsOK.nil, mixed, (fun t h => by cases h), (fun t e h => by cases h)⟩
noncomputable def ref8_within.root : Code := bodyOf Tryd.f63
theorem ref8_within.ok : FnOK Tryd.prog 63 ref8_within.fn :=
 FnOK.of (L := lkL []) (root := ref8_within.root) ref8_within.hC (enters_of (c := ref8_within.root) Tryd.func63 (by kernel_rfl) (by kernel_rfl)) Tryd.func63 (by kernel_rfl) (rs := [.tmp 6]) (by kernel_rfl) (by kernel_rfl) LsOK.nil (fun x => by kernel_rfl)
noncomputable def ref8_messages.s0 (v0_0 : ByteArray) (v0_1 : (List UInt8)) (v0_3 : Int) (x0_10 : Int) (o0_0 : (List (Int × (ByteArray × (Int × (Int × (List UInt8))))))) : Option ((Int × (List (Int × (ByteArray × (Int × (Int × (List UInt8))))))) ⊕ (List (Int × (ByteArray × (Int × (Int × (List UInt8))))))) :=
 (let y6 : Int := ((List.length v0_1 : Nat) : Int); (cb (decide (x0_10 < y6)) (ck (InR (x0_10 + v0_3)) (let y7 : Int := ((List.length v0_1 : Nat) : Int); (ck (0 ≤ x0_10 ∧ x0_10 ≤ (min (x0_10 + v0_3) y7) ∧ (min (x0_10 + v0_3) y7) ≤ ((List.length v0_1 : Nat) : Int)) (let y8 : (List UInt8) := (List.drop (Int.toNat x0_10) (List.take (Int.toNat (min (x0_10 + v0_3) y7)) v0_1)); (ob (slices_Clone_byte_byte.f y8) fun r9 => (ck ((List.length o0_0 + List.length ([((2 : Int), (v0_0, (x0_10, ((0 : Int), r9))))] : List (Int × (ByteArray × (Int × (Int × (List UInt8))))))) * 64 ≤ 140737488355328) (ck (InR (x0_10 + v0_3)) (some (.inl ((x0_10 + v0_3), (o0_0 ++ ([((2 : Int), (v0_0, (x0_10, ((0 : Int), r9))))] : List (Int × (ByteArray × (Int × (Int × (List UInt8))))))))))))))))) (some (.inr o0_0))))
noncomputable def ref8_messages.l0 (v0_0 : ByteArray) (v0_1 : (List UInt8)) (v0_3 : Int) (x0_10 : Int) (o0_0 : (List (Int × (ByteArray × (Int × (Int × (List UInt8))))))) : Option (List (Int × (ByteArray × (Int × (Int × (List UInt8)))))) :=
 loopX (fun (x : (Int × (List (Int × (ByteArray × (Int × (Int × (List UInt8)))))))) => ref8_messages.s0 v0_0 v0_1 v0_3 x.1 x.2) (x0_10, o0_0)
noncomputable def ref8_messages.e0 : Ent where
 pre := []
 inv := [(0, .val .str), (1, .val (.slice .byte)), (3, .val (.int .i64))]
 car := ⟨[(9, .own 0 5), (10, .val (.int .i64))], [.row 63 (.pair (.int .i64) (.pair .str (.pair (.int .i64) (.pair (.int .i64) (.slice .byte)))))]⟩
 exits := [(.exit 0, ⟨[(9, .own 0 5)], [.row 63 (.pair (.int .i64) (.pair .str (.pair (.int .i64) (.pair (.int .i64) (.slice .byte)))))]⟩)]
 step := fun iv x => ref8_messages.s0 iv.1 iv.2.1 iv.2.2 x.1 x.2
noncomputable def ref8_messages.f (a0 : ByteArray) (a1 : (List UInt8)) (a2 : Int) (a3 : Int) : Option (List (Int × (ByteArray × (Int × (Int × (List UInt8)))))) :=
 (let y1 : Int := ((List.length a1 : Nat) : Int); (ob (ref8_messages.l0 a0 a1 a3 a2 ([((1 : Int), (a0, ((0 : Int), (y1, ([] : List UInt8)))))] : List (Int × (ByteArray × (Int × (Int × (List UInt8))))))) fun r10 => (some r10)))
noncomputable def ref8_messages.fn : TFn := ⟨[.str, (.slice .byte), (.int .i64), (.int .i64)], [(.slice (.pair (.int .i64) (.pair .str (.pair (.int .i64) (.pair (.int .i64) (.slice .byte))))))], fun x => ref8_messages.f x.1 x.2.1 x.2.2.1 x.2.2.2⟩
noncomputable def ref8_messages.C : Cx := ⟨T, TYt, lkF [(18, slices_Clone_byte_byte.fn)], lkO [], lkD [], [], [], false, [], 41⟩
theorem ref8_messages.hC : CxOK Tryd.prog ref8_messages.C := ⟨tabOK, FsOK.cons slices_Clone_byte_byte.ok (FsOK.nil), OsOK.nil, mixed, (fun t h => by cases h), (fun t e h => by cases h)⟩
noncomputable def ref8_messages.root : Code := bodyOf Tryd.f64
theorem ref8_messages.h0 : LsOK Tryd.prog ref8_messages.C ref8_messages.root (lkL [([0, 1, 0, 1, 1], ref8_messages.e0)]) :=
 LsOK.cons ref8_messages.hC (LsOK.nil) (by kernel_rfl) (fun iv x => by kernel_rfl)
theorem ref8_messages.ok : FnOK Tryd.prog 64 ref8_messages.fn :=
 FnOK.of (L := lkL [([0, 1, 0, 1, 1], ref8_messages.e0)]) (root := ref8_messages.root) ref8_messages.hC (enters_of (c := ref8_messages.root) Tryd.func64 (by kernel_rfl) (by kernel_rfl)) Tryd.func64 (by kernel_rfl) (rs := [.tmp 8]) (by kernel_rfl) (by kernel_rfl) ref8_messages.h0 (fun x => by kernel_rfl)
noncomputable def ref8_Messages.f (a0 : ByteArray) (a1 : (List UInt8)) (a2 : Int) (a3 : Int) : Option ((List (Int × (ByteArray × (Int × (Int × (List UInt8)))))) × Int) :=
 (ob (ref8_isDigest.f a0) fun r1 => (cb (!r1) (some (([] : List (Int × (ByteArray × (Int × (Int × (List UInt8)))))), (3 : Int))) (let y2 : Int := ((List.length a1 : Nat) : Int); (cb (decide ((100000 : Int) < y2)) (some (([] : List (Int × (ByteArray × (Int × (Int × (List UInt8)))))), (2 : Int))) (let y3 : Int := ((List.length a1 : Nat) : Int); (ob (ref8_within.f a2 (0 : Int) y3) fun r4 => (cb (!r4) (some (([] : List (Int × (ByteArray × (Int × (Int × (List UInt8)))))), (1 : Int))) (ob (ref8_within.f a3 (1 : Int) (65536 : Int)) fun r5 => (cb (!r5) (some (([] : List (Int × (ByteArray × (Int × (Int × (List UInt8)))))), (1 : Int))) (ob (ref8_messages.f a0 a1 a2 a3) fun r6 => (some (r6, (0 : Int)))))))))))))
noncomputable def ref8_Messages.fn : TFn := ⟨[.str, (.slice .byte), (.int .i64), (.int .i64)], [(.slice (.pair (.int .i64) (.pair .str (.pair (.int .i64) (.pair (.int .i64) (.slice .byte)))))), (.int .i64)], fun x => ref8_Messages.f x.1 x.2.1 x.2.2.1 x.2.2.2⟩
noncomputable def ref8_Messages.C : Cx := ⟨T, TYt, lkF [(62, ref8_isDigest.fn), (63, ref8_within.fn), (64, ref8_messages.fn)], lkO [], lkD [], [], [], false, [], 34⟩
theorem ref8_Messages.hC : CxOK Tryd.prog ref8_Messages.C := ⟨tabOK, FsOK.cons ref8_isDigest.ok (FsOK.cons ref8_within.ok (FsOK.cons ref8_messages.ok (FsOK.nil))), OsOK.nil, mixed, (fun t h => by cases h), (fun t e h => by cases h)⟩
noncomputable def ref8_Messages.root : Code := bodyOf Tryd.f20
theorem ref8_Messages.ok : FnOK Tryd.prog 20 ref8_Messages.fn :=
 FnOK.of (L := lkL []) (root := ref8_Messages.root) ref8_Messages.hC (enters_of (c := ref8_Messages.root) Tryd.func20 (by kernel_rfl) (by kernel_rfl)) Tryd.func20 (by kernel_rfl) (rs := [.tmp 8, .tmp 9]) (by kernel_rfl) (by kernel_rfl) LsOK.nil (fun x => by kernel_rfl)
noncomputable def slices_Equal_byte_byte.s0 (v0_0 : (List UInt8)) (v0_1 : (List UInt8)) (v0_12 : Int) (x0_13 : Int) : Option (Int ⊕ (Bool ⊕ Unit)) :=
 (cb (decide (x0_13 < v0_12)) (ck (0 ≤ x0_13 ∧ x0_13 < ((List.length v0_0 : Nat) : Int)) (let y6 : UInt8 := (rd (0 : UInt8) v0_0 x0_13); (ck (0 ≤ x0_13 ∧ x0_13 < ((List.length v0_1 : Nat) : Int)) (let y7 : UInt8 := (rd (0 : UInt8) v0_1 x0_13); (cb (!decide (((UInt8.toNat y6 : Nat) : Int) = ((UInt8.toNat y7 : Nat) : Int))) (some (.inr (.inl false))) (ck (InR (x0_13 + (1 : Int))) (some (.inl (x0_13 + (1 : Int)))))))))) (some (.inr (.inr ()))))
noncomputable def slices_Equal_byte_byte.l0 (v0_0 : (List UInt8)) (v0_1 : (List UInt8)) (v0_12 : Int) (x0_13 : Int) : Option (Bool ⊕ Unit) :=
 loopX (fun (x : Int) => slices_Equal_byte_byte.s0 v0_0 v0_1 v0_12 x) x0_13
noncomputable def slices_Equal_byte_byte.e0 : Ent where
 pre := []
 inv := [(0, .val (.slice .byte)), (1, .val (.slice .byte)), (12, .val (.int .i64))]
 car := ⟨[(13, .val (.int .i64))], []⟩
 exits := [(.ret, ⟨[(4, .val .bool)], []⟩), (.exit 0, ⟨[], []⟩)]
 step := fun iv x => slices_Equal_byte_byte.s0 iv.1 iv.2.1 iv.2.2 x
noncomputable def slices_Equal_byte_byte.f (a0 : (List UInt8)) (a1 : (List UInt8)) : Option Bool :=
 (let y1 : Int := ((List.length a0 : Nat) : Int); (let y2 : Int := ((List.length a1 : Nat) : Int); (cb (!decide (y1 = y2)) (some false) (let y3 : Int := ((List.length a0 : Nat) : Int); (ob (slices_Equal_byte_byte.l0 a0 a1 y3 (0 : Int)) fun r8 => (caseS r8 (fun a9 => (some a9)) (fun b10 => (some true))))))))
noncomputable def slices_Equal_byte_byte.fn : TFn := ⟨[(.slice .byte), (.slice .byte)], [.bool], fun x => slices_Equal_byte_byte.f x.1 x.2⟩
noncomputable def slices_Equal_byte_byte.C : Cx := ⟨T, TYt, lkF [], lkO [], lkD [(6, 8, [(0, true), (1, true), (2, true), (3, true), (4, true), (5, true), (6, true), (7, true)], none)], [], [], false, [], 26⟩
theorem slices_Equal_byte_byte.hC : CxOK Tryd.prog slices_Equal_byte_byte.C := ⟨tabOK, FsOK.nil, OsOK.nil, mixed, (fun t h => by cases h), (fun t e h => by cases h)⟩
noncomputable def slices_Equal_byte_byte.root : Code := bodyOf Tryd.f22
theorem slices_Equal_byte_byte.h0 : LsOK Tryd.prog slices_Equal_byte_byte.C slices_Equal_byte_byte.root (lkL [([0, 1, 0, 1, 1], slices_Equal_byte_byte.e0)]) :=
 LsOK.cons slices_Equal_byte_byte.hC (LsOK.nil) (by kernel_rfl) (fun iv x => by kernel_rfl)
theorem slices_Equal_byte_byte.ok : FnOK Tryd.prog 22 slices_Equal_byte_byte.fn :=
 FnOK.of (L := lkL [([0, 1, 0, 1, 1], slices_Equal_byte_byte.e0)]) (root := slices_Equal_byte_byte.root) slices_Equal_byte_byte.hC (enters_of (c := slices_Equal_byte_byte.root) Tryd.func22 (by kernel_rfl) (by kernel_rfl)) Tryd.func22 (by kernel_rfl) (rs := [.tmp 4]) (by kernel_rfl) (by kernel_rfl) slices_Equal_byte_byte.h0 (fun x => by kernel_rfl)
noncomputable def ref8_SameMessage.f (a0 : (Int × (ByteArray × (Int × (Int × (List UInt8)))))) (a1 : (Int × (ByteArray × (Int × (Int × (List UInt8)))))) : Option Bool :=
 (cb (decide (a0.1 = a1.1)) (cb (decide (a0.2.1 = a1.2.1)) (cb (decide (a0.2.2.1 = a1.2.2.1)) (cb (decide (a0.2.2.2.1 = a1.2.2.2.1)) (ob (slices_Equal_byte_byte.f a0.2.2.2.2 a1.2.2.2.2) fun r1 => (some r1)) (some false)) (some false)) (some false)) (some false))
noncomputable def ref8_SameMessage.fn : TFn := ⟨[(.pair (.int .i64) (.pair .str (.pair (.int .i64) (.pair (.int .i64) (.slice .byte))))), (.pair (.int .i64) (.pair .str (.pair (.int .i64) (.pair (.int .i64) (.slice .byte)))))], [.bool], fun x => ref8_SameMessage.f x.1 x.2⟩
noncomputable def ref8_SameMessage.C : Cx := ⟨T, TYt, lkF [(22, slices_Equal_byte_byte.fn)], lkO [], lkD [], [2, 3], [], false, [], 38⟩
theorem ref8_SameMessage.hC : CxOK Tryd.prog ref8_SameMessage.C := ⟨tabOK, FsOK.cons slices_Equal_byte_byte.ok (FsOK.nil), OsOK.nil, mixed, (fun t h => by cases h), (fun t e h => by cases h)⟩
noncomputable def ref8_SameMessage.root : Code := bodyOf Tryd.f41
theorem ref8_SameMessage.ok : FnOK Tryd.prog 41 ref8_SameMessage.fn :=
 FnOK.of (L := lkL []) (root := ref8_SameMessage.root) ref8_SameMessage.hC (enters_of (c := ref8_SameMessage.root) Tryd.func41 (by kernel_rfl) (by kernel_rfl)) Tryd.func41 (by kernel_rfl) (rs := [.tmp 4]) (by kernel_rfl) (by kernel_rfl) LsOK.nil (fun x => by kernel_rfl)
noncomputable def ref8_SameMessages.s0 (v0_0 : (List (Int × (ByteArray × (Int × (Int × (List UInt8))))))) (v0_1 : (List (Int × (ByteArray × (Int × (Int × (List UInt8))))))) (v0_12 : Int) (x0_13 : Int) : Option (Int ⊕ (Bool ⊕ Unit)) :=
 (cb (decide (x0_13 < v0_12)) (ck (0 ≤ x0_13 ∧ x0_13 < ((List.length v0_0 : Nat) : Int)) (let y7 : (Int × (ByteArray × (Int × (Int × (List UInt8))))) := (rd ((0 : Int), (ByteArray.empty, ((0 : Int), ((0 : Int), ([] : (List UInt8)))))) v0_0 x0_13); (ck (0 ≤ x0_13 ∧ x0_13 < ((List.length v0_1 : Nat) : Int)) (let y8 : (Int × (ByteArray × (Int × (Int × (List UInt8))))) := (rd ((0 : Int), (ByteArray.empty, ((0 : Int), ((0 : Int), ([] : (List UInt8)))))) v0_1 x0_13); (ob (ref8_SameMessage.f y7 y8) fun r9 => (cb (!r9) (some (.inr (.inl false))) (ck (InR (x0_13 + (1 : Int))) (some (.inl (x0_13 + (1 : Int))))))))))) (some (.inr (.inr ()))))
noncomputable def ref8_SameMessages.l0 (v0_0 : (List (Int × (ByteArray × (Int × (Int × (List UInt8))))))) (v0_1 : (List (Int × (ByteArray × (Int × (Int × (List UInt8))))))) (v0_12 : Int) (x0_13 : Int) : Option (Bool ⊕ Unit) :=
 loopX (fun (x : Int) => ref8_SameMessages.s0 v0_0 v0_1 v0_12 x) x0_13
noncomputable def ref8_SameMessages.e0 : Ent where
 pre := []
 inv := [(0, .val (.slice (.pair (.int .i64) (.pair .str (.pair (.int .i64) (.pair (.int .i64) (.slice .byte))))))), (1, .val (.slice (.pair (.int .i64) (.pair .str (.pair (.int .i64) (.pair (.int .i64) (.slice .byte))))))), (12, .val (.int .i64))]
 car := ⟨[(13, .val (.int .i64))], []⟩
 exits := [(.ret, ⟨[(4, .val .bool)], []⟩), (.exit 0, ⟨[], []⟩)]
 step := fun iv x => ref8_SameMessages.s0 iv.1 iv.2.1 iv.2.2 x
noncomputable def ref8_SameMessages.f (a0 : (List (Int × (ByteArray × (Int × (Int × (List UInt8))))))) (a1 : (List (Int × (ByteArray × (Int × (Int × (List UInt8))))))) : Option Bool :=
 (let y1 : Int := ((List.length a0 : Nat) : Int); (let y2 : Int := ((List.length a1 : Nat) : Int); (cb (!decide (y1 = y2)) (some false) (let y3 : Int := ((List.length a0 : Nat) : Int); (ob (ref8_SameMessages.l0 a0 a1 y3 (0 : Int)) fun r10 => (caseS r10 (fun a11 => (some a11)) (fun b12 => (some true))))))))
noncomputable def ref8_SameMessages.fn : TFn := ⟨[(.slice (.pair (.int .i64) (.pair .str (.pair (.int .i64) (.pair (.int .i64) (.slice .byte)))))), (.slice (.pair (.int .i64) (.pair .str (.pair (.int .i64) (.pair (.int .i64) (.slice .byte))))))], [.bool], fun x => ref8_SameMessages.f x.1 x.2⟩
noncomputable def ref8_SameMessages.C : Cx := ⟨T, TYt, lkF [(41, ref8_SameMessage.fn)], lkO [], lkD [(6, 8, [(0, true), (1, true), (2, true), (3, true), (4, true), (5, true), (6, true), (7, true)], none)], [], [], false, [], 27⟩
theorem ref8_SameMessages.hC : CxOK Tryd.prog ref8_SameMessages.C := ⟨tabOK, FsOK.cons ref8_SameMessage.ok (FsOK.nil), OsOK.nil, mixed, (fun t h => by cases h), (fun t e h => by cases h)⟩
noncomputable def ref8_SameMessages.root : Code := bodyOf Tryd.f21
theorem ref8_SameMessages.h0 : LsOK Tryd.prog ref8_SameMessages.C ref8_SameMessages.root (lkL [([0, 1, 0, 1, 1], ref8_SameMessages.e0)]) :=
 LsOK.cons ref8_SameMessages.hC (LsOK.nil) (by kernel_rfl) (fun iv x => by kernel_rfl)
theorem ref8_SameMessages.ok : FnOK Tryd.prog 21 ref8_SameMessages.fn :=
 FnOK.of (L := lkL [([0, 1, 0, 1, 1], ref8_SameMessages.e0)]) (root := ref8_SameMessages.root) ref8_SameMessages.hC (enters_of (c := ref8_SameMessages.root) Tryd.func21 (by kernel_rfl) (by kernel_rfl)) Tryd.func21 (by kernel_rfl) (rs := [.tmp 4]) (by kernel_rfl) (by kernel_rfl) ref8_SameMessages.h0 (fun x => by kernel_rfl)
noncomputable def wire_CheckQuota.f (a0 : (Int × Int)) : Option Int :=
 (ob (wire_within.f a0.1 (1 : Int) (1000000000 : Int)) fun r1 => (cb (!r1) (some (1 : Int)) (ob (wire_within.f a0.2 (1 : Int) (1000000000 : Int)) fun r2 => (cb (!r2) (some (1 : Int)) (some (0 : Int))))))
noncomputable def wire_CheckQuota.fn : TFn := ⟨[(.pair (.int .i64) (.int .i64))], [(.int .i64)], fun x => wire_CheckQuota.f x⟩
noncomputable def wire_CheckQuota.C : Cx := ⟨T, TYt, lkF [(58, wire_within.fn)], lkO [], lkD [], [1], [], false, [], 13⟩
theorem wire_CheckQuota.hC : CxOK Tryd.prog wire_CheckQuota.C := ⟨tabOK, FsOK.cons wire_within.ok (FsOK.nil), OsOK.nil, mixed, (fun t h => by cases h), (fun t e h => by cases h)⟩
noncomputable def wire_CheckQuota.root : Code := bodyOf Tryd.f91
theorem wire_CheckQuota.ok : FnOK Tryd.prog 91 wire_CheckQuota.fn :=
 FnOK.of (L := lkL []) (root := wire_CheckQuota.root) wire_CheckQuota.hC (enters_of (c := wire_CheckQuota.root) Tryd.func91 (by kernel_rfl) (by kernel_rfl)) Tryd.func91 (by kernel_rfl) (rs := [.tmp 2]) (by kernel_rfl) (by kernel_rfl) LsOK.nil (fun x => by kernel_rfl)
noncomputable def wire_Starts.s0 (v0_1 : (List (Int × Int))) (v0_2 : (Int × Int)) (v0_24 : (List (Int × Int))) (v0_25 : Int) (x0_26 : Int) : Option (Int ⊕ (((List Int) × Int) ⊕ Unit)) :=
 (cb (decide (x0_26 < v0_25)) (ck (0 ≤ x0_26 ∧ x0_26 < ((List.length v0_24 : Nat) : Int)) (let y8 : (Int × Int) := (rd ((0 : Int), (0 : Int)) v0_24 x0_26); (ob (wire_within.f y8.1 (0 : Int) (1000000000 : Int)) fun r9 => (cb (!r9) (some (.inr (.inl (([] : List Int), (1 : Int))))) (ob (wire_within.f y8.2 (0 : Int) v0_2.2) fun r10 => (cb (!r10) (some (.inr (.inl (([] : List Int), (1 : Int))))) (cb (decide ((0 : Int) < x0_26)) (ck (InR (x0_26 - (1 : Int))) (ck (0 ≤ (x0_26 - (1 : Int)) ∧ (x0_26 - (1 : Int)) < ((List.length v0_1 : Nat) : Int)) (let y11 : Int := (rd ((0 : Int), (0 : Int)) v0_1 (x0_26 - (1 : Int))).1; (cb (decide (y8.1 < y11)) (some (.inr (.inl (([] : List Int), (8 : Int))))) (ck (InR (x0_26 + (1 : Int))) (some (.inl (x0_26 + (1 : Int))))))))) (ck (InR (x0_26 + (1 : Int))) (some (.inl (x0_26 + (1 : Int)))))))))))) (some (.inr (.inr ()))))
noncomputable def wire_Starts.l0 (v0_1 : (List (Int × Int))) (v0_2 : (Int × Int)) (v0_24 : (List (Int × Int))) (v0_25 : Int) (x0_26 : Int) : Option (((List Int) × Int) ⊕ Unit) :=
 loopX (fun (x : Int) => wire_Starts.s0 v0_1 v0_2 v0_24 v0_25 x) x0_26
noncomputable def wire_Starts.e0 : Ent where
 pre := []
 inv := [(1, .val (.slice (.pair (.int .i64) (.int .i64)))), (2, .rp (.pair (.int .i64) (.int .i64))), (24, .val (.slice (.pair (.int .i64) (.int .i64)))), (25, .val (.int .i64))]
 car := ⟨[(26, .val (.int .i64))], []⟩
 exits := [(.ret, ⟨[(4, .val (.slice (.int .i64))), (5, .val (.int .i64))], []⟩), (.exit 0, ⟨[], []⟩)]
 step := fun iv x => wire_Starts.s0 iv.1 iv.2.1 iv.2.2.1 iv.2.2.2 x
noncomputable def wire_Starts.s1 (v1_2 : (Int × Int)) (v1_59 : (List (Int × Int))) (v1_60 : Int) (x1_10 : Int) (x1_11 : Int) (x1_61 : Int) (o1_0 : (List Int)) : Option ((Int × (Int × (Int × (List Int)))) ⊕ (Int × (List Int))) :=
 (cb (decide (x1_61 < v1_60)) (ck (0 ≤ x1_61 ∧ x1_61 < ((List.length v1_59 : Nat) : Int)) (let y23 : (Int × Int) := (rd ((0 : Int), (0 : Int)) v1_59 x1_61); (ck (InR (y23.1 - x1_10)) (let y24 : Int := (max (y23.1 - x1_10) (0 : Int)); (ck (InR (y23.2 - x1_11)) (cb (decide ((0 : Int) < (y23.2 - x1_11))) (ck (InR ((y23.2 - x1_11) + v1_2.1)) (let y25 : Int := ((y23.2 - x1_11) + v1_2.1); (ck (InR (y25 - (1 : Int))) (ck (0 ≤ (y25 - (1 : Int)) ∧ 0 < v1_2.1 ∧ (y25 - (1 : Int)) ≤ 9223372036854775807) (let y26 : Int := ((y25 - (1 : Int)) / v1_2.1); (ck (InR ((max y24 y26) * v1_2.1)) (ck (InR (x1_11 + ((max y24 y26) * v1_2.1))) (let y27 : Int := (x1_11 + ((max y24 y26) * v1_2.1)); (ck (InR ((min v1_2.2 y27) - y23.2)) (let y28 : Int := ((min v1_2.2 y27) - y23.2); (ck (InR (x1_10 + (max y24 y26))) (ck ((List.length o1_0 + List.length ([(x1_10 + (max y24 y26))] : List Int)) * 8 ≤ 140737488355328) (ck (InR (x1_61 + (1 : Int))) (some (.inl ((x1_10 + (max y24 y26)), y28, (x1_61 + (1 : Int)), (o1_0 ++ ([(x1_10 + (max y24 y26))] : List Int)))))))))))))))))) (ck (InR (y24 * v1_2.1)) (ck (InR (x1_11 + (y24 * v1_2.1))) (let y29 : Int := (min v1_2.2 (x1_11 + (y24 * v1_2.1))); (ck (InR (y29 - y23.2)) (ck (InR (x1_10 + y24)) (ck ((List.length o1_0 + List.length ([(x1_10 + y24)] : List Int)) * 8 ≤ 140737488355328) (ck (InR (x1_61 + (1 : Int))) (some (.inl ((x1_10 + y24), (y29 - y23.2), (x1_61 + (1 : Int)), (o1_0 ++ ([(x1_10 + y24)] : List Int)))))))))))))))))) (some (.inr (x1_10, o1_0))))
noncomputable def wire_Starts.l1 (v1_2 : (Int × Int)) (v1_59 : (List (Int × Int))) (v1_60 : Int) (x1_10 : Int) (x1_11 : Int) (x1_61 : Int) (o1_0 : (List Int)) : Option (Int × (List Int)) :=
 loopX (fun (x : (Int × (Int × (Int × (List Int))))) => wire_Starts.s1 v1_2 v1_59 v1_60 x.1 x.2.1 x.2.2.1 x.2.2.2) (x1_10, x1_11, x1_61, o1_0)
noncomputable def wire_Starts.e1 : Ent where
 pre := [.nil 9 3 (.int .i64)]
 inv := [(2, .rp (.pair (.int .i64) (.int .i64))), (59, .val (.slice (.pair (.int .i64) (.int .i64)))), (60, .val (.int .i64))]
 car := ⟨[(9, .own 0 1), (10, .val (.int .i64)), (11, .val (.int .i64)), (61, .val (.int .i64))], [.row 3 (.int .i64)]⟩
 exits := [(.exit 2, ⟨[(9, .own 0 1), (10, .val (.int .i64))], [.row 3 (.int .i64)]⟩)]
 step := fun iv x => wire_Starts.s1 iv.1 iv.2.1 iv.2.2 x.1 x.2.1 x.2.2.1 x.2.2.2
noncomputable def wire_Starts.f (a0 : (Int × Int)) (a1 : (List (Int × Int))) : Option ((List Int) × Int) :=
 (ob (wire_CheckQuota.f a0) fun r1 => (cb (!decide (r1 = (0 : Int))) (some (([] : List Int), r1)) (let y2 : Int := ((List.length a1 : Nat) : Int); (cb (decide ((2000 : Int) < y2)) (some (([] : List Int), (2 : Int))) (let y3 : Int := ((List.length a1 : Nat) : Int); (ob (wire_Starts.l0 a1 a0 a1 y3 (0 : Int)) fun r12 => (caseS r12 (fun a13 => (some (a13.1, a13.2))) (fun b14 => (let y15 : Int := ((List.length a1 : Nat) : Int); (ob (wire_Starts.l1 a0 a1 y15 (0 : Int) a0.2 (0 : Int) ([] : List Int)) fun r30 => (cb (decide ((1000000000 : Int) < r30.1)) (some (([] : List Int), (1 : Int))) (some (r30.2, (0 : Int))))))))))))))
noncomputable def wire_Starts.fn : TFn := ⟨[(.pair (.int .i64) (.int .i64)), (.slice (.pair (.int .i64) (.int .i64)))], [(.slice (.int .i64)), (.int .i64)], fun x => wire_Starts.f x.1 x.2⟩
noncomputable def wire_Starts.C : Cx := ⟨T, TYt, lkF [(58, wire_within.fn), (91, wire_CheckQuota.fn)], lkO [], lkD [(11, 11, [(0, true), (1, true), (2, true), (3, true), (4, true), (5, true), (6, true), (7, true), (8, true), (9, true), (10, true)], none), (15, 3, [(0, true), (1, true), (2, true)], none)], [2, 8, 13], [], false, [], 109⟩
theorem wire_Starts.hC : CxOK Tryd.prog wire_Starts.C := ⟨tabOK, FsOK.cons wire_within.ok (FsOK.cons wire_CheckQuota.ok (FsOK.nil)), OsOK.nil, mixed, (fun t h => by cases h), (fun t e h => by cases h)⟩
noncomputable def wire_Starts.root : Code := bodyOf Tryd.f59
theorem wire_Starts.h0 : LsOK Tryd.prog wire_Starts.C wire_Starts.root (lkL [([0, 1, 0, 1, 1, 1], wire_Starts.e0)]) :=
 LsOK.cons wire_Starts.hC (LsOK.nil) (by kernel_rfl) (fun iv x => by kernel_rfl)
theorem wire_Starts.h1 : LsOK Tryd.prog wire_Starts.C wire_Starts.root (lkL [([0, 1, 0, 1, 1, 1, 1, 1, 1], wire_Starts.e1), ([0, 1, 0, 1, 1, 1], wire_Starts.e0)]) :=
 LsOK.cons wire_Starts.hC (wire_Starts.h0) (by kernel_rfl) (fun iv x => by kernel_rfl)
theorem wire_Starts.ok : FnOK Tryd.prog 59 wire_Starts.fn :=
 FnOK.of (L := lkL [([0, 1, 0, 1, 1, 1, 1, 1, 1], wire_Starts.e1), ([0, 1, 0, 1, 1, 1], wire_Starts.e0)]) (root := wire_Starts.root) wire_Starts.hC (enters_of (c := wire_Starts.root) Tryd.func59 (by kernel_rfl) (by kernel_rfl)) Tryd.func59 (by kernel_rfl) (rs := [.tmp 4, .tmp 5]) (by kernel_rfl) (by kernel_rfl) wire_Starts.h1 (fun x => by kernel_rfl)
noncomputable def law8_awake.f : Option Bool :=
 (ob (wire_Starts.f ((2 : Int), (10 : Int)) ([((0 : Int), (8 : Int)), ((0 : Int), (8 : Int))] : List (Int × Int))) fun r1 => (cb (decide (r1.2 = (0 : Int))) (let y2 : Int := ((List.length r1.1 : Nat) : Int); (cb (decide (y2 = (2 : Int))) (ck (0 ≤ (0 : Int) ∧ (0 : Int) < ((List.length r1.1 : Nat) : Int)) (let y3 : Int := (rd (0 : Int) r1.1 (0 : Int)); (cb (decide (y3 = (0 : Int))) (ck (0 ≤ (1 : Int) ∧ (1 : Int) < ((List.length r1.1 : Nat) : Int)) (let y4 : Int := (rd (0 : Int) r1.1 (1 : Int)); (some (decide (y4 = (3 : Int)))))) (some false)))) (some false))) (some false)))
noncomputable def law8_awake.fn : TFn := ⟨[], [.bool], fun x => law8_awake.f⟩
noncomputable def law8_awake.C : Cx := ⟨T, TYt, lkF [(59, wire_Starts.fn)], lkO [], lkD [], [], [], false, [], 30⟩
theorem law8_awake.hC : CxOK Tryd.prog law8_awake.C := ⟨tabOK, FsOK.cons wire_Starts.ok (FsOK.nil), OsOK.nil, mixed, (fun t h => by cases h), (fun t e h => by cases h)⟩
noncomputable def law8_awake.root : Code := bodyOf Tryd.f17
theorem law8_awake.ok : FnOK Tryd.prog 17 law8_awake.fn :=
 FnOK.of (L := lkL []) (root := law8_awake.root) law8_awake.hC (enters_of (c := law8_awake.root) Tryd.func17 (by kernel_rfl) (by kernel_rfl)) Tryd.func17 (by kernel_rfl) (rs := [.tmp 0]) (by kernel_rfl) (by kernel_rfl) LsOK.nil (fun x => by kernel_rfl)
noncomputable def law8_WireMessagesMatchSpec.f (a0 : ByteArray) (a1 : (List UInt8)) (a2 : Int) (a3 : Int) : Option Bool :=
 (ob (slices_Clone_byte_byte.f a1) fun r1 => (ob (wire_Messages.f a0 a1 a2 a3) fun r2 => (ob (ref8_Messages.f a0 r1 a2 a3) fun r3 => (cb (decide (r2.2 = r3.2)) (ob (ref8_SameMessages.f r2.1 r3.1) fun r4 => (cb r4 (ob (slices_Equal_byte_byte.f a1 r1) fun r5 => (cb r5 (ob (law8_awake.f) fun r6 => (some r6)) (some false))) (some false))) (some false)))))
noncomputable def law8_WireMessagesMatchSpec.fn : TFn := ⟨[.str, (.slice .byte), (.int .i64), (.int .i64)], [.bool], fun x => law8_WireMessagesMatchSpec.f x.1 x.2.1 x.2.2.1 x.2.2.2⟩
noncomputable def law8_WireMessagesMatchSpec.C : Cx := ⟨T, TYt, lkF [(17, law8_awake.fn), (18, slices_Clone_byte_byte.fn), (19, wire_Messages.fn), (20, ref8_Messages.fn), (21, ref8_SameMessages.fn), (22, slices_Equal_byte_byte.fn)], lkO [], lkD [], [], [], false, [], 48⟩
theorem law8_WireMessagesMatchSpec.hC : CxOK Tryd.prog law8_WireMessagesMatchSpec.C := ⟨tabOK, FsOK.cons law8_awake.ok (FsOK.cons slices_Clone_byte_byte.ok (FsOK.cons wire_Messages.ok (FsOK.cons ref8_Messages.ok (FsOK.cons ref8_SameMessages.ok (FsOK.cons slices_Equal_byte_byte.ok (FsOK.nil)))))), OsOK.nil, mixed, (fun t h => by cases h), (fun t e h => by cases h)⟩
noncomputable def law8_WireMessagesMatchSpec.root : Code := bodyOf Tryd.f4
theorem law8_WireMessagesMatchSpec.ok : FnOK Tryd.prog 4 law8_WireMessagesMatchSpec.fn :=
 FnOK.of (L := lkL []) (root := law8_WireMessagesMatchSpec.root) law8_WireMessagesMatchSpec.hC (enters_of (c := law8_WireMessagesMatchSpec.root) Tryd.func4 (by kernel_rfl) (by kernel_rfl)) Tryd.func4 (by kernel_rfl) (rs := [.tmp 8]) (by kernel_rfl) (by kernel_rfl) LsOK.nil (fun x => by kernel_rfl)
end Go.Proofs.YtpeiomhgaembaaaDoor
