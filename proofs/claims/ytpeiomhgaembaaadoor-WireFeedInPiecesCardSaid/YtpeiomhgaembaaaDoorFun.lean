/-
  What the program's functions that the laws of this seat reach compute, as plain functions: printed by a program, each checked by the kernel. No condition.
-/
import Derived.Test.YtpeiomhgaembaaaDoorTypes
set_option linter.unusedVariables false
set_option maxRecDepth 100000
namespace Go.Proofs.YtpeiomhgaembaaaDoor
open Go Go.Proofs.YtpeiomhgaembaaaDoor.Eng
def bs_ : ByteArray := ⟨#[]⟩
def bs_48_49_50_51_52_53_54_55_56_57_97_98_99_100_101_102 : ByteArray := ⟨#[48, 49, 50, 51, 52, 53, 54, 55, 56, 57, 97, 98, 99, 100, 101, 102]⟩
noncomputable def slices_Clone_byte_byte.f (a0 : (List UInt8)) : Option (List UInt8) :=
 (nq (¬ a0 = ([] : List UInt8)) (ck ((List.length ([] : List UInt8) + List.length a0) * 1 ≤ 140737488355328) (some (([] : List UInt8) ++ a0))) (some ([] : List UInt8)))
noncomputable def slices_Clone_byte_byte.fn : TFn := ⟨[(.slice .byte)], [(.slice .byte)], fun x => slices_Clone_byte_byte.f x⟩
noncomputable def slices_Clone_byte_byte.C : Cx := ⟨T, TYt, lkF [], lkO [], lkD [], lkP [], [], [], false, [], 8⟩
theorem slices_Clone_byte_byte.hC : CxOK Tryd.prog slices_Clone_byte_byte.C := ⟨tabOK, FsOK.nil, OsOK.nil, mixed, (fun t h => by cases h), (fun t e h => by cases h)⟩
noncomputable def slices_Clone_byte_byte.root : Code := bodyOf Tryd.f18
theorem slices_Clone_byte_byte.ok : FnOK Tryd.prog 18 slices_Clone_byte_byte.fn :=
 FnOK.of (L := lkL []) (root := slices_Clone_byte_byte.root) slices_Clone_byte_byte.hC (enters_of (c := slices_Clone_byte_byte.root) Tryd.func18 (by kernel_rfl) (by kernel_rfl)) Tryd.func18 (by kernel_rfl) (rs := [.tmp 2]) (by kernel_rfl) (by kernel_rfl) LsOK.nil (fun x => by kernel_rfl)
noncomputable def blob_IsDigest.f (a0 : ByteArray) : Option Bool :=
 (let y1 : Int := ((ByteArray.size a0 : Nat) : Int); (cb (decide (y1 = (16 : Int))) (ob (strings_Trim.f a0 bs_48_49_50_51_52_53_54_55_56_57_97_98_99_100_101_102) fun r2 => (some (decide (r2 = bs_)))) (some false)))
noncomputable def blob_IsDigest.fn : TFn := ⟨[.str], [.bool], fun x => blob_IsDigest.f x⟩
noncomputable def blob_IsDigest.C : Cx := ⟨T, TYt, lkF [(92, strings_Trim.fn)], lkO [], lkD [], lkP [], [], [], false, [], 11⟩
theorem blob_IsDigest.hC : CxOK Tryd.prog blob_IsDigest.C := ⟨tabOK, FsOK.cons strings_Trim.ok (FsOK.nil), OsOK.nil, mixed, (fun t h => by cases h), (fun t e h => by cases h)⟩
noncomputable def blob_IsDigest.root : Code := bodyOf Tryd.f65
theorem blob_IsDigest.ok : FnOK Tryd.prog 65 blob_IsDigest.fn :=
 FnOK.of (L := lkL []) (root := blob_IsDigest.root) blob_IsDigest.hC (enters_of (c := blob_IsDigest.root) Tryd.func65 (by kernel_rfl) (by kernel_rfl)) Tryd.func65 (by kernel_rfl) (rs := [.tmp 2]) (by kernel_rfl) (by kernel_rfl) LsOK.nil (fun x => by kernel_rfl)
noncomputable def wire_checkContent.f (a0 : ByteArray) (a1 : (List UInt8)) : Option Int :=
 (ob (blob_IsDigest.f a0) fun r1 => (cb (!r1) (some (3 : Int)) (let y2 : Int := ((List.length a1 : Nat) : Int); (cb (decide ((100000 : Int) < y2)) (some (2 : Int)) (some (0 : Int))))))
noncomputable def wire_checkContent.fn : TFn := ⟨[.str, (.slice .byte)], [(.int .i64)], fun x => wire_checkContent.f x.1 x.2⟩
noncomputable def wire_checkContent.C : Cx := ⟨T, TYt, lkF [(65, blob_IsDigest.fn)], lkO [], lkD [], lkP [], [], [], false, [], 11⟩
theorem wire_checkContent.hC : CxOK Tryd.prog wire_checkContent.C := ⟨tabOK, FsOK.cons blob_IsDigest.ok (FsOK.nil), OsOK.nil, mixed, (fun t h => by cases h), (fun t e h => by cases h)⟩
noncomputable def wire_checkContent.root : Code := bodyOf Tryd.f60
theorem wire_checkContent.ok : FnOK Tryd.prog 60 wire_checkContent.fn :=
 FnOK.of (L := lkL []) (root := wire_checkContent.root) wire_checkContent.hC (enters_of (c := wire_checkContent.root) Tryd.func60 (by kernel_rfl) (by kernel_rfl)) Tryd.func60 (by kernel_rfl) (rs := [.tmp 4]) (by kernel_rfl) (by kernel_rfl) LsOK.nil (fun x => by kernel_rfl)
noncomputable def wire_within.f (a0 : Int) (a1 : Int) (a2 : Int) : Option Bool :=
 (cb (decide (a1 ≤ a0)) (some (decide (a0 ≤ a2))) (some false))
noncomputable def wire_within.fn : TFn := ⟨[(.int .i64), (.int .i64), (.int .i64)], [.bool], fun x => wire_within.f x.1 x.2.1 x.2.2⟩
noncomputable def wire_within.C : Cx := ⟨T, TYt, lkF [], lkO [], lkD [], lkP [], [], [], false, [], 15⟩
theorem wire_within.hC : CxOK Tryd.prog wire_within.C := ⟨tabOK, FsOK.nil, OsOK.nil, mixed, (fun t h => by cases h), (fun t e h => by cases h)⟩
noncomputable def wire_within.root : Code := bodyOf Tryd.f58
theorem wire_within.ok : FnOK Tryd.prog 58 wire_within.fn :=
 FnOK.of (L := lkL []) (root := wire_within.root) wire_within.hC (enters_of (c := wire_within.root) Tryd.func58 (by kernel_rfl) (by kernel_rfl)) Tryd.func58 (by kernel_rfl) (rs := [.tmp 6]) (by kernel_rfl) (by kernel_rfl) LsOK.nil (fun x => by kernel_rfl)
noncomputable def wire_dataFrom.f (a0 : ByteArray) (a1 : (List UInt8)) (a2 : Int) (a3 : Int) : Option (Int × (ByteArray × (Int × (Int × (List UInt8))))) :=
 (ck (InR (a2 + a3)) (let y1 : Int := ((List.length a1 : Nat) : Int); (ck (0 ≤ a2 ∧ a2 ≤ (min (a2 + a3) y1) ∧ (min (a2 + a3) y1) ≤ ((List.length a1 : Nat) : Int)) (let y2 : (List UInt8) := (List.drop (Int.toNat a2) (List.take (Int.toNat (min (a2 + a3) y1)) a1)); (ob (slices_Clone_byte_byte.f y2) fun r3 => (some ((2 : Int), (a0, (a2, ((0 : Int), r3))))))))))
noncomputable def wire_dataFrom.fn : TFn := ⟨[.str, (.slice .byte), (.int .i64), (.int .i64)], [(.pair (.int .i64) (.pair .str (.pair (.int .i64) (.pair (.int .i64) (.slice .byte)))))], fun x => wire_dataFrom.f x.1 x.2.1 x.2.2.1 x.2.2.2⟩
noncomputable def wire_dataFrom.C : Cx := ⟨T, TYt, lkF [(18, slices_Clone_byte_byte.fn)], lkO [], lkD [], lkP [], [], [], false, [], 22⟩
theorem wire_dataFrom.hC : CxOK Tryd.prog wire_dataFrom.C := ⟨tabOK, FsOK.cons slices_Clone_byte_byte.ok (FsOK.nil), OsOK.nil, mixed, (fun t h => by cases h), (fun t e h => by cases h)⟩
noncomputable def wire_dataFrom.root : Code := bodyOf Tryd.f61
theorem wire_dataFrom.ok : FnOK Tryd.prog 61 wire_dataFrom.fn :=
 FnOK.of (L := lkL []) (root := wire_dataFrom.root) wire_dataFrom.hC (enters_of (c := wire_dataFrom.root) Tryd.func61 (by kernel_rfl) (by kernel_rfl)) Tryd.func61 (by kernel_rfl) (rs := [.cell 8 63]) (by kernel_rfl) (by kernel_rfl) LsOK.nil (fun x => by kernel_rfl)
noncomputable def wire_Messages.s0 (v0_0 : ByteArray) (v0_1 : (List UInt8)) (v0_3 : Int) (x0_2 : Int) (o0_0 : (List (Int × (ByteArray × (Int × (Int × (List UInt8))))))) : Option ((Int × (List (Int × (ByteArray × (Int × (Int × (List UInt8))))))) ⊕ (List (Int × (ByteArray × (Int × (Int × (List UInt8))))))) :=
 (let y8 : Int := ((List.length v0_1 : Nat) : Int); (cb (decide (x0_2 < y8)) (ob (wire_dataFrom.f v0_0 v0_1 x0_2 v0_3) fun r9 => (ck ((List.length o0_0 + List.length ([r9] : List (Int × (ByteArray × (Int × (Int × (List UInt8))))))) * 64 ≤ 140737488355328) (ck (InR (x0_2 + v0_3)) (some (.inl ((x0_2 + v0_3), (o0_0 ++ ([r9] : List (Int × (ByteArray × (Int × (Int × (List UInt8))))))))))))) (some (.inr o0_0))))
noncomputable def wire_Messages.l0 (v0_0 : ByteArray) (v0_1 : (List UInt8)) (v0_3 : Int) (x0_2 : Int) (o0_0 : (List (Int × (ByteArray × (Int × (Int × (List UInt8))))))) : Option (List (Int × (ByteArray × (Int × (Int × (List UInt8)))))) :=
 loopX (fun (x : (Int × (List (Int × (ByteArray × (Int × (Int × (List UInt8)))))))) => wire_Messages.s0 v0_0 v0_1 v0_3 x.1 x.2) (x0_2, o0_0)
noncomputable def wire_Messages.e0 : Ent where
 pre := []
 inv := [(0, .val .str), (1, .val (.slice .byte)), (3, .val (.int .i64))]
 car := ⟨[(2, .val (.int .i64)), (11, .own 0 5)], [.row 63 (.pair (.int .i64) (.pair .str (.pair (.int .i64) (.pair (.int .i64) (.slice .byte)))))]⟩
 exits := [(.exit 0, ⟨[(11, .own 0 5)], [.row 63 (.pair (.int .i64) (.pair .str (.pair (.int .i64) (.pair (.int .i64) (.slice .byte)))))]⟩)]
 step := fun iv x => wire_Messages.s0 iv.1 iv.2.1 iv.2.2 x.1 x.2
noncomputable def wire_Messages.f (a0 : ByteArray) (a1 : (List UInt8)) (a2 : Int) (a3 : Int) : Option ((List (Int × (ByteArray × (Int × (Int × (List UInt8)))))) × Int) :=
 (ob (wire_checkContent.f a0 a1) fun r1 => (cb (!decide (r1 = (0 : Int))) (some (([] : List (Int × (ByteArray × (Int × (Int × (List UInt8)))))), r1)) (let y2 : Int := ((List.length a1 : Nat) : Int); (ob (wire_within.f a2 (0 : Int) y2) fun r3 => (cb (!r3) (some (([] : List (Int × (ByteArray × (Int × (Int × (List UInt8)))))), (1 : Int))) (ob (wire_within.f a3 (1 : Int) (65536 : Int)) fun r4 => (cb (!r4) (some (([] : List (Int × (ByteArray × (Int × (Int × (List UInt8)))))), (1 : Int))) (let y5 : Int := ((List.length a1 : Nat) : Int); (ob (wire_Messages.l0 a0 a1 a3 a2 ([((1 : Int), (a0, ((0 : Int), (y5, ([] : List UInt8)))))] : List (Int × (ByteArray × (Int × (Int × (List UInt8))))))) fun r10 => (some (r10, (0 : Int))))))))))))
noncomputable def wire_Messages.fn : TFn := ⟨[.str, (.slice .byte), (.int .i64), (.int .i64)], [(.slice (.pair (.int .i64) (.pair .str (.pair (.int .i64) (.pair (.int .i64) (.slice .byte)))))), (.int .i64)], fun x => wire_Messages.f x.1 x.2.1 x.2.2.1 x.2.2.2⟩
noncomputable def wire_Messages.C : Cx := ⟨T, TYt, lkF [(58, wire_within.fn), (60, wire_checkContent.fn), (61, wire_dataFrom.fn)], lkO [], lkD [], lkP [], [], [], false, [], 49⟩
theorem wire_Messages.hC : CxOK Tryd.prog wire_Messages.C := ⟨tabOK, FsOK.cons wire_within.ok (FsOK.cons wire_checkContent.ok (FsOK.cons wire_dataFrom.ok (FsOK.nil))), OsOK.nil, mixed, (fun t h => by cases h), (fun t e h => by cases h)⟩
noncomputable def wire_Messages.root : Code := bodyOf Tryd.f19
theorem wire_Messages.h0 : LsOK Tryd.prog wire_Messages.C wire_Messages.root (lkL [([0, 0, 1, 1, 1, 1], wire_Messages.e0)]) :=
 LsOK.cons wire_Messages.hC (LsOK.nil) (by kernel_rfl) (fun iv x => by kernel_rfl)
theorem wire_Messages.ok : FnOK Tryd.prog 19 wire_Messages.fn :=
 FnOK.of (L := lkL [([0, 0, 1, 1, 1, 1], wire_Messages.e0)]) (root := wire_Messages.root) wire_Messages.hC (enters_of (c := wire_Messages.root) Tryd.func19 (by kernel_rfl) (by kernel_rfl)) Tryd.func19 (by kernel_rfl) (rs := [.tmp 8, .tmp 9]) (by kernel_rfl) (by kernel_rfl) wire_Messages.h0 (fun x => by kernel_rfl)
noncomputable def ref8_isDigest.f (a0 : ByteArray) : Option Bool :=
 (let y1 : Int := ((ByteArray.size a0 : Nat) : Int); (cb (decide (y1 = (16 : Int))) (ob (strings_Trim.f a0 bs_48_49_50_51_52_53_54_55_56_57_97_98_99_100_101_102) fun r2 => (some (decide (r2 = bs_)))) (some false)))
noncomputable def ref8_isDigest.fn : TFn := ⟨[.str], [.bool], fun x => ref8_isDigest.f x⟩
noncomputable def ref8_isDigest.C : Cx := ⟨T, TYt, lkF [(92, strings_Trim.fn)], lkO [], lkD [], lkP [], [], [], false, [], 11⟩
theorem ref8_isDigest.hC : CxOK Tryd.prog ref8_isDigest.C := ⟨tabOK, FsOK.cons strings_Trim.ok (FsOK.nil), OsOK.nil, mixed, (fun t h => by cases h), (fun t e h => by cases h)⟩
noncomputable def ref8_isDigest.root : Code := bodyOf Tryd.f62
theorem ref8_isDigest.ok : FnOK Tryd.prog 62 ref8_isDigest.fn :=
 FnOK.of (L := lkL []) (root := ref8_isDigest.root) ref8_isDigest.hC (enters_of (c := ref8_isDigest.root) Tryd.func62 (by kernel_rfl) (by kernel_rfl)) Tryd.func62 (by kernel_rfl) (rs := [.tmp 2]) (by kernel_rfl) (by kernel_rfl) LsOK.nil (fun x => by kernel_rfl)
noncomputable def ref8_within.f (a0 : Int) (a1 : Int) (a2 : Int) : Option Bool :=
 (cb (decide (a1 ≤ a0)) (some (decide (a0 ≤ a2))) (some false))
noncomputable def ref8_within.fn : TFn := ⟨[(.int .i64), (.int .i64), (.int .i64)], [.bool], fun x => ref8_within.f x.1 x.2.1 x.2.2⟩
noncomputable def ref8_within.C : Cx := ⟨T, TYt, lkF [], lkO [], lkD [], lkP [], [], [], false, [], 15⟩
theorem ref8_within.hC : CxOK Tryd.prog ref8_within.C := ⟨tabOK, FsOK.nil, OsOK.nil, mixed, (fun t h => by cases h), (fun t e h => by cases h)⟩
noncomputable def ref8_within.root : Code := bodyOf Tryd.f63
theorem ref8_within.ok : FnOK Tryd.prog 63 ref8_within.fn :=
 FnOK.of (L := lkL []) (root := ref8_within.root) ref8_within.hC (enters_of (c := ref8_within.root) Tryd.func63 (by kernel_rfl) (by kernel_rfl)) Tryd.func63 (by kernel_rfl) (rs := [.tmp 6]) (by kernel_rfl) (by kernel_rfl) LsOK.nil (fun x => by kernel_rfl)
noncomputable def ref8_messages.s0 (v0_0 : ByteArray) (v0_1 : (List UInt8)) (v0_3 : Int) (x0_10 : Int) (o0_0 : (List (Int × (ByteArray × (Int × (Int × (List UInt8))))))) : Option ((Int × (List (Int × (ByteArray × (Int × (Int × (List UInt8))))))) ⊕ (List (Int × (ByteArray × (Int × (Int × (List UInt8))))))) :=
 (let y6 : Int := ((List.length v0_1 : Nat) : Int); (cb (decide (x0_10 < y6)) (ck (InR (x0_10 + v0_3)) (let y7 : Int := ((List.length v0_1 : Nat) : Int); (ck (0 ≤ x0_10 ∧ x0_10 ≤ (min (x0_10 + v0_3) y7) ∧ (min (x0_10 + v0_3) y7) ≤ ((List.length v0_1 : Nat) : Int)) (let y8 : (List UInt8) := (List.drop (Int.toNat x0_10) (List.take (Int.toNat (min (x0_10 + v0_3) y7)) v0_1)); (ob (slices_Clone_byte_byte.f y8) fun r9 => (ck ((List.length o0_0 + List.length ([((2 : Int), (v0_0, (x0_10, ((0 : Int), r9))))] : List (Int × (ByteArray × (Int × (Int × (List UInt8))))))) * 64 ≤ 140737488355328) (ck (InR (x0_10 + v0_3)) (some (.inl ((x0_10 + v0_3), (o0_0 ++ ([((2 : Int), (v0_0, (x0_10, ((0 : Int), r9))))] : List (Int × (ByteArray × (Int × (Int × (List UInt8))))))))))))))))) (some (.inr o0_0))))
noncomputable def ref8_messages.l0 (v0_0 : ByteArray) (v0_1 : (List UInt8)) (v0_3 : Int) (x0_10 : Int) (o0_0 : (List (Int × (ByteArray × (Int × (Int × (List UInt8))))))) : Option (List (Int × (ByteArray × (Int × (Int × (List UInt8)))))) :=
 loopX (fun (x : (Int × (List (Int × (ByteArray × (Int × (Int × (List UInt8)))))))) => ref8_messages.s0 v0_0 v0_1 v0_3 x.1 x.2) (x0_10, o0_0)
noncomputable def ref8_messages.e0 : Ent where
 pre := []
 inv := [(0, .val .str), (1, .val (.slice .byte)), (3, .val (.int .i64))]
 car := ⟨[(9, .own 0 5), (10, .val (.int .i64))], [.row 63 (.pair (.int .i64) (.pair .str (.pair (.int .i64) (.pair (.int .i64) (.slice .byte)))))]⟩
 exits := [(.exit 0, ⟨[(9, .own 0 5)], [.row 63 (.pair (.int .i64) (.pair .str (.pair (.int .i64) (.pair (.int .i64) (.slice .byte)))))]⟩)]
 step := fun iv x => ref8_messages.s0 iv.1 iv.2.1 iv.2.2 x.1 x.2
noncomputable def ref8_messages.f (a0 : ByteArray) (a1 : (List UInt8)) (a2 : Int) (a3 : Int) : Option (List (Int × (ByteArray × (Int × (Int × (List UInt8)))))) :=
 (let y1 : Int := ((List.length a1 : Nat) : Int); (ob (ref8_messages.l0 a0 a1 a3 a2 ([((1 : Int), (a0, ((0 : Int), (y1, ([] : List UInt8)))))] : List (Int × (ByteArray × (Int × (Int × (List UInt8))))))) fun r10 => (some r10)))
noncomputable def ref8_messages.fn : TFn := ⟨[.str, (.slice .byte), (.int .i64), (.int .i64)], [(.slice (.pair (.int .i64) (.pair .str (.pair (.int .i64) (.pair (.int .i64) (.slice .byte))))))], fun x => ref8_messages.f x.1 x.2.1 x.2.2.1 x.2.2.2⟩
noncomputable def ref8_messages.C : Cx := ⟨T, TYt, lkF [(18, slices_Clone_byte_byte.fn)], lkO [], lkD [], lkP [], [], [], false, [], 41⟩
theorem ref8_messages.hC : CxOK Tryd.prog ref8_messages.C := ⟨tabOK, FsOK.cons slices_Clone_byte_byte.ok (FsOK.nil), OsOK.nil, mixed, (fun t h => by cases h), (fun t e h => by cases h)⟩
noncomputable def ref8_messages.root : Code := bodyOf Tryd.f64
theorem ref8_messages.h0 : LsOK Tryd.prog ref8_messages.C ref8_messages.root (lkL [([0, 1, 0, 1, 1], ref8_messages.e0)]) :=
 LsOK.cons ref8_messages.hC (LsOK.nil) (by kernel_rfl) (fun iv x => by kernel_rfl)
theorem ref8_messages.ok : FnOK Tryd.prog 64 ref8_messages.fn :=
 FnOK.of (L := lkL [([0, 1, 0, 1, 1], ref8_messages.e0)]) (root := ref8_messages.root) ref8_messages.hC (enters_of (c := ref8_messages.root) Tryd.func64 (by kernel_rfl) (by kernel_rfl)) Tryd.func64 (by kernel_rfl) (rs := [.tmp 8]) (by kernel_rfl) (by kernel_rfl) ref8_messages.h0 (fun x => by kernel_rfl)
noncomputable def ref8_Messages.f (a0 : ByteArray) (a1 : (List UInt8)) (a2 : Int) (a3 : Int) : Option ((List (Int × (ByteArray × (Int × (Int × (List UInt8)))))) × Int) :=
 (ob (ref8_isDigest.f a0) fun r1 => (cb (!r1) (some (([] : List (Int × (ByteArray × (Int × (Int × (List UInt8)))))), (3 : Int))) (let y2 : Int := ((List.length a1 : Nat) : Int); (cb (decide ((100000 : Int) < y2)) (some (([] : List (Int × (ByteArray × (Int × (Int × (List UInt8)))))), (2 : Int))) (let y3 : Int := ((List.length a1 : Nat) : Int); (ob (ref8_within.f a2 (0 : Int) y3) fun r4 => (cb (!r4) (some (([] : List (Int × (ByteArray × (Int × (Int × (List UInt8)))))), (1 : Int))) (ob (ref8_within.f a3 (1 : Int) (65536 : Int)) fun r5 => (cb (!r5) (some (([] : List (Int × (ByteArray × (Int × (Int × (List UInt8)))))), (1 : Int))) (ob (ref8_messages.f a0 a1 a2 a3) fun r6 => (some (r6, (0 : Int)))))))))))))
noncomputable def ref8_Messages.fn : TFn := ⟨[.str, (.slice .byte), (.int .i64), (.int .i64)], [(.slice (.pair (.int .i64) (.pair .str (.pair (.int .i64) (.pair (.int .i64) (.slice .byte)))))), (.int .i64)], fun x => ref8_Messages.f x.1 x.2.1 x.2.2.1 x.2.2.2⟩
noncomputable def ref8_Messages.C : Cx := ⟨T, TYt, lkF [(62, ref8_isDigest.fn), (63, ref8_within.fn), (64, ref8_messages.fn)], lkO [], lkD [], lkP [], [], [], false, [], 34⟩
theorem ref8_Messages.hC : CxOK Tryd.prog ref8_Messages.C := ⟨tabOK, FsOK.cons ref8_isDigest.ok (FsOK.cons ref8_within.ok (FsOK.cons ref8_messages.ok (FsOK.nil))), OsOK.nil, mixed, (fun t h => by cases h), (fun t e h => by cases h)⟩
noncomputable def ref8_Messages.root : Code := bodyOf Tryd.f20
theorem ref8_Messages.ok : FnOK Tryd.prog 20 ref8_Messages.fn :=
 FnOK.of (L := lkL []) (root := ref8_Messages.root) ref8_Messages.hC (enters_of (c := ref8_Messages.root) Tryd.func20 (by kernel_rfl) (by kernel_rfl)) Tryd.func20 (by kernel_rfl) (rs := [.tmp 8, .tmp 9]) (by kernel_rfl) (by kernel_rfl) LsOK.nil (fun x => by kernel_rfl)
noncomputable def slices_Equal_byte_byte.s0 (v0_0 : (List UInt8)) (v0_1 : (List UInt8)) (v0_12 : Int) (x0_13 : Int) : Option (Int ⊕ (Bool ⊕ Unit)) :=
 (cb (decide (x0_13 < v0_12)) (ck (0 ≤ x0_13 ∧ x0_13 < ((List.length v0_0 : Nat) : Int)) (let y6 : UInt8 := (rd (0 : UInt8) v0_0 x0_13); (ck (0 ≤ x0_13 ∧ x0_13 < ((List.length v0_1 : Nat) : Int)) (let y7 : UInt8 := (rd (0 : UInt8) v0_1 x0_13); (cb (!decide (((UInt8.toNat y6 : Nat) : Int) = ((UInt8.toNat y7 : Nat) : Int))) (some (.inr (.inl false))) (ck (InR (x0_13 + (1 : Int))) (some (.inl (x0_13 + (1 : Int)))))))))) (some (.inr (.inr ()))))
noncomputable def slices_Equal_byte_byte.l0 (v0_0 : (List UInt8)) (v0_1 : (List UInt8)) (v0_12 : Int) (x0_13 : Int) : Option (Bool ⊕ Unit) :=
 loopX (fun (x : Int) => slices_Equal_byte_byte.s0 v0_0 v0_1 v0_12 x) x0_13
noncomputable def slices_Equal_byte_byte.e0 : Ent where
 pre := []
 inv := [(0, .val (.slice .byte)), (1, .val (.slice .byte)), (12, .val (.int .i64))]
 car := ⟨[(13, .val (.int .i64))], []⟩
 exits := [(.ret, ⟨[(4, .val .bool)], []⟩), (.exit 0, ⟨[], []⟩)]
 step := fun iv x => slices_Equal_byte_byte.s0 iv.1 iv.2.1 iv.2.2 x
noncomputable def slices_Equal_byte_byte.f (a0 : (List UInt8)) (a1 : (List UInt8)) : Option Bool :=
 (let y1 : Int := ((List.length a0 : Nat) : Int); (let y2 : Int := ((List.length a1 : Nat) : Int); (cb (!decide (y1 = y2)) (some false) (let y3 : Int := ((List.length a0 : Nat) : Int); (ob (slices_Equal_byte_byte.l0 a0 a1 y3 (0 : Int)) fun r8 => (caseS r8 (fun a9 => (some a9)) (fun b10 => (some true))))))))
noncomputable def slices_Equal_byte_byte.fn : TFn := ⟨[(.slice .byte), (.slice .byte)], [.bool], fun x => slices_Equal_byte_byte.f x.1 x.2⟩
noncomputable def slices_Equal_byte_byte.C : Cx := ⟨T, TYt, lkF [], lkO [], lkD [(6, 8, [(0, true), (1, true), (2, true), (3, true), (4, true), (5, true), (6, true), (7, true)], none)], lkP [], [], [], false, [], 26⟩
theorem slices_Equal_byte_byte.hC : CxOK Tryd.prog slices_Equal_byte_byte.C := ⟨tabOK, FsOK.nil, OsOK.nil, mixed, (fun t h => by cases h), (fun t e h => by cases h)⟩
noncomputable def slices_Equal_byte_byte.root : Code := bodyOf Tryd.f22
theorem slices_Equal_byte_byte.h0 : LsOK Tryd.prog slices_Equal_byte_byte.C slices_Equal_byte_byte.root (lkL [([0, 1, 0, 1, 1], slices_Equal_byte_byte.e0)]) :=
 LsOK.cons slices_Equal_byte_byte.hC (LsOK.nil) (by kernel_rfl) (fun iv x => by kernel_rfl)
theorem slices_Equal_byte_byte.ok : FnOK Tryd.prog 22 slices_Equal_byte_byte.fn :=
 FnOK.of (L := lkL [([0, 1, 0, 1, 1], slices_Equal_byte_byte.e0)]) (root := slices_Equal_byte_byte.root) slices_Equal_byte_byte.hC (enters_of (c := slices_Equal_byte_byte.root) Tryd.func22 (by kernel_rfl) (by kernel_rfl)) Tryd.func22 (by kernel_rfl) (rs := [.tmp 4]) (by kernel_rfl) (by kernel_rfl) slices_Equal_byte_byte.h0 (fun x => by kernel_rfl)
noncomputable def ref8_SameMessage.f (a0 : (Int × (ByteArray × (Int × (Int × (List UInt8)))))) (a1 : (Int × (ByteArray × (Int × (Int × (List UInt8)))))) : Option Bool :=
 (cb (decide (a0.1 = a1.1)) (cb (decide (a0.2.1 = a1.2.1)) (cb (decide (a0.2.2.1 = a1.2.2.1)) (cb (decide (a0.2.2.2.1 = a1.2.2.2.1)) (ob (slices_Equal_byte_byte.f a0.2.2.2.2 a1.2.2.2.2) fun r1 => (some r1)) (some false)) (some false)) (some false)) (some false))
noncomputable def ref8_SameMessage.fn : TFn := ⟨[(.pair (.int .i64) (.pair .str (.pair (.int .i64) (.pair (.int .i64) (.slice .byte))))), (.pair (.int .i64) (.pair .str (.pair (.int .i64) (.pair (.int .i64) (.slice .byte)))))], [.bool], fun x => ref8_SameMessage.f x.1 x.2⟩
noncomputable def ref8_SameMessage.C : Cx := ⟨T, TYt, lkF [(22, slices_Equal_byte_byte.fn)], lkO [], lkD [], lkP [], [2, 3], [], false, [], 38⟩
theorem ref8_SameMessage.hC : CxOK Tryd.prog ref8_SameMessage.C := ⟨tabOK, FsOK.cons slices_Equal_byte_byte.ok (FsOK.nil), OsOK.nil, mixed, (fun t h => by cases h), (fun t e h => by cases h)⟩
noncomputable def ref8_SameMessage.root : Code := bodyOf Tryd.f41
theorem ref8_SameMessage.ok : FnOK Tryd.prog 41 ref8_SameMessage.fn :=
 FnOK.of (L := lkL []) (root := ref8_SameMessage.root) ref8_SameMessage.hC (enters_of (c := ref8_SameMessage.root) Tryd.func41 (by kernel_rfl) (by kernel_rfl)) Tryd.func41 (by kernel_rfl) (rs := [.tmp 4]) (by kernel_rfl) (by kernel_rfl) LsOK.nil (fun x => by kernel_rfl)
noncomputable def ref8_SameMessages.s0 (v0_0 : (List (Int × (ByteArray × (Int × (Int × (List UInt8))))))) (v0_1 : (List (Int × (ByteArray × (Int × (Int × (List UInt8))))))) (v0_12 : Int) (x0_13 : Int) : Option (Int ⊕ (Bool ⊕ Unit)) :=
 (cb (decide (x0_13 < v0_12)) (ck (0 ≤ x0_13 ∧ x0_13 < ((List.length v0_0 : Nat) : Int)) (let y7 : (Int × (ByteArray × (Int × (Int × (List UInt8))))) := (rd ((0 : Int), (ByteArray.empty, ((0 : Int), ((0 : Int), ([] : (List UInt8)))))) v0_0 x0_13); (ck (0 ≤ x0_13 ∧ x0_13 < ((List.length v0_1 : Nat) : Int)) (let y8 : (Int × (ByteArray × (Int × (Int × (List UInt8))))) := (rd ((0 : Int), (ByteArray.empty, ((0 : Int), ((0 : Int), ([] : (List UInt8)))))) v0_1 x0_13); (ob (ref8_SameMessage.f y7 y8) fun r9 => (cb (!r9) (some (.inr (.inl false))) (ck (InR (x0_13 + (1 : Int))) (some (.inl (x0_13 + (1 : Int))))))))))) (some (.inr (.inr ()))))
noncomputable def ref8_SameMessages.l0 (v0_0 : (List (Int × (ByteArray × (Int × (Int × (List UInt8))))))) (v0_1 : (List (Int × (ByteArray × (Int × (Int × (List UInt8))))))) (v0_12 : Int) (x0_13 : Int) : Option (Bool ⊕ Unit) :=
 loopX (fun (x : Int) => ref8_SameMessages.s0 v0_0 v0_1 v0_12 x) x0_13
noncomputable def ref8_SameMessages.e0 : Ent where
 pre := []
 inv := [(0, .val (.slice (.pair (.int .i64) (.pair .str (.pair (.int .i64) (.pair (.int .i64) (.slice .byte))))))), (1, .val (.slice (.pair (.int .i64) (.pair .str (.pair (.int .i64) (.pair (.int .i64) (.slice .byte))))))), (12, .val (.int .i64))]
 car := ⟨[(13, .val (.int .i64))], []⟩
 exits := [(.ret, ⟨[(4, .val .bool)], []⟩), (.exit 0, ⟨[], []⟩)]
 step := fun iv x => ref8_SameMessages.s0 iv.1 iv.2.1 iv.2.2 x
noncomputable def ref8_SameMessages.f (a0 : (List (Int × (ByteArray × (Int × (Int × (List UInt8))))))) (a1 : (List (Int × (ByteArray × (Int × (Int × (List UInt8))))))) : Option Bool :=
 (let y1 : Int := ((List.length a0 : Nat) : Int); (let y2 : Int := ((List.length a1 : Nat) : Int); (cb (!decide (y1 = y2)) (some false) (let y3 : Int := ((List.length a0 : Nat) : Int); (ob (ref8_SameMessages.l0 a0 a1 y3 (0 : Int)) fun r10 => (caseS r10 (fun a11 => (some a11)) (fun b12 => (some true))))))))
noncomputable def ref8_SameMessages.fn : TFn := ⟨[(.slice (.pair (.int .i64) (.pair .str (.pair (.int .i64) (.pair (.int .i64) (.slice .byte)))))), (.slice (.pair (.int .i64) (.pair .str (.pair (.int .i64) (.pair (.int .i64) (.slice .byte))))))], [.bool], fun x => ref8_SameMessages.f x.1 x.2⟩
noncomputable def ref8_SameMessages.C : Cx := ⟨T, TYt, lkF [(41, ref8_SameMessage.fn)], lkO [], lkD [(6, 8, [(0, true), (1, true), (2, true), (3, true), (4, true), (5, true), (6, true), (7, true)], none)], lkP [], [], [], false, [], 27⟩
theorem ref8_SameMessages.hC : CxOK Tryd.prog ref8_SameMessages.C := ⟨tabOK, FsOK.cons ref8_SameMessage.ok (FsOK.nil), OsOK.nil, mixed, (fun t h => by cases h), (fun t e h => by cases h)⟩
noncomputable def ref8_SameMessages.root : Code := bodyOf Tryd.f21
theorem ref8_SameMessages.h0 : LsOK Tryd.prog ref8_SameMessages.C ref8_SameMessages.root (lkL [([0, 1, 0, 1, 1], ref8_SameMessages.e0)]) :=
 LsOK.cons ref8_SameMessages.hC (LsOK.nil) (by kernel_rfl) (fun iv x => by kernel_rfl)
theorem ref8_SameMessages.ok : FnOK Tryd.prog 21 ref8_SameMessages.fn :=
 FnOK.of (L := lkL [([0, 1, 0, 1, 1], ref8_SameMessages.e0)]) (root := ref8_SameMessages.root) ref8_SameMessages.hC (enters_of (c := ref8_SameMessages.root) Tryd.func21 (by kernel_rfl) (by kernel_rfl)) Tryd.func21 (by kernel_rfl) (rs := [.tmp 4]) (by kernel_rfl) (by kernel_rfl) ref8_SameMessages.h0 (fun x => by kernel_rfl)
noncomputable def wire_CheckQuota.f (a0 : (Int × Int)) : Option Int :=
 (ob (wire_within.f a0.1 (1 : Int) (1000000000 : Int)) fun r1 => (cb (!r1) (some (1 : Int)) (ob (wire_within.f a0.2 (1 : Int) (1000000000 : Int)) fun r2 => (cb (!r2) (some (1 : Int)) (some (0 : Int))))))
noncomputable def wire_CheckQuota.fn : TFn := ⟨[(.pair (.int .i64) (.int .i64))], [(.int .i64)], fun x => wire_CheckQuota.f x⟩
noncomputable def wire_CheckQuota.C : Cx := ⟨T, TYt, lkF [(58, wire_within.fn)], lkO [], lkD [], lkP [], [1], [], false, [], 13⟩
theorem wire_CheckQuota.hC : CxOK Tryd.prog wire_CheckQuota.C := ⟨tabOK, FsOK.cons wire_within.ok (FsOK.nil), OsOK.nil, mixed, (fun t h => by cases h), (fun t e h => by cases h)⟩
noncomputable def wire_CheckQuota.root : Code := bodyOf Tryd.f91
theorem wire_CheckQuota.ok : FnOK Tryd.prog 91 wire_CheckQuota.fn :=
 FnOK.of (L := lkL []) (root := wire_CheckQuota.root) wire_CheckQuota.hC (enters_of (c := wire_CheckQuota.root) Tryd.func91 (by kernel_rfl) (by kernel_rfl)) Tryd.func91 (by kernel_rfl) (rs := [.tmp 2]) (by kernel_rfl) (by kernel_rfl) LsOK.nil (fun x => by kernel_rfl)
noncomputable def wire_Starts.s0 (v0_1 : (List (Int × Int))) (v0_2 : (Int × Int)) (v0_24 : (List (Int × Int))) (v0_25 : Int) (x0_26 : Int) : Option (Int ⊕ (((List Int) × Int) ⊕ Unit)) :=
 (cb (decide (x0_26 < v0_25)) (ck (0 ≤ x0_26 ∧ x0_26 < ((List.length v0_24 : Nat) : Int)) (let y8 : (Int × Int) := (rd ((0 : Int), (0 : Int)) v0_24 x0_26); (ob (wire_within.f y8.1 (0 : Int) (1000000000 : Int)) fun r9 => (cb (!r9) (some (.inr (.inl (([] : List Int), (1 : Int))))) (ob (wire_within.f y8.2 (0 : Int) v0_2.2) fun r10 => (cb (!r10) (some (.inr (.inl (([] : List Int), (1 : Int))))) (cb (decide ((0 : Int) < x0_26)) (ck (InR (x0_26 - (1 : Int))) (ck (0 ≤ (x0_26 - (1 : Int)) ∧ (x0_26 - (1 : Int)) < ((List.length v0_1 : Nat) : Int)) (let y11 : Int := (rd ((0 : Int), (0 : Int)) v0_1 (x0_26 - (1 : Int))).1; (cb (decide (y8.1 < y11)) (some (.inr (.inl (([] : List Int), (8 : Int))))) (ck (InR (x0_26 + (1 : Int))) (some (.inl (x0_26 + (1 : Int))))))))) (ck (InR (x0_26 + (1 : Int))) (some (.inl (x0_26 + (1 : Int)))))))))))) (some (.inr (.inr ()))))
noncomputable def wire_Starts.l0 (v0_1 : (List (Int × Int))) (v0_2 : (Int × Int)) (v0_24 : (List (Int × Int))) (v0_25 : Int) (x0_26 : Int) : Option (((List Int) × Int) ⊕ Unit) :=
 loopX (fun (x : Int) => wire_Starts.s0 v0_1 v0_2 v0_24 v0_25 x) x0_26
noncomputable def wire_Starts.e0 : Ent where
 pre := []
 inv := [(1, .val (.slice (.pair (.int .i64) (.int .i64)))), (2, .rp (.pair (.int .i64) (.int .i64))), (24, .val (.slice (.pair (.int .i64) (.int .i64)))), (25, .val (.int .i64))]
 car := ⟨[(26, .val (.int .i64))], []⟩
 exits := [(.ret, ⟨[(4, .val (.slice (.int .i64))), (5, .val (.int .i64))], []⟩), (.exit 0, ⟨[], []⟩)]
 step := fun iv x => wire_Starts.s0 iv.1 iv.2.1 iv.2.2.1 iv.2.2.2 x
noncomputable def wire_Starts.s1 (v1_2 : (Int × Int)) (v1_59 : (List (Int × Int))) (v1_60 : Int) (x1_10 : Int) (x1_11 : Int) (x1_61 : Int) (o1_0 : (List Int)) : Option ((Int × (Int × (Int × (List Int)))) ⊕ (Int × (List Int))) :=
 (cb (decide (x1_61 < v1_60)) (ck (0 ≤ x1_61 ∧ x1_61 < ((List.length v1_59 : Nat) : Int)) (let y23 : (Int × Int) := (rd ((0 : Int), (0 : Int)) v1_59 x1_61); (ck (InR (y23.1 - x1_10)) (let y24 : Int := (max (y23.1 - x1_10) (0 : Int)); (ck (InR (y23.2 - x1_11)) (cb (decide ((0 : Int) < (y23.2 - x1_11))) (ck (InR ((y23.2 - x1_11) + v1_2.1)) (let y25 : Int := ((y23.2 - x1_11) + v1_2.1); (ck (InR (y25 - (1 : Int))) (ck (0 ≤ (y25 - (1 : Int)) ∧ 0 < v1_2.1 ∧ (y25 - (1 : Int)) ≤ 9223372036854775807) (let y26 : Int := ((y25 - (1 : Int)) / v1_2.1); (ck (InR ((max y24 y26) * v1_2.1)) (ck (InR (x1_11 + ((max y24 y26) * v1_2.1))) (let y27 : Int := (x1_11 + ((max y24 y26) * v1_2.1)); (ck (InR ((min v1_2.2 y27) - y23.2)) (let y28 : Int := ((min v1_2.2 y27) - y23.2); (ck (InR (x1_10 + (max y24 y26))) (ck ((List.length o1_0 + List.length ([(x1_10 + (max y24 y26))] : List Int)) * 8 ≤ 140737488355328) (ck (InR (x1_61 + (1 : Int))) (some (.inl ((x1_10 + (max y24 y26)), y28, (x1_61 + (1 : Int)), (o1_0 ++ ([(x1_10 + (max y24 y26))] : List Int)))))))))))))))))) (ck (InR (y24 * v1_2.1)) (ck (InR (x1_11 + (y24 * v1_2.1))) (let y29 : Int := (min v1_2.2 (x1_11 + (y24 * v1_2.1))); (ck (InR (y29 - y23.2)) (ck (InR (x1_10 + y24)) (ck ((List.length o1_0 + List.length ([(x1_10 + y24)] : List Int)) * 8 ≤ 140737488355328) (ck (InR (x1_61 + (1 : Int))) (some (.inl ((x1_10 + y24), (y29 - y23.2), (x1_61 + (1 : Int)), (o1_0 ++ ([(x1_10 + y24)] : List Int)))))))))))))))))) (some (.inr (x1_10, o1_0))))
noncomputable def wire_Starts.l1 (v1_2 : (Int × Int)) (v1_59 : (List (Int × Int))) (v1_60 : Int) (x1_10 : Int) (x1_11 : Int) (x1_61 : Int) (o1_0 : (List Int)) : Option (Int × (List Int)) :=
 loopX (fun (x : (Int × (Int × (Int × (List Int))))) => wire_Starts.s1 v1_2 v1_59 v1_60 x.1 x.2.1 x.2.2.1 x.2.2.2) (x1_10, x1_11, x1_61, o1_0)
noncomputable def wire_Starts.e1 : Ent where
 pre := [.nil 9 3 (.int .i64)]
 inv := [(2, .rp (.pair (.int .i64) (.int .i64))), (59, .val (.slice (.pair (.int .i64) (.int .i64)))), (60, .val (.int .i64))]
 car := ⟨[(9, .own 0 1), (10, .val (.int .i64)), (11, .val (.int .i64)), (61, .val (.int .i64))], [.row 3 (.int .i64)]⟩
 exits := [(.exit 2, ⟨[(9, .own 0 1), (10, .val (.int .i64))], [.row 3 (.int .i64)]⟩)]
 step := fun iv x => wire_Starts.s1 iv.1 iv.2.1 iv.2.2 x.1 x.2.1 x.2.2.1 x.2.2.2
noncomputable def wire_Starts.f (a0 : (Int × Int)) (a1 : (List (Int × Int))) : Option ((List Int) × Int) :=
 (ob (wire_CheckQuota.f a0) fun r1 => (cb (!decide (r1 = (0 : Int))) (some (([] : List Int), r1)) (let y2 : Int := ((List.length a1 : Nat) : Int); (cb (decide ((2000 : Int) < y2)) (some (([] : List Int), (2 : Int))) (let y3 : Int := ((List.length a1 : Nat) : Int); (ob (wire_Starts.l0 a1 a0 a1 y3 (0 : Int)) fun r12 => (caseS r12 (fun a13 => (some (a13.1, a13.2))) (fun b14 => (let y15 : Int := ((List.length a1 : Nat) : Int); (ob (wire_Starts.l1 a0 a1 y15 (0 : Int) a0.2 (0 : Int) ([] : List Int)) fun r30 => (cb (decide ((1000000000 : Int) < r30.1)) (some (([] : List Int), (1 : Int))) (some (r30.2, (0 : Int))))))))))))))
noncomputable def wire_Starts.fn : TFn := ⟨[(.pair (.int .i64) (.int .i64)), (.slice (.pair (.int .i64) (.int .i64)))], [(.slice (.int .i64)), (.int .i64)], fun x => wire_Starts.f x.1 x.2⟩
noncomputable def wire_Starts.C : Cx := ⟨T, TYt, lkF [(58, wire_within.fn), (91, wire_CheckQuota.fn)], lkO [], lkD [(11, 11, [(0, true), (1, true), (2, true), (3, true), (4, true), (5, true), (6, true), (7, true), (8, true), (9, true), (10, true)], none), (15, 3, [(0, true), (1, true), (2, true)], none)], lkP [], [2, 8, 13], [], false, [], 109⟩
theorem wire_Starts.hC : CxOK Tryd.prog wire_Starts.C := ⟨tabOK, FsOK.cons wire_within.ok (FsOK.cons wire_CheckQuota.ok (FsOK.nil)), OsOK.nil, mixed, (fun t h => by cases h), (fun t e h => by cases h)⟩
noncomputable def wire_Starts.root : Code := bodyOf Tryd.f59
theorem wire_Starts.h0 : LsOK Tryd.prog wire_Starts.C wire_Starts.root (lkL [([0, 1, 0, 1, 1, 1], wire_Starts.e0)]) :=
 LsOK.cons wire_Starts.hC (LsOK.nil) (by kernel_rfl) (fun iv x => by kernel_rfl)
theorem wire_Starts.h1 : LsOK Tryd.prog wire_Starts.C wire_Starts.root (lkL [([0, 1, 0, 1, 1, 1, 1, 1, 1], wire_Starts.e1), ([0, 1, 0, 1, 1, 1], wire_Starts.e0)]) :=
 LsOK.cons wire_Starts.hC (wire_Starts.h0) (by kernel_rfl) (fun iv x => by kernel_rfl)
theorem wire_Starts.ok : FnOK Tryd.prog 59 wire_Starts.fn :=
 FnOK.of (L := lkL [([0, 1, 0, 1, 1, 1, 1, 1, 1], wire_Starts.e1), ([0, 1, 0, 1, 1, 1], wire_Starts.e0)]) (root := wire_Starts.root) wire_Starts.hC (enters_of (c := wire_Starts.root) Tryd.func59 (by kernel_rfl) (by kernel_rfl)) Tryd.func59 (by kernel_rfl) (rs := [.tmp 4, .tmp 5]) (by kernel_rfl) (by kernel_rfl) wire_Starts.h1 (fun x => by kernel_rfl)
noncomputable def law8_awake.f : Option Bool :=
 (ob (wire_Starts.f ((2 : Int), (10 : Int)) ([((0 : Int), (8 : Int)), ((0 : Int), (8 : Int))] : List (Int × Int))) fun r1 => (cb (decide (r1.2 = (0 : Int))) (let y2 : Int := ((List.length r1.1 : Nat) : Int); (cb (decide (y2 = (2 : Int))) (ck (0 ≤ (0 : Int) ∧ (0 : Int) < ((List.length r1.1 : Nat) : Int)) (let y3 : Int := (rd (0 : Int) r1.1 (0 : Int)); (cb (decide (y3 = (0 : Int))) (ck (0 ≤ (1 : Int) ∧ (1 : Int) < ((List.length r1.1 : Nat) : Int)) (let y4 : Int := (rd (0 : Int) r1.1 (1 : Int)); (some (decide (y4 = (3 : Int)))))) (some false)))) (some false))) (some false)))
noncomputable def law8_awake.fn : TFn := ⟨[], [.bool], fun x => law8_awake.f⟩
noncomputable def law8_awake.C : Cx := ⟨T, TYt, lkF [(59, wire_Starts.fn)], lkO [], lkD [], lkP [], [], [], false, [], 30⟩
theorem law8_awake.hC : CxOK Tryd.prog law8_awake.C := ⟨tabOK, FsOK.cons wire_Starts.ok (FsOK.nil), OsOK.nil, mixed, (fun t h => by cases h), (fun t e h => by cases h)⟩
noncomputable def law8_awake.root : Code := bodyOf Tryd.f17
theorem law8_awake.ok : FnOK Tryd.prog 17 law8_awake.fn :=
 FnOK.of (L := lkL []) (root := law8_awake.root) law8_awake.hC (enters_of (c := law8_awake.root) Tryd.func17 (by kernel_rfl) (by kernel_rfl)) Tryd.func17 (by kernel_rfl) (rs := [.tmp 0]) (by kernel_rfl) (by kernel_rfl) LsOK.nil (fun x => by kernel_rfl)
noncomputable def law8_WireMessagesMatchSpec.f (a0 : ByteArray) (a1 : (List UInt8)) (a2 : Int) (a3 : Int) : Option Bool :=
 (ob (slices_Clone_byte_byte.f a1) fun r1 => (ob (wire_Messages.f a0 a1 a2 a3) fun r2 => (ob (ref8_Messages.f a0 r1 a2 a3) fun r3 => (cb (decide (r2.2 = r3.2)) (ob (ref8_SameMessages.f r2.1 r3.1) fun r4 => (cb r4 (ob (slices_Equal_byte_byte.f a1 r1) fun r5 => (cb r5 (ob (law8_awake.f) fun r6 => (some r6)) (some false))) (some false))) (some false)))))
noncomputable def law8_WireMessagesMatchSpec.fn : TFn := ⟨[.str, (.slice .byte), (.int .i64), (.int .i64)], [.bool], fun x => law8_WireMessagesMatchSpec.f x.1 x.2.1 x.2.2.1 x.2.2.2⟩
noncomputable def law8_WireMessagesMatchSpec.C : Cx := ⟨T, TYt, lkF [(17, law8_awake.fn), (18, slices_Clone_byte_byte.fn), (19, wire_Messages.fn), (20, ref8_Messages.fn), (21, ref8_SameMessages.fn), (22, slices_Equal_byte_byte.fn)], lkO [], lkD [], lkP [], [], [], false, [], 48⟩
theorem law8_WireMessagesMatchSpec.hC : CxOK Tryd.prog law8_WireMessagesMatchSpec.C := ⟨tabOK, FsOK.cons law8_awake.ok (FsOK.cons slices_Clone_byte_byte.ok (FsOK.cons wire_Messages.ok (FsOK.cons ref8_Messages.ok (FsOK.cons ref8_SameMessages.ok (FsOK.cons slices_Equal_byte_byte.ok (FsOK.nil)))))), OsOK.nil, mixed, (fun t h => by cases h), (fun t e h => by cases h)⟩
noncomputable def law8_WireMessagesMatchSpec.root : Code := bodyOf Tryd.f4
theorem law8_WireMessagesMatchSpec.ok : FnOK Tryd.prog 4 law8_WireMessagesMatchSpec.fn :=
 FnOK.of (L := lkL []) (root := law8_WireMessagesMatchSpec.root) law8_WireMessagesMatchSpec.hC (enters_of (c := law8_WireMessagesMatchSpec.root) Tryd.func4 (by kernel_rfl) (by kernel_rfl)) Tryd.func4 (by kernel_rfl) (rs := [.tmp 8]) (by kernel_rfl) (by kernel_rfl) LsOK.nil (fun x => by kernel_rfl)
noncomputable def slices_Grow_byte_byte.f (a0 : (List UInt8)) (a1 : Int) : Option (List UInt8) :=
 (cb (decide (a1 < (0 : Int))) none none)
noncomputable def slices_Grow_byte_byte.fn : TFn := ⟨[(.slice .byte), (.int .i64)], [(.slice .byte)], fun x => slices_Grow_byte_byte.f x.1 x.2⟩
noncomputable def slices_Grow_byte_byte.C : Cx := ⟨T, TYt, lkF [], lkO [], lkD [], lkP [], [], [], false, [], 27⟩
theorem slices_Grow_byte_byte.hC : CxOK Tryd.prog slices_Grow_byte_byte.C := ⟨tabOK, FsOK.nil, OsOK.nil, mixed, (fun t h => by cases h), (fun t e h => by cases h)⟩
noncomputable def slices_Grow_byte_byte.root : Code := bodyOf Tryd.f94
theorem slices_Grow_byte_byte.ok : FnOK Tryd.prog 94 slices_Grow_byte_byte.fn :=
 FnOK.of (L := lkL []) (root := slices_Grow_byte_byte.root) slices_Grow_byte_byte.hC (enters_of (c := slices_Grow_byte_byte.root) Tryd.func94 (by kernel_rfl) (by kernel_rfl)) Tryd.func94 (by kernel_rfl) (rs := [.tmp 4]) (by kernel_rfl) (by kernel_rfl) LsOK.nil (fun x => by kernel_rfl)
noncomputable def slices_Grow_byte_byte_n0.f (a0 : Unit) (a1 : Int) : Option (List UInt8) :=
 (cb (decide (a1 < (0 : Int))) none (ck (InR ((0 : Int) - (0 : Int))) (ck (InR (a1 - ((0 : Int) - (0 : Int)))) (let y1 : Int := (a1 - ((0 : Int) - (0 : Int))); (cb (decide ((0 : Int) < y1)) (ck (0 ≤ (0 : Int) ∧ (0 : Int) ≤ 0) (ck (0 < y1 ∧ y1 * (1 : Int) ≤ 140737488355328) (ck (0 ≤ (0 : Int) ∧ (0 : Int) ≤ ((List.length (List.replicate (Int.toNat y1) (0 : UInt8)) : Nat) : Int)) (some (List.take (Int.toNat (0 : Int)) (List.drop 0 (List.replicate (Int.toNat y1) (0 : UInt8)))))))) (some ([] : List UInt8)))))))
noncomputable def slices_Grow_byte_byte_n0.fn : TFn := ⟨[.nilS, (.int .i64)], [(.slice .byte)], fun x => slices_Grow_byte_byte_n0.f x.1 x.2⟩
noncomputable def slices_Grow_byte_byte_n0.C : Cx := ⟨T, TYt, lkF [], lkO [], lkD [], lkP [], [], [], false, [], 27⟩
theorem slices_Grow_byte_byte_n0.hC : CxOK Tryd.prog slices_Grow_byte_byte_n0.C := ⟨tabOK, FsOK.nil, OsOK.nil, mixed, (fun t h => by cases h), (fun t e h => by cases h)⟩
noncomputable def slices_Grow_byte_byte_n0.root : Code := bodyOf Tryd.f94
theorem slices_Grow_byte_byte_n0.ok : FnOK Tryd.prog 94 slices_Grow_byte_byte_n0.fn :=
 FnOK.of (L := lkL []) (root := slices_Grow_byte_byte_n0.root) slices_Grow_byte_byte_n0.hC (enters_of (c := slices_Grow_byte_byte_n0.root) Tryd.func94 (by kernel_rfl) (by kernel_rfl)) Tryd.func94 (by kernel_rfl) (rs := [.tmp 4]) (by kernel_rfl) (by kernel_rfl) LsOK.nil (fun x => by kernel_rfl)
noncomputable def slices_Grow_byte_byte_n0_o.f (a0 : Unit) (a1 : Int) : Option (List UInt8) :=
 (cb (decide (a1 < (0 : Int))) none (ck (InR ((0 : Int) - (0 : Int))) (ck (InR (a1 - ((0 : Int) - (0 : Int)))) (let y1 : Int := (a1 - ((0 : Int) - (0 : Int))); (cb (decide ((0 : Int) < y1)) (ck (0 ≤ (0 : Int) ∧ (0 : Int) ≤ 0) (ck (0 < y1 ∧ y1 * (1 : Int) ≤ 140737488355328) (ck (0 ≤ (0 : Int) ∧ (0 : Int) ≤ ((List.length (List.replicate (Int.toNat y1) (0 : UInt8)) : Nat) : Int)) (ck ((Int.toNat (0 : Int)) ≤ List.length (List.replicate (Int.toNat y1) (0 : UInt8))) (some (List.take (Int.toNat (0 : Int)) (List.replicate (Int.toNat y1) (0 : UInt8)))))))) (some ([] : List UInt8)))))))
noncomputable def slices_Grow_byte_byte_n0_o.fn : TFo := ⟨[.nilS, (.int .i64)], [(.slice .byte)], [some 5], fun x => slices_Grow_byte_byte_n0_o.f x.1 x.2⟩
noncomputable def slices_Grow_byte_byte_n0_o.C : Cx := ⟨T, TYt, lkF [], lkO [], lkD [], lkP [], [], [], false, [], 27⟩
theorem slices_Grow_byte_byte_n0_o.hC : CxOK Tryd.prog slices_Grow_byte_byte_n0_o.C := ⟨tabOK, FsOK.nil, OsOK.nil, mixed, (fun t h => by cases h), (fun t e h => by cases h)⟩
noncomputable def slices_Grow_byte_byte_n0_o.root : Code := bodyOf Tryd.f94
theorem slices_Grow_byte_byte_n0_o.ok : FnOKo Tryd.prog 94 slices_Grow_byte_byte_n0_o.fn :=
 FnOKo.of (L := lkL []) (root := slices_Grow_byte_byte_n0_o.root) slices_Grow_byte_byte_n0_o.hC (enters_of (c := slices_Grow_byte_byte_n0_o.root) Tryd.func94 (by kernel_rfl) (by kernel_rfl)) Tryd.func94 (by kernel_rfl) (rs := [.tmp 4]) (by kernel_rfl) (by kernel_rfl) LsOK.nil (fun x => by kernel_rfl)
noncomputable def slices_Concat_byte_byte.s0 (v0_9 : (List (List UInt8))) (v0_10 : Int) (x0_3 : Int) (x0_11 : Int) : Option ((Int × Int) ⊕ Int) :=
 (cb (decide (x0_11 < v0_10)) (ck (0 ≤ x0_11 ∧ x0_11 < ((List.length v0_9 : Nat) : Int)) (let y4 : (List UInt8) := (rd ([] : (List UInt8)) v0_9 x0_11); (let y5 : Int := ((List.length y4 : Nat) : Int); (ck (InR (x0_3 + y5)) (cb (decide ((x0_3 + y5) < (0 : Int))) none (ck (InR (x0_11 + (1 : Int))) (some (.inl ((x0_3 + y5), (x0_11 + (1 : Int))))))))))) (some (.inr x0_3)))
noncomputable def slices_Concat_byte_byte.l0 (v0_9 : (List (List UInt8))) (v0_10 : Int) (x0_3 : Int) (x0_11 : Int) : Option Int :=
 loopX (fun (x : (Int × Int)) => slices_Concat_byte_byte.s0 v0_9 v0_10 x.1 x.2) (x0_3, x0_11)
noncomputable def slices_Concat_byte_byte.e0 : Ent where
 pre := []
 inv := [(0, .val (.slice (.slice .byte))), (9, .val (.slice (.slice .byte))), (10, .val (.int .i64))]
 car := ⟨[(3, .val (.int .i64)), (11, .val (.int .i64))], []⟩
 exits := [(.exit 0, ⟨[(3, .val (.int .i64))], []⟩)]
 step := fun iv x => slices_Concat_byte_byte.s0 iv.2.1 iv.2.2 x.1 x.2
noncomputable def slices_Concat_byte_byte.s1 (v1_25 : (List (List UInt8))) (v1_26 : Int) (x1_27 : Int) (o1_0 : (List UInt8)) : Option ((Int × (List UInt8)) ⊕ (List UInt8)) :=
 (cb (decide (x1_27 < v1_26)) (ck (0 ≤ x1_27 ∧ x1_27 < ((List.length v1_25 : Nat) : Int)) (let y10 : (List UInt8) := (rd ([] : (List UInt8)) v1_25 x1_27); (ck ((List.length o1_0 + List.length y10) * 1 ≤ 140737488355328) (ck (InR (x1_27 + (1 : Int))) (some (.inl ((x1_27 + (1 : Int)), (o1_0 ++ y10)))))))) (some (.inr o1_0)))
noncomputable def slices_Concat_byte_byte.l1 (v1_25 : (List (List UInt8))) (v1_26 : Int) (x1_27 : Int) (o1_0 : (List UInt8)) : Option (List UInt8) :=
 loopX (fun (x : (Int × (List UInt8))) => slices_Concat_byte_byte.s1 v1_25 v1_26 x.1 x.2) (x1_27, o1_0)
noncomputable def slices_Concat_byte_byte.e1 : Ent where
 pre := []
 inv := [(25, .val (.slice (.slice .byte))), (26, .val (.int .i64))]
 car := ⟨[(6, .own 0 1), (27, .val (.int .i64))], [.row 5 .byte]⟩
 exits := [(.exit 2, ⟨[(6, .own 0 1)], [.row 5 .byte]⟩)]
 step := fun iv x => slices_Concat_byte_byte.s1 iv.1 iv.2 x.1 x.2
noncomputable def slices_Concat_byte_byte.f (a0 : (List (List UInt8))) : Option (List UInt8) :=
 (let y1 : Int := ((List.length a0 : Nat) : Int); (ob (slices_Concat_byte_byte.l0 a0 y1 (0 : Int) (0 : Int)) fun r6 => (ob (slices_Grow_byte_byte_n0_o.f () r6) fun r7 => (let y8 : Int := ((List.length a0 : Nat) : Int); (ob (slices_Concat_byte_byte.l1 a0 y8 (0 : Int) r7) fun r11 => (some r11))))))
noncomputable def slices_Concat_byte_byte.fn : TFn := ⟨[(.slice (.slice .byte))], [(.slice .byte)], fun x => slices_Concat_byte_byte.f x⟩
noncomputable def slices_Concat_byte_byte.C : Cx := ⟨T, TYt, lkF [], lkO [(94, slices_Grow_byte_byte_n0_o.fn)], lkD [], lkP [], [], [], false, [], 36⟩
theorem slices_Concat_byte_byte.hC : CxOK Tryd.prog slices_Concat_byte_byte.C := ⟨tabOK, FsOK.nil, OsOK.cons slices_Grow_byte_byte_n0_o.ok (OsOK.nil), mixed, (fun t h => by cases h), (fun t e h => by cases h)⟩
noncomputable def slices_Concat_byte_byte.root : Code := bodyOf Tryd.f67
theorem slices_Concat_byte_byte.h0 : LsOK Tryd.prog slices_Concat_byte_byte.C slices_Concat_byte_byte.root (lkL [([0, 1, 0, 1, 1], slices_Concat_byte_byte.e0)]) :=
 LsOK.cons slices_Concat_byte_byte.hC (LsOK.nil) (by kernel_rfl) (fun iv x => by kernel_rfl)
theorem slices_Concat_byte_byte.h1 : LsOK Tryd.prog slices_Concat_byte_byte.C slices_Concat_byte_byte.root (lkL [([0, 1, 0, 1, 1, 1, 1], slices_Concat_byte_byte.e1), ([0, 1, 0, 1, 1], slices_Concat_byte_byte.e0)]) :=
 LsOK.cons slices_Concat_byte_byte.hC (slices_Concat_byte_byte.h0) (by kernel_rfl) (fun iv x => by kernel_rfl)
theorem slices_Concat_byte_byte.ok : FnOK Tryd.prog 67 slices_Concat_byte_byte.fn :=
 FnOK.of (L := lkL [([0, 1, 0, 1, 1, 1, 1], slices_Concat_byte_byte.e1), ([0, 1, 0, 1, 1], slices_Concat_byte_byte.e0)]) (root := slices_Concat_byte_byte.root) slices_Concat_byte_byte.hC (enters_of (c := slices_Concat_byte_byte.root) Tryd.func67 (by kernel_rfl) (by kernel_rfl)) Tryd.func67 (by kernel_rfl) (rs := [.tmp 2]) (by kernel_rfl) (by kernel_rfl) slices_Concat_byte_byte.h1 (fun x => by kernel_rfl)
noncomputable def wire_number.s0 (v0_6 : (List UInt8)) (v0_7 : Int) (x0_3 : Int) (x0_8 : Int) : Option ((Int × Int) ⊕ Int) :=
 (cb (decide (x0_8 < v0_7)) (ck (0 ≤ x0_8 ∧ x0_8 < ((List.length v0_6 : Nat) : Int)) (let y6 : UInt8 := (rd (0 : UInt8) v0_6 x0_8); (let y7 : Int := (IntKind.i64.wrap (x0_3 * 2 ^ min (Int.toNat (8 : Int)) (IntKind.bits .i64))); (let y8 : Int := ((UInt8.toNat y6 : Nat) : Int); (let y9 : Int := (IntKind.i64.wrap ((BitVec.toNat (BitVec.ofInt (IntKind.bits .i64) y7 ||| BitVec.ofInt (IntKind.bits .i64) y8) : Nat) : Int)); (ck (InR (x0_8 + (1 : Int))) (some (.inl (y9, (x0_8 + (1 : Int))))))))))) (some (.inr x0_3)))
noncomputable def wire_number.l0 (v0_6 : (List UInt8)) (v0_7 : Int) (x0_3 : Int) (x0_8 : Int) : Option Int :=
 loopX (fun (x : (Int × Int)) => wire_number.s0 v0_6 v0_7 x.1 x.2) (x0_3, x0_8)
noncomputable def wire_number.e0 : Ent where
 pre := []
 inv := [(6, .val (.slice .byte)), (7, .val (.int .i64))]
 car := ⟨[(3, .val (.int .i64)), (8, .val (.int .i64))], []⟩
 exits := [(.exit 0, ⟨[(3, .val (.int .i64))], []⟩)]
 step := fun iv x => wire_number.s0 iv.1 iv.2 x.1 x.2
noncomputable def wire_number.f (a0 : (List UInt8)) : Option Int :=
 (let y1 : Int := ((List.length a0 : Nat) : Int); (ob (wire_number.l0 a0 y1 (0 : Int) (0 : Int)) fun r10 => (some r10)))
noncomputable def wire_number.fn : TFn := ⟨[(.slice .byte)], [(.int .i64)], fun x => wire_number.f x⟩
noncomputable def wire_number.C : Cx := ⟨T, TYt, lkF [], lkO [], lkD [], lkP [], [], [], false, [], 19⟩
theorem wire_number.hC : CxOK Tryd.prog wire_number.C := ⟨tabOK, FsOK.nil, OsOK.nil, mixed, (fun t h => by cases h), (fun t e h => by cases h)⟩
noncomputable def wire_number.root : Code := bodyOf Tryd.f95
theorem wire_number.h0 : LsOK Tryd.prog wire_number.C wire_number.root (lkL [([0, 1, 0, 1, 1], wire_number.e0)]) :=
 LsOK.cons wire_number.hC (LsOK.nil) (by kernel_rfl) (fun iv x => by kernel_rfl)
theorem wire_number.ok : FnOK Tryd.prog 95 wire_number.fn :=
 FnOK.of (L := lkL [([0, 1, 0, 1, 1], wire_number.e0)]) (root := wire_number.root) wire_number.hC (enters_of (c := wire_number.root) Tryd.func95 (by kernel_rfl) (by kernel_rfl)) Tryd.func95 (by kernel_rfl) (rs := [.tmp 2]) (by kernel_rfl) (by kernel_rfl) wire_number.h0 (fun x => by kernel_rfl)
noncomputable def wire_head.f (a0 : (List UInt8)) : Option ((Int × (ByteArray × (Int × (Int × (List UInt8))))) × Int) :=
 (ck (0 ≤ (0 : Int) ∧ (0 : Int) < ((List.length a0 : Nat) : Int)) (let y1 : UInt8 := (rd (0 : UInt8) a0 (0 : Int)); (let y2 : Int := ((UInt8.toNat y1 : Nat) : Int); (ck (0 ≤ (1 : Int) ∧ (1 : Int) ≤ (17 : Int) ∧ (17 : Int) ≤ ((List.length a0 : Nat) : Int)) (let y3 : (List UInt8) := (List.drop (Int.toNat (1 : Int)) (List.take (Int.toNat (17 : Int)) a0)); (dup (ck (0 ≤ (17 : Int) ∧ (17 : Int) ≤ (21 : Int) ∧ (21 : Int) ≤ ((List.length a0 : Nat) : Int)) (let y4 : (List UInt8) := (List.drop (Int.toNat (17 : Int)) (List.take (Int.toNat (21 : Int)) a0)); (ob (wire_number.f y4) fun r5 => (cb (decide (y2 = (1 : Int))) (ck (0 ≤ (21 : Int) ∧ (21 : Int) ≤ (24 : Int) ∧ (24 : Int) ≤ ((List.length a0 : Nat) : Int)) (let y6 : (List UInt8) := (List.drop (Int.toNat (21 : Int)) (List.take (Int.toNat (24 : Int)) a0)); (ob (wire_number.f y6) fun r7 => (some ((y2, ((bstr y3), ((0 : Int), (r5, ([] : List UInt8))))), r7))))) (ck (0 ≤ (21 : Int) ∧ (21 : Int) ≤ (24 : Int) ∧ (24 : Int) ≤ ((List.length a0 : Nat) : Int)) (let y8 : (List UInt8) := (List.drop (Int.toNat (21 : Int)) (List.take (Int.toNat (24 : Int)) a0)); (ob (wire_number.f y8) fun r9 => (some ((y2, ((bstr y3), (r5, ((0 : Int), ([] : List UInt8))))), r9)))))))))))))))
noncomputable def wire_head.fn : TFn := ⟨[(.slice .byte)], [(.pair (.int .i64) (.pair .str (.pair (.int .i64) (.pair (.int .i64) (.slice .byte))))), (.int .i64)], fun x => wire_head.f x⟩
noncomputable def wire_head.C : Cx := ⟨T, TYt, lkF [(95, wire_number.fn)], lkO [], lkD [(1, 9, [(0, true), (1, true), (2, true), (3, true), (4, true), (5, true), (6, true)], some (7, [(8, false)], 8, [(7, false)])), (6, 4, [(0, true), (1, true), (2, true), (3, false)], none)], lkP [], [], [], false, [], 28⟩
theorem wire_head.hC : CxOK Tryd.prog wire_head.C := ⟨tabOK, FsOK.cons wire_number.ok (FsOK.nil), OsOK.nil, mixed, (fun t h => by cases h), (fun t e h => by cases h)⟩
noncomputable def wire_head.root : Code := bodyOf Tryd.f68
theorem wire_head.ok : FnOK Tryd.prog 68 wire_head.fn :=
 FnOK.of (L := lkL []) (root := wire_head.root) wire_head.hC (enters_of (c := wire_head.root) Tryd.func68 (by kernel_rfl) (by kernel_rfl)) Tryd.func68 (by kernel_rfl) (rs := [.cell 2 63, .tmp 3]) (by kernel_rfl) (by kernel_rfl) LsOK.nil (fun x => by kernel_rfl)
noncomputable def wire_checkMessage.f (a0 : (Int × (ByteArray × (Int × (Int × (List UInt8)))))) (a1 : Int) : Option Int :=
 (cb (decide (a0.1 = (2 : Int))) (ob (wire_within.f a0.1 (1 : Int) (6 : Int)) fun r1 => (cb (!r1) (some (4 : Int)) (ob (blob_IsDigest.f a0.2.1) fun r2 => (cb (!r2) (some (3 : Int)) (ob (wire_within.f a0.2.2.1 (0 : Int) (2000000 : Int)) fun r3 => (cb (!r3) (some (1 : Int)) (ob (wire_within.f a0.2.2.2.1 (0 : Int) (2000000 : Int)) fun r4 => (cb (!r4) (some (1 : Int)) (cb (decide ((65536 : Int) < a1)) (some (2 : Int)) (cb (!decide (a0.1 = (1 : Int))) (cb (!decide (a0.2.2.2.1 = (0 : Int))) (cb (!decide (a0.2.2.2.1 = (0 : Int))) (some (3 : Int)) (some (0 : Int))) (cb (!((decide (a0.1 = (2 : Int))) == (decide ((0 : Int) < a1)))) (some (3 : Int)) (some (0 : Int)))) (cb (!((decide (a0.1 = (2 : Int))) == (decide ((0 : Int) < a1)))) (some (3 : Int)) (some (0 : Int))))))))))))) (ob (wire_within.f a0.1 (1 : Int) (6 : Int)) fun r5 => (cb (!r5) (some (4 : Int)) (ob (blob_IsDigest.f a0.2.1) fun r6 => (cb (!r6) (some (3 : Int)) (ob (wire_within.f a0.2.2.1 (0 : Int) (2000000 : Int)) fun r7 => (cb (!r7) (some (1 : Int)) (ob (wire_within.f a0.2.2.2.1 (0 : Int) (2000000 : Int)) fun r8 => (cb (!r8) (some (1 : Int)) (cb (decide ((65536 : Int) < a1)) (some (2 : Int)) (cb (!(decide (a0.1 = (3 : Int)))) (cb (!decide (a0.2.2.1 = (0 : Int))) (cb (!decide (a0.2.2.1 = (0 : Int))) (some (3 : Int)) (some (0 : Int))) (cb (!decide (a0.1 = (1 : Int))) (cb (!decide (a0.2.2.2.1 = (0 : Int))) (cb (!decide (a0.2.2.2.1 = (0 : Int))) (some (3 : Int)) (some (0 : Int))) (cb (!((decide (a0.1 = (2 : Int))) == (decide ((0 : Int) < a1)))) (some (3 : Int)) (some (0 : Int)))) (cb (!((decide (a0.1 = (2 : Int))) == (decide ((0 : Int) < a1)))) (some (3 : Int)) (some (0 : Int))))) (cb (!decide (a0.1 = (1 : Int))) (cb (!decide (a0.2.2.2.1 = (0 : Int))) (cb (!decide (a0.2.2.2.1 = (0 : Int))) (some (3 : Int)) (some (0 : Int))) (cb (!((decide (a0.1 = (2 : Int))) == (decide ((0 : Int) < a1)))) (some (3 : Int)) (some (0 : Int)))) (cb (!((decide (a0.1 = (2 : Int))) == (decide ((0 : Int) < a1)))) (some (3 : Int)) (some (0 : Int)))))))))))))))
noncomputable def wire_checkMessage.fn : TFn := ⟨[(.pair (.int .i64) (.pair .str (.pair (.int .i64) (.pair (.int .i64) (.slice .byte))))), (.int .i64)], [(.int .i64)], fun x => wire_checkMessage.f x.1 x.2⟩
noncomputable def wire_checkMessage.C : Cx := ⟨T, TYt, lkF [(58, wire_within.fn), (65, blob_IsDigest.fn)], lkO [], lkD [], lkP [], [2], [], false, [], 62⟩
theorem wire_checkMessage.hC : CxOK Tryd.prog wire_checkMessage.C := ⟨tabOK, FsOK.cons wire_within.ok (FsOK.cons blob_IsDigest.ok (FsOK.nil)), OsOK.nil, mixed, (fun t h => by cases h), (fun t e h => by cases h)⟩
noncomputable def wire_checkMessage.root : Code := bodyOf Tryd.f69
theorem wire_checkMessage.ok : FnOK Tryd.prog 69 wire_checkMessage.fn :=
 FnOK.of (L := lkL []) (root := wire_checkMessage.root) wire_checkMessage.hC (enters_of (c := wire_checkMessage.root) Tryd.func69 (by kernel_rfl) (by kernel_rfl)) Tryd.func69 (by kernel_rfl) (rs := [.tmp 4]) (by kernel_rfl) (by kernel_rfl) LsOK.nil (fun x => by kernel_rfl)
noncomputable def wire_Feed.s0 (v0_8 : (List UInt8)) (x0_10 : Int) (o0_1 : (List (Int × (ByteArray × (Int × (Int × (List UInt8))))))) : Option ((Int × (List (Int × (ByteArray × (Int × (Int × (List UInt8))))))) ⊕ (((List (Int × (ByteArray × (Int × (Int × (List UInt8)))))) × ((List UInt8) × (Int × Int))) ⊕ (Int × (List (Int × (ByteArray × (Int × (Int × (List UInt8))))))))) :=
 (let y17 : Int := ((List.length v0_8 : Nat) : Int); (cb (decide (x0_10 < y17)) (let y18 : Int := ((List.length o0_1 : Nat) : Int); (cb (decide (y18 = (20000 : Int))) (some (.inr (.inl (([] : List (Int × (ByteArray × (Int × (Int × (List UInt8)))))), ([] : List UInt8), x0_10, (16 : Int))))) (ck (0 ≤ x0_10 ∧ x0_10 < ((List.length v0_8 : Nat) : Int)) (let y19 : UInt8 := (rd (0 : UInt8) v0_8 x0_10); (let y20 : Int := ((UInt8.toNat y19 : Nat) : Int); (ob (wire_within.f y20 (1 : Int) (6 : Int)) fun r21 => (cb (!r21) (some (.inr (.inl (([] : List (Int × (ByteArray × (Int × (Int × (List UInt8)))))), ([] : List UInt8), x0_10, (4 : Int))))) (let y22 : Int := ((List.length v0_8 : Nat) : Int); (ck (InR (y22 - x0_10)) (cb (decide ((y22 - x0_10) < (24 : Int))) (some (.inr (.inr (x0_10, o0_1)))) (ck (0 ≤ x0_10 ∧ x0_10 ≤ ((List.length v0_8 : Nat) : Int)) (let y23 : (List UInt8) := (List.drop (Int.toNat x0_10) v0_8); (ob (wire_head.f y23) fun r24 => (ob (wire_checkMessage.f r24.1 r24.2) fun r25 => (cb (!decide (r25 = (0 : Int))) (some (.inr (.inl (([] : List (Int × (ByteArray × (Int × (Int × (List UInt8)))))), ([] : List UInt8), x0_10, r25)))) (ck (InR (x0_10 + (24 : Int))) (ck (InR ((x0_10 + (24 : Int)) + r24.2)) (let y26 : Int := ((x0_10 + (24 : Int)) + r24.2); (let y27 : Int := ((List.length v0_8 : Nat) : Int); (cb (decide (y27 < y26)) (some (.inr (.inr (x0_10, o0_1)))) (cb (decide ((0 : Int) < r24.2)) (ck (InR (x0_10 + (24 : Int))) (ck (0 ≤ (x0_10 + (24 : Int)) ∧ (x0_10 + (24 : Int)) ≤ y26 ∧ y26 ≤ ((List.length v0_8 : Nat) : Int)) (let y28 : (List UInt8) := (List.drop (Int.toNat (x0_10 + (24 : Int))) (List.take (Int.toNat y26) v0_8)); (ob (slices_Clone_byte_byte.f y28) fun r29 => (ck ((List.length o0_1 + List.length ([(r24.1.1, (r24.1.2.1, (r24.1.2.2.1, (r24.1.2.2.2.1, r29))))] : List (Int × (ByteArray × (Int × (Int × (List UInt8))))))) * 64 ≤ 140737488355328) (some (.inl (y26, (o0_1 ++ ([(r24.1.1, (r24.1.2.1, (r24.1.2.2.1, (r24.1.2.2.2.1, r29))))] : List (Int × (ByteArray × (Int × (Int × (List UInt8))))))))))))))) (ck ((List.length o0_1 + List.length ([r24.1] : List (Int × (ByteArray × (Int × (Int × (List UInt8))))))) * 64 ≤ 140737488355328) (some (.inl (y26, (o0_1 ++ ([r24.1] : List (Int × (ByteArray × (Int × (Int × (List UInt8)))))))))))))))))))))))))))))))) (some (.inr (.inr (x0_10, o0_1))))))
noncomputable def wire_Feed.l0 (v0_8 : (List UInt8)) (x0_10 : Int) (o0_1 : (List (Int × (ByteArray × (Int × (Int × (List UInt8))))))) : Option (((List (Int × (ByteArray × (Int × (Int × (List UInt8)))))) × ((List UInt8) × (Int × Int))) ⊕ (Int × (List (Int × (ByteArray × (Int × (Int × (List UInt8)))))))) :=
 loopX (fun (x : (Int × (List (Int × (ByteArray × (Int × (Int × (List UInt8)))))))) => wire_Feed.s0 v0_8 x.1 x.2) (x0_10, o0_1)
noncomputable def wire_Feed.e0 : Ent where
 pre := [.nil 9 63 (.pair (.int .i64) (.pair .str (.pair (.int .i64) (.pair (.int .i64) (.slice .byte)))))]
 inv := [(8, .val (.slice .byte))]
 car := ⟨[(9, .own 1 5), (10, .val (.int .i64))], [.dead, .row 63 (.pair (.int .i64) (.pair .str (.pair (.int .i64) (.pair (.int .i64) (.slice .byte)))))]⟩
 exits := [(.ret, ⟨[(4, .val (.slice (.pair (.int .i64) (.pair .str (.pair (.int .i64) (.pair (.int .i64) (.slice .byte))))))), (5, .val (.slice .byte)), (6, .val (.int .i64)), (7, .val (.int .i64))], []⟩), (.exit 0, ⟨[(9, .own 1 5), (10, .val (.int .i64))], [.dead, .row 63 (.pair (.int .i64) (.pair .str (.pair (.int .i64) (.pair (.int .i64) (.slice .byte)))))]⟩)]
 step := fun iv x => wire_Feed.s0 iv x.1 x.2
noncomputable def wire_Feed.f (a0 : (List UInt8)) (a1 : (List UInt8)) : Option ((List (Int × (ByteArray × (Int × (Int × (List UInt8)))))) × ((List UInt8) × (Int × Int))) :=
 (let y1 : Int := ((List.length a0 : Nat) : Int); (cb (decide ((65560 : Int) < y1)) (some (([] : List (Int × (ByteArray × (Int × (Int × (List UInt8)))))), ([] : List UInt8), (0 : Int), (2 : Int))) (let y2 : Int := ((List.length a1 : Nat) : Int); (cb (decide ((2000000 : Int) < y2)) (some (([] : List (Int × (ByteArray × (Int × (Int × (List UInt8)))))), ([] : List UInt8), (0 : Int), (2 : Int))) (ob (slices_Concat_byte_byte.f ([a0, a1] : List (List UInt8))) fun r3 => (ob (wire_Feed.l0 r3 (0 : Int) ([] : List (Int × (ByteArray × (Int × (Int × (List UInt8))))))) fun r30 => (caseS r30 (fun a31 => (some (a31.1, a31.2.1, a31.2.2.1, a31.2.2.2))) (fun b32 => (ck (0 ≤ b32.1 ∧ b32.1 ≤ ((List.length r3 : Nat) : Int)) (let y33 : (List UInt8) := (List.drop (Int.toNat b32.1) r3); (ob (slices_Clone_byte_byte.f y33) fun r34 => (some (b32.2, r34, (0 : Int), (0 : Int))))))))))))))
noncomputable def wire_Feed.fn : TFn := ⟨[(.slice .byte), (.slice .byte)], [(.slice (.pair (.int .i64) (.pair .str (.pair (.int .i64) (.pair (.int .i64) (.slice .byte)))))), (.slice .byte), (.int .i64), (.int .i64)], fun x => wire_Feed.f x.1 x.2⟩
noncomputable def wire_Feed.C : Cx := ⟨T, TYt, lkF [(18, slices_Clone_byte_byte.fn), (58, wire_within.fn), (67, slices_Concat_byte_byte.fn), (68, wire_head.fn), (69, wire_checkMessage.fn)], lkO [], lkD [], lkP [], [], [], false, [], 89⟩
theorem wire_Feed.hC : CxOK Tryd.prog wire_Feed.C := ⟨tabOK, FsOK.cons slices_Clone_byte_byte.ok (FsOK.cons wire_within.ok (FsOK.cons slices_Concat_byte_byte.ok (FsOK.cons wire_head.ok (FsOK.cons wire_checkMessage.ok (FsOK.nil))))), OsOK.nil, mixed, (fun t h => by cases h), (fun t e h => by cases h)⟩
noncomputable def wire_Feed.root : Code := bodyOf Tryd.f32
theorem wire_Feed.h0 : LsOK Tryd.prog wire_Feed.C wire_Feed.root (lkL [([0, 0, 1, 1, 1, 1, 1], wire_Feed.e0)]) :=
 LsOK.cons wire_Feed.hC (LsOK.nil) (by kernel_rfl) (fun iv x => by kernel_rfl)
theorem wire_Feed.ok : FnOK Tryd.prog 32 wire_Feed.fn :=
 FnOK.of (L := lkL [([0, 0, 1, 1, 1, 1, 1], wire_Feed.e0)]) (root := wire_Feed.root) wire_Feed.hC (enters_of (c := wire_Feed.root) Tryd.func32 (by kernel_rfl) (by kernel_rfl)) Tryd.func32 (by kernel_rfl) (rs := [.tmp 4, .tmp 5, .tmp 6, .tmp 7]) (by kernel_rfl) (by kernel_rfl) wire_Feed.h0 (fun x => by kernel_rfl)
noncomputable def ref8_valueOf.s0 (v0_6 : (List UInt8)) (v0_7 : Int) (x0_3 : Int) (x0_8 : Int) : Option ((Int × Int) ⊕ Int) :=
 (cb (decide (x0_8 < v0_7)) (ck (0 ≤ x0_8 ∧ x0_8 < ((List.length v0_6 : Nat) : Int)) (let y6 : UInt8 := (rd (0 : UInt8) v0_6 x0_8); (let y7 : Int := (IntKind.i64.wrap (x0_3 * 2 ^ min (Int.toNat (8 : Int)) (IntKind.bits .i64))); (let y8 : Int := ((UInt8.toNat y6 : Nat) : Int); (let y9 : Int := (IntKind.i64.wrap ((BitVec.toNat (BitVec.ofInt (IntKind.bits .i64) y7 ||| BitVec.ofInt (IntKind.bits .i64) y8) : Nat) : Int)); (ck (InR (x0_8 + (1 : Int))) (some (.inl (y9, (x0_8 + (1 : Int))))))))))) (some (.inr x0_3)))
noncomputable def ref8_valueOf.l0 (v0_6 : (List UInt8)) (v0_7 : Int) (x0_3 : Int) (x0_8 : Int) : Option Int :=
 loopX (fun (x : (Int × Int)) => ref8_valueOf.s0 v0_6 v0_7 x.1 x.2) (x0_3, x0_8)
noncomputable def ref8_valueOf.e0 : Ent where
 pre := []
 inv := [(6, .val (.slice .byte)), (7, .val (.int .i64))]
 car := ⟨[(3, .val (.int .i64)), (8, .val (.int .i64))], []⟩
 exits := [(.exit 0, ⟨[(3, .val (.int .i64))], []⟩)]
 step := fun iv x => ref8_valueOf.s0 iv.1 iv.2 x.1 x.2
noncomputable def ref8_valueOf.f (a0 : (List UInt8)) : Option Int :=
 (let y1 : Int := ((List.length a0 : Nat) : Int); (ob (ref8_valueOf.l0 a0 y1 (0 : Int) (0 : Int)) fun r10 => (some r10)))
noncomputable def ref8_valueOf.fn : TFn := ⟨[(.slice .byte)], [(.int .i64)], fun x => ref8_valueOf.f x⟩
noncomputable def ref8_valueOf.C : Cx := ⟨T, TYt, lkF [], lkO [], lkD [], lkP [], [], [], false, [], 19⟩
theorem ref8_valueOf.hC : CxOK Tryd.prog ref8_valueOf.C := ⟨tabOK, FsOK.nil, OsOK.nil, mixed, (fun t h => by cases h), (fun t e h => by cases h)⟩
noncomputable def ref8_valueOf.root : Code := bodyOf Tryd.f96
theorem ref8_valueOf.h0 : LsOK Tryd.prog ref8_valueOf.C ref8_valueOf.root (lkL [([0, 1, 0, 1, 1], ref8_valueOf.e0)]) :=
 LsOK.cons ref8_valueOf.hC (LsOK.nil) (by kernel_rfl) (fun iv x => by kernel_rfl)
theorem ref8_valueOf.ok : FnOK Tryd.prog 96 ref8_valueOf.fn :=
 FnOK.of (L := lkL [([0, 1, 0, 1, 1], ref8_valueOf.e0)]) (root := ref8_valueOf.root) ref8_valueOf.hC (enters_of (c := ref8_valueOf.root) Tryd.func96 (by kernel_rfl) (by kernel_rfl)) Tryd.func96 (by kernel_rfl) (rs := [.tmp 2]) (by kernel_rfl) (by kernel_rfl) ref8_valueOf.h0 (fun x => by kernel_rfl)
noncomputable def ref8_hasFrom.f (a0 : Int) : Option Bool :=
 (cb (decide (a0 = (2 : Int))) (some true) (some (decide (a0 = (3 : Int)))))
noncomputable def ref8_hasFrom.fn : TFn := ⟨[(.int .i64)], [.bool], fun x => ref8_hasFrom.f x⟩
noncomputable def ref8_hasFrom.C : Cx := ⟨T, TYt, lkF [], lkO [], lkD [], lkP [], [], [], false, [], 9⟩
theorem ref8_hasFrom.hC : CxOK Tryd.prog ref8_hasFrom.C := ⟨tabOK, FsOK.nil, OsOK.nil, mixed, (fun t h => by cases h), (fun t e h => by cases h)⟩
noncomputable def ref8_hasFrom.root : Code := bodyOf Tryd.f97
theorem ref8_hasFrom.ok : FnOK Tryd.prog 97 ref8_hasFrom.fn :=
 FnOK.of (L := lkL []) (root := ref8_hasFrom.root) ref8_hasFrom.hC (enters_of (c := ref8_hasFrom.root) Tryd.func97 (by kernel_rfl) (by kernel_rfl)) Tryd.func97 (by kernel_rfl) (rs := [.tmp 2]) (by kernel_rfl) (by kernel_rfl) LsOK.nil (fun x => by kernel_rfl)
noncomputable def ref8_checkMessage.f (a0 : (Int × (ByteArray × (Int × (Int × (List UInt8)))))) : Option Int :=
 (ob (ref8_within.f a0.1 (1 : Int) (6 : Int)) fun r1 => (cb (!r1) (some (4 : Int)) (ob (ref8_isDigest.f a0.2.1) fun r2 => (cb (!r2) (some (3 : Int)) (ob (ref8_within.f a0.2.2.1 (0 : Int) (2000000 : Int)) fun r3 => (cb (!r3) (some (1 : Int)) (ob (ref8_within.f a0.2.2.2.1 (0 : Int) (2000000 : Int)) fun r4 => (cb (!r4) (some (1 : Int)) (let y5 : Int := ((List.length a0.2.2.2.2 : Nat) : Int); (cb (decide ((65536 : Int) < y5)) (some (2 : Int)) (cb (!decide (a0.2.2.1 = (0 : Int))) (ob (ref8_hasFrom.f a0.1) fun r6 => (cb (!r6) (some (3 : Int)) (cb (!decide (a0.2.2.2.1 = (0 : Int))) (cb (!decide (a0.1 = (1 : Int))) (some (3 : Int)) (let y7 : Int := ((List.length a0.2.2.2.2 : Nat) : Int); (cb (!((decide ((0 : Int) < y7)) == (decide (a0.1 = (2 : Int))))) (some (3 : Int)) (some (0 : Int))))) (let y8 : Int := ((List.length a0.2.2.2.2 : Nat) : Int); (cb (!((decide ((0 : Int) < y8)) == (decide (a0.1 = (2 : Int))))) (some (3 : Int)) (some (0 : Int))))))) (cb (!decide (a0.2.2.2.1 = (0 : Int))) (cb (!decide (a0.1 = (1 : Int))) (some (3 : Int)) (let y9 : Int := ((List.length a0.2.2.2.2 : Nat) : Int); (cb (!((decide ((0 : Int) < y9)) == (decide (a0.1 = (2 : Int))))) (some (3 : Int)) (some (0 : Int))))) (let y10 : Int := ((List.length a0.2.2.2.2 : Nat) : Int); (cb (!((decide ((0 : Int) < y10)) == (decide (a0.1 = (2 : Int))))) (some (3 : Int)) (some (0 : Int))))))))))))))))
noncomputable def ref8_checkMessage.fn : TFn := ⟨[(.pair (.int .i64) (.pair .str (.pair (.int .i64) (.pair (.int .i64) (.slice .byte)))))], [(.int .i64)], fun x => ref8_checkMessage.f x⟩
noncomputable def ref8_checkMessage.C : Cx := ⟨T, TYt, lkF [(62, ref8_isDigest.fn), (63, ref8_within.fn), (97, ref8_hasFrom.fn)], lkO [], lkD [], lkP [], [1], [], false, [], 58⟩
theorem ref8_checkMessage.hC : CxOK Tryd.prog ref8_checkMessage.C := ⟨tabOK, FsOK.cons ref8_isDigest.ok (FsOK.cons ref8_within.ok (FsOK.cons ref8_hasFrom.ok (FsOK.nil))), OsOK.nil, mixed, (fun t h => by cases h), (fun t e h => by cases h)⟩
noncomputable def ref8_checkMessage.root : Code := bodyOf Tryd.f71
theorem ref8_checkMessage.ok : FnOK Tryd.prog 71 ref8_checkMessage.fn :=
 FnOK.of (L := lkL []) (root := ref8_checkMessage.root) ref8_checkMessage.hC (enters_of (c := ref8_checkMessage.root) Tryd.func71 (by kernel_rfl) (by kernel_rfl)) Tryd.func71 (by kernel_rfl) (rs := [.tmp 2]) (by kernel_rfl) (by kernel_rfl) LsOK.nil (fun x => by kernel_rfl)
noncomputable def ref8_headOf.f (a0 : (List UInt8)) : Option ((Int × (ByteArray × (Int × (Int × (List UInt8))))) × (Int × Int)) :=
 (ck (0 ≤ (0 : Int) ∧ (0 : Int) < ((List.length a0 : Nat) : Int)) (let y1 : UInt8 := (rd (0 : UInt8) a0 (0 : Int)); (let y2 : Int := ((UInt8.toNat y1 : Nat) : Int); (ck (0 ≤ (1 : Int) ∧ (1 : Int) ≤ (17 : Int) ∧ (17 : Int) ≤ ((List.length a0 : Nat) : Int)) (let y3 : (List UInt8) := (List.drop (Int.toNat (1 : Int)) (List.take (Int.toNat (17 : Int)) a0)); (dup (ck (0 ≤ (17 : Int) ∧ (17 : Int) ≤ (21 : Int) ∧ (21 : Int) ≤ ((List.length a0 : Nat) : Int)) (let y4 : (List UInt8) := (List.drop (Int.toNat (17 : Int)) (List.take (Int.toNat (21 : Int)) a0)); (ck (0 ≤ (21 : Int) ∧ (21 : Int) ≤ (24 : Int) ∧ (24 : Int) ≤ ((List.length a0 : Nat) : Int)) (let y5 : (List UInt8) := (List.drop (Int.toNat (21 : Int)) (List.take (Int.toNat (24 : Int)) a0)); (ob (ref8_valueOf.f y4) fun r6 => (ob (ref8_valueOf.f y5) fun r7 => (cb (decide (y2 = (1 : Int))) (ck (0 ≤ (min r7 (65537 : Int)) ∧ (min r7 (65537 : Int)) * (1 : Int) ≤ 140737488355328) (mix (.node .leaf (.node .leaf .leaf)) (ob (ref8_checkMessage.f (y2, ((bstr y3), ((0 : Int), (r6, (List.replicate (Int.toNat (min r7 (65537 : Int))) (0 : UInt8))))))) fun r8 => (some ((y2, ((bstr y3), ((0 : Int), (r6, ([] : List UInt8))))), r7, r8))))) (ck (0 ≤ (min r7 (65537 : Int)) ∧ (min r7 (65537 : Int)) * (1 : Int) ≤ 140737488355328) (mix (.node .leaf (.node .leaf .leaf)) (ob (ref8_checkMessage.f (y2, ((bstr y3), (r6, ((0 : Int), (List.replicate (Int.toNat (min r7 (65537 : Int))) (0 : UInt8))))))) fun r9 => (some ((y2, ((bstr y3), (r6, ((0 : Int), ([] : List UInt8))))), r7, r9))))))))))))))))))
noncomputable def ref8_headOf.fn : TFn := ⟨[(.slice .byte)], [(.pair (.int .i64) (.pair .str (.pair (.int .i64) (.pair (.int .i64) (.slice .byte))))), (.int .i64), (.int .i64)], fun x => ref8_headOf.f x⟩
noncomputable def ref8_headOf.C : Cx := ⟨T, TYt, lkF [(71, ref8_checkMessage.fn), (96, ref8_valueOf.fn)], lkO [], lkD [(1, 9, [(0, true), (1, true), (2, true), (3, true), (4, true), (5, true), (6, true)], some (7, [(8, false)], 8, [(7, false)])), (2, 5, [(0, true), (1, true), (3, true), (4, true), (2, false)], none)], lkP [(8, 5, (.take 1 (.alt 0 (.alt 2 (.alt 3 (.alt 4 .done .no) .no) .no) (.alt 2 (.alt 0 (.alt 3 (.alt 4 .done .no) .no) (.alt 3 (.alt 0 (.alt 4 .done .no) .no) .no)) .no))))], [], [], false, [], 39⟩
theorem ref8_headOf.hC : CxOK Tryd.prog ref8_headOf.C := ⟨tabOK, FsOK.cons ref8_checkMessage.ok (FsOK.cons ref8_valueOf.ok (FsOK.nil)), OsOK.nil, mixed, (fun t h => by cases h), (fun t e h => by cases h)⟩
noncomputable def ref8_headOf.root : Code := bodyOf Tryd.f70
theorem ref8_headOf.ok : FnOK Tryd.prog 70 ref8_headOf.fn :=
 FnOK.of (L := lkL []) (root := ref8_headOf.root) ref8_headOf.hC (enters_of (c := ref8_headOf.root) Tryd.func70 (by kernel_rfl) (by kernel_rfl)) Tryd.func70 (by kernel_rfl) (rs := [.cell 2 63, .tmp 3, .tmp 4]) (by kernel_rfl) (by kernel_rfl) LsOK.nil (fun x => by kernel_rfl)
noncomputable def ref8_Feed.s0 (v0_8 : (List UInt8)) (x0_10 : Int) (o0_1 : (List (Int × (ByteArray × (Int × (Int × (List UInt8))))))) : Option ((Int × (List (Int × (ByteArray × (Int × (Int × (List UInt8))))))) ⊕ (((List (Int × (ByteArray × (Int × (Int × (List UInt8)))))) × ((List UInt8) × (Int × Int))) ⊕ (Int × (List (Int × (ByteArray × (Int × (Int × (List UInt8))))))))) :=
 (let y16 : Int := ((List.length v0_8 : Nat) : Int); (cb (decide (x0_10 < y16)) (ck (0 ≤ x0_10 ∧ x0_10 ≤ ((List.length v0_8 : Nat) : Int)) (let y17 : (List UInt8) := (List.drop (Int.toNat x0_10) v0_8); (let y18 : Int := ((List.length o0_1 : Nat) : Int); (cb (decide ((20000 : Int) ≤ y18)) (some (.inr (.inl (([] : List (Int × (ByteArray × (Int × (Int × (List UInt8)))))), ([] : List UInt8), x0_10, (16 : Int))))) (ck (0 ≤ (0 : Int) ∧ (0 : Int) < ((List.length y17 : Nat) : Int)) (let y19 : UInt8 := (rd (0 : UInt8) y17 (0 : Int)); (let y20 : Int := ((UInt8.toNat y19 : Nat) : Int); (ob (ref8_within.f y20 (1 : Int) (6 : Int)) fun r21 => (cb (!r21) (some (.inr (.inl (([] : List (Int × (ByteArray × (Int × (Int × (List UInt8)))))), ([] : List UInt8), x0_10, (4 : Int))))) (let y22 : Int := ((List.length y17 : Nat) : Int); (cb (decide (y22 < (24 : Int))) (some (.inr (.inr (x0_10, o0_1)))) (ob (ref8_headOf.f y17) fun r23 => (cb (!decide (r23.2.2 = (0 : Int))) (some (.inr (.inl (([] : List (Int × (ByteArray × (Int × (Int × (List UInt8)))))), ([] : List UInt8), x0_10, r23.2.2)))) (let y24 : Int := ((List.length y17 : Nat) : Int); (ck (InR ((24 : Int) + r23.2.1)) (cb (decide (y24 < ((24 : Int) + r23.2.1))) (some (.inr (.inr (x0_10, o0_1)))) (ck (InR ((24 : Int) + r23.2.1)) (ck (0 ≤ (24 : Int) ∧ (24 : Int) ≤ ((24 : Int) + r23.2.1) ∧ ((24 : Int) + r23.2.1) ≤ ((List.length y17 : Nat) : Int)) (let y25 : (List UInt8) := (List.drop (Int.toNat (24 : Int)) (List.take (Int.toNat ((24 : Int) + r23.2.1)) y17)); (ob (slices_Clone_byte_byte.f y25) fun r26 => (ck ((List.length o0_1 + List.length ([(r23.1.1, (r23.1.2.1, (r23.1.2.2.1, (r23.1.2.2.2.1, r26))))] : List (Int × (ByteArray × (Int × (Int × (List UInt8))))))) * 64 ≤ 140737488355328) (ck (InR (x0_10 + (24 : Int))) (ck (InR ((x0_10 + (24 : Int)) + r23.2.1)) (let y27 : Int := ((x0_10 + (24 : Int)) + r23.2.1); (some (.inl (y27, (o0_1 ++ ([(r23.1.1, (r23.1.2.1, (r23.1.2.2.1, (r23.1.2.2.2.1, r26))))] : List (Int × (ByteArray × (Int × (Int × (List UInt8)))))))))))))))))))))))))))))))))) (some (.inr (.inr (x0_10, o0_1))))))
noncomputable def ref8_Feed.l0 (v0_8 : (List UInt8)) (x0_10 : Int) (o0_1 : (List (Int × (ByteArray × (Int × (Int × (List UInt8))))))) : Option (((List (Int × (ByteArray × (Int × (Int × (List UInt8)))))) × ((List UInt8) × (Int × Int))) ⊕ (Int × (List (Int × (ByteArray × (Int × (Int × (List UInt8)))))))) :=
 loopX (fun (x : (Int × (List (Int × (ByteArray × (Int × (Int × (List UInt8)))))))) => ref8_Feed.s0 v0_8 x.1 x.2) (x0_10, o0_1)
noncomputable def ref8_Feed.e0 : Ent where
 pre := [.nil 9 63 (.pair (.int .i64) (.pair .str (.pair (.int .i64) (.pair (.int .i64) (.slice .byte)))))]
 inv := [(8, .val (.slice .byte))]
 car := ⟨[(9, .own 1 5), (10, .val (.int .i64))], [.dead, .row 63 (.pair (.int .i64) (.pair .str (.pair (.int .i64) (.pair (.int .i64) (.slice .byte)))))]⟩
 exits := [(.ret, ⟨[(4, .val (.slice (.pair (.int .i64) (.pair .str (.pair (.int .i64) (.pair (.int .i64) (.slice .byte))))))), (5, .val (.slice .byte)), (6, .val (.int .i64)), (7, .val (.int .i64))], []⟩), (.exit 0, ⟨[(9, .own 1 5), (10, .val (.int .i64))], [.dead, .row 63 (.pair (.int .i64) (.pair .str (.pair (.int .i64) (.pair (.int .i64) (.slice .byte)))))]⟩)]
 step := fun iv x => ref8_Feed.s0 iv x.1 x.2
noncomputable def ref8_Feed.f (a0 : (List UInt8)) (a1 : (List UInt8)) : Option ((List (Int × (ByteArray × (Int × (Int × (List UInt8)))))) × ((List UInt8) × (Int × Int))) :=
 (let y1 : Int := ((List.length a0 : Nat) : Int); (cb (decide ((65560 : Int) < y1)) (some (([] : List (Int × (ByteArray × (Int × (Int × (List UInt8)))))), ([] : List UInt8), (0 : Int), (2 : Int))) (let y2 : Int := ((List.length a1 : Nat) : Int); (cb (decide ((2000000 : Int) < y2)) (some (([] : List (Int × (ByteArray × (Int × (Int × (List UInt8)))))), ([] : List UInt8), (0 : Int), (2 : Int))) (ob (slices_Concat_byte_byte.f ([a0, a1] : List (List UInt8))) fun r3 => (ob (ref8_Feed.l0 r3 (0 : Int) ([] : List (Int × (ByteArray × (Int × (Int × (List UInt8))))))) fun r28 => (caseS r28 (fun a29 => (some (a29.1, a29.2.1, a29.2.2.1, a29.2.2.2))) (fun b30 => (ck (0 ≤ b30.1 ∧ b30.1 ≤ ((List.length r3 : Nat) : Int)) (let y31 : (List UInt8) := (List.drop (Int.toNat b30.1) r3); (ob (slices_Clone_byte_byte.f y31) fun r32 => (some (b30.2, r32, (0 : Int), (0 : Int))))))))))))))
noncomputable def ref8_Feed.fn : TFn := ⟨[(.slice .byte), (.slice .byte)], [(.slice (.pair (.int .i64) (.pair .str (.pair (.int .i64) (.pair (.int .i64) (.slice .byte)))))), (.slice .byte), (.int .i64), (.int .i64)], fun x => ref8_Feed.f x.1 x.2⟩
noncomputable def ref8_Feed.C : Cx := ⟨T, TYt, lkF [(18, slices_Clone_byte_byte.fn), (63, ref8_within.fn), (67, slices_Concat_byte_byte.fn), (70, ref8_headOf.fn)], lkO [], lkD [], lkP [], [], [], false, [], 82⟩
theorem ref8_Feed.hC : CxOK Tryd.prog ref8_Feed.C := ⟨tabOK, FsOK.cons slices_Clone_byte_byte.ok (FsOK.cons ref8_within.ok (FsOK.cons slices_Concat_byte_byte.ok (FsOK.cons ref8_headOf.ok (FsOK.nil)))), OsOK.nil, mixed, (fun t h => by cases h), (fun t e h => by cases h)⟩
noncomputable def ref8_Feed.root : Code := bodyOf Tryd.f33
theorem ref8_Feed.h0 : LsOK Tryd.prog ref8_Feed.C ref8_Feed.root (lkL [([0, 0, 1, 1, 1, 1, 1], ref8_Feed.e0)]) :=
 LsOK.cons ref8_Feed.hC (LsOK.nil) (by kernel_rfl) (fun iv x => by kernel_rfl)
theorem ref8_Feed.ok : FnOK Tryd.prog 33 ref8_Feed.fn :=
 FnOK.of (L := lkL [([0, 0, 1, 1, 1, 1, 1], ref8_Feed.e0)]) (root := ref8_Feed.root) ref8_Feed.hC (enters_of (c := ref8_Feed.root) Tryd.func33 (by kernel_rfl) (by kernel_rfl)) Tryd.func33 (by kernel_rfl) (rs := [.tmp 4, .tmp 5, .tmp 6, .tmp 7]) (by kernel_rfl) (by kernel_rfl) ref8_Feed.h0 (fun x => by kernel_rfl)
noncomputable def law8_WireFeedMatchesSpec.f (a0 : (List UInt8)) (a1 : (List UInt8)) : Option Bool :=
 (ob (slices_Clone_byte_byte.f a0) fun r1 => (ob (slices_Clone_byte_byte.f a1) fun r2 => (ob (wire_Feed.f a0 a1) fun r3 => (ob (ref8_Feed.f r1 r2) fun r4 => (cb (decide (r3.2.2.2 = r4.2.2.2)) (cb (decide (r3.2.2.1 = r4.2.2.1)) (ob (slices_Equal_byte_byte.f r3.2.1 r4.2.1) fun r5 => (cb r5 (ob (ref8_SameMessages.f r3.1 r4.1) fun r6 => (cb r6 (ob (slices_Equal_byte_byte.f a0 r1) fun r7 => (cb r7 (ob (slices_Equal_byte_byte.f a1 r2) fun r8 => (cb r8 (ob (law8_awake.f) fun r9 => (some r9)) (some false))) (some false))) (some false))) (some false))) (some false)) (some false))))))
noncomputable def law8_WireFeedMatchesSpec.fn : TFn := ⟨[(.slice .byte), (.slice .byte)], [.bool], fun x => law8_WireFeedMatchesSpec.f x.1 x.2⟩
noncomputable def law8_WireFeedMatchesSpec.C : Cx := ⟨T, TYt, lkF [(17, law8_awake.fn), (18, slices_Clone_byte_byte.fn), (21, ref8_SameMessages.fn), (22, slices_Equal_byte_byte.fn), (32, wire_Feed.fn), (33, ref8_Feed.fn)], lkO [], lkD [], lkP [], [], [], false, [], 66⟩
theorem law8_WireFeedMatchesSpec.hC : CxOK Tryd.prog law8_WireFeedMatchesSpec.C := ⟨tabOK, FsOK.cons law8_awake.ok (FsOK.cons slices_Clone_byte_byte.ok (FsOK.cons ref8_SameMessages.ok (FsOK.cons slices_Equal_byte_byte.ok (FsOK.cons wire_Feed.ok (FsOK.cons ref8_Feed.ok (FsOK.nil)))))), OsOK.nil, mixed, (fun t h => by cases h), (fun t e h => by cases h)⟩
noncomputable def law8_WireFeedMatchesSpec.root : Code := bodyOf Tryd.f6
theorem law8_WireFeedMatchesSpec.ok : FnOK Tryd.prog 6 law8_WireFeedMatchesSpec.fn :=
 FnOK.of (L := lkL []) (root := law8_WireFeedMatchesSpec.root) law8_WireFeedMatchesSpec.hC (enters_of (c := law8_WireFeedMatchesSpec.root) Tryd.func6 (by kernel_rfl) (by kernel_rfl)) Tryd.func6 (by kernel_rfl) (rs := [.tmp 4]) (by kernel_rfl) (by kernel_rfl) LsOK.nil (fun x => by kernel_rfl)
noncomputable def ref8_CopyMessages.s0 (v0_6 : (List (Int × (ByteArray × (Int × (Int × (List UInt8))))))) (v0_7 : Int) (x0_8 : Int) (o0_0 : (List (Int × (ByteArray × (Int × (Int × (List UInt8))))))) : Option ((Int × (List (Int × (ByteArray × (Int × (Int × (List UInt8))))))) ⊕ (List (Int × (ByteArray × (Int × (Int × (List UInt8))))))) :=
 (cb (decide (x0_8 < v0_7)) (ck (0 ≤ x0_8 ∧ x0_8 < ((List.length v0_6 : Nat) : Int)) (let y4 : (Int × (ByteArray × (Int × (Int × (List UInt8))))) := (rd ((0 : Int), (ByteArray.empty, ((0 : Int), ((0 : Int), ([] : (List UInt8)))))) v0_6 x0_8); (ob (slices_Clone_byte_byte.f y4.2.2.2.2) fun r5 => (ck ((List.length o0_0 + List.length ([(y4.1, (y4.2.1, (y4.2.2.1, (y4.2.2.2.1, r5))))] : List (Int × (ByteArray × (Int × (Int × (List UInt8))))))) * 64 ≤ 140737488355328) (ck (InR (x0_8 + (1 : Int))) (some (.inl ((x0_8 + (1 : Int)), (o0_0 ++ ([(y4.1, (y4.2.1, (y4.2.2.1, (y4.2.2.2.1, r5))))] : List (Int × (ByteArray × (Int × (Int × (List UInt8))))))))))))))) (some (.inr o0_0)))
noncomputable def ref8_CopyMessages.l0 (v0_6 : (List (Int × (ByteArray × (Int × (Int × (List UInt8))))))) (v0_7 : Int) (x0_8 : Int) (o0_0 : (List (Int × (ByteArray × (Int × (Int × (List UInt8))))))) : Option (List (Int × (ByteArray × (Int × (Int × (List UInt8)))))) :=
 loopX (fun (x : (Int × (List (Int × (ByteArray × (Int × (Int × (List UInt8)))))))) => ref8_CopyMessages.s0 v0_6 v0_7 x.1 x.2) (x0_8, o0_0)
noncomputable def ref8_CopyMessages.e0 : Ent where
 pre := [.nil 3 63 (.pair (.int .i64) (.pair .str (.pair (.int .i64) (.pair (.int .i64) (.slice .byte)))))]
 inv := [(6, .val (.slice (.pair (.int .i64) (.pair .str (.pair (.int .i64) (.pair (.int .i64) (.slice .byte))))))), (7, .val (.int .i64))]
 car := ⟨[(3, .own 0 5), (8, .val (.int .i64))], [.row 63 (.pair (.int .i64) (.pair .str (.pair (.int .i64) (.pair (.int .i64) (.slice .byte)))))]⟩
 exits := [(.exit 0, ⟨[(3, .own 0 5)], [.row 63 (.pair (.int .i64) (.pair .str (.pair (.int .i64) (.pair (.int .i64) (.slice .byte)))))]⟩)]
 step := fun iv x => ref8_CopyMessages.s0 iv.1 iv.2 x.1 x.2
noncomputable def ref8_CopyMessages.f (a0 : (List (Int × (ByteArray × (Int × (Int × (List UInt8))))))) : Option (List (Int × (ByteArray × (Int × (Int × (List UInt8)))))) :=
 (let y1 : Int := ((List.length a0 : Nat) : Int); (ob (ref8_CopyMessages.l0 a0 y1 (0 : Int) ([] : List (Int × (ByteArray × (Int × (Int × (List UInt8))))))) fun r6 => (some r6)))
noncomputable def ref8_CopyMessages.fn : TFn := ⟨[(.slice (.pair (.int .i64) (.pair .str (.pair (.int .i64) (.pair (.int .i64) (.slice .byte))))))], [(.slice (.pair (.int .i64) (.pair .str (.pair (.int .i64) (.pair (.int .i64) (.slice .byte))))))], fun x => ref8_CopyMessages.f x⟩
noncomputable def ref8_CopyMessages.C : Cx := ⟨T, TYt, lkF [(18, slices_Clone_byte_byte.fn)], lkO [], lkD [], lkP [], [], [], false, [], 22⟩
theorem ref8_CopyMessages.hC : CxOK Tryd.prog ref8_CopyMessages.C := ⟨tabOK, FsOK.cons slices_Clone_byte_byte.ok (FsOK.nil), OsOK.nil, mixed, (fun t h => by cases h), (fun t e h => by cases h)⟩
noncomputable def ref8_CopyMessages.root : Code := bodyOf Tryd.f34
theorem ref8_CopyMessages.h0 : LsOK Tryd.prog ref8_CopyMessages.C ref8_CopyMessages.root (lkL [([0, 1, 0, 1, 1], ref8_CopyMessages.e0)]) :=
 LsOK.cons ref8_CopyMessages.hC (LsOK.nil) (by kernel_rfl) (fun iv x => by kernel_rfl)
theorem ref8_CopyMessages.ok : FnOK Tryd.prog 34 ref8_CopyMessages.fn :=
 FnOK.of (L := lkL [([0, 1, 0, 1, 1], ref8_CopyMessages.e0)]) (root := ref8_CopyMessages.root) ref8_CopyMessages.hC (enters_of (c := ref8_CopyMessages.root) Tryd.func34 (by kernel_rfl) (by kernel_rfl)) Tryd.func34 (by kernel_rfl) (rs := [.tmp 2]) (by kernel_rfl) (by kernel_rfl) ref8_CopyMessages.h0 (fun x => by kernel_rfl)
noncomputable def wire_Frames.s0 (v0_15 : (List (Int × (ByteArray × (Int × (Int × (List UInt8))))))) (v0_16 : Int) (x0_17 : Int) : Option (Int ⊕ (((List UInt8) × Int) ⊕ Unit)) :=
 (cb (decide (x0_17 < v0_16)) (ck (0 ≤ x0_17 ∧ x0_17 < ((List.length v0_15 : Nat) : Int)) (let y6 : (Int × (ByteArray × (Int × (Int × (List UInt8))))) := (rd ((0 : Int), (ByteArray.empty, ((0 : Int), ((0 : Int), ([] : (List UInt8)))))) v0_15 x0_17); (let y7 : Int := ((List.length y6.2.2.2.2 : Nat) : Int); (ob (wire_checkMessage.f y6 y7) fun r8 => (cb (!decide (r8 = (0 : Int))) (some (.inr (.inl (([] : List UInt8), r8)))) (ck (InR (x0_17 + (1 : Int))) (some (.inl (x0_17 + (1 : Int)))))))))) (some (.inr (.inr ()))))
noncomputable def wire_Frames.l0 (v0_15 : (List (Int × (ByteArray × (Int × (Int × (List UInt8))))))) (v0_16 : Int) (x0_17 : Int) : Option (((List UInt8) × Int) ⊕ Unit) :=
 loopX (fun (x : Int) => wire_Frames.s0 v0_15 v0_16 x) x0_17
noncomputable def wire_Frames.e0 : Ent where
 pre := []
 inv := [(0, .val (.slice (.pair (.int .i64) (.pair .str (.pair (.int .i64) (.pair (.int .i64) (.slice .byte))))))), (15, .val (.slice (.pair (.int .i64) (.pair .str (.pair (.int .i64) (.pair (.int .i64) (.slice .byte))))))), (16, .val (.int .i64))]
 car := ⟨[(17, .val (.int .i64))], []⟩
 exits := [(.ret, ⟨[(2, .val (.slice .byte)), (3, .val (.int .i64))], []⟩), (.exit 0, ⟨[], []⟩)]
 step := fun iv x => wire_Frames.s0 iv.2.1 iv.2.2 x
noncomputable def wire_Frames.s1 (v1_30 : (List (Int × (ByteArray × (Int × (Int × (List UInt8))))))) (v1_31 : Int) (x1_32 : Int) (o1_0 : (List UInt8)) : Option ((Int × (List UInt8)) ⊕ (List UInt8)) :=
 (cb (decide (x1_32 < v1_31)) (ck (0 ≤ x1_32 ∧ x1_32 < ((List.length v1_30 : Nat) : Int)) (let y28 : (Int × (ByteArray × (Int × (Int × (List UInt8))))) := (rd ((0 : Int), (ByteArray.empty, ((0 : Int), ((0 : Int), ([] : (List UInt8)))))) v1_30 x1_32); (mix (.node (.node (.node .leaf .leaf) .leaf) .leaf) (ck ((List.length o1_0 + List.length ([(UInt8.ofInt (IntKind.u8.wrap y28.1))] : List UInt8)) * 1 ≤ 140737488355328) (ck ((List.length (o1_0 ++ ([(UInt8.ofInt (IntKind.u8.wrap y28.1))] : List UInt8)) + List.length (Array.toList (ByteArray.data y28.2.1))) * 1 ≤ 140737488355328) (ck (InR (y28.2.2.1 + y28.2.2.2.1)) (let y29 : Int := (y28.2.2.1 + y28.2.2.2.1); (let y30 : Int := ((List.length y28.2.2.2.2 : Nat) : Int); (let y31 : Int := (Int.fdiv y29 (2 ^ min (Int.toNat (24 : Int)) (IntKind.bits .i64))); (let y32 : UInt8 := (UInt8.ofInt (IntKind.u8.wrap y31)); (let y33 : Int := (Int.fdiv y29 (2 ^ min (Int.toNat (16 : Int)) (IntKind.bits .i64))); (let y34 : UInt8 := (UInt8.ofInt (IntKind.u8.wrap y33)); (let y35 : Int := (Int.fdiv y29 (2 ^ min (Int.toNat (8 : Int)) (IntKind.bits .i64))); (let y36 : UInt8 := (UInt8.ofInt (IntKind.u8.wrap y35)); (let y37 : UInt8 := (UInt8.ofInt (IntKind.u8.wrap y29)); (let y38 : Int := (Int.fdiv y30 (2 ^ min (Int.toNat (16 : Int)) (IntKind.bits .i64))); (let y39 : UInt8 := (UInt8.ofInt (IntKind.u8.wrap y38)); (let y40 : Int := (Int.fdiv y30 (2 ^ min (Int.toNat (8 : Int)) (IntKind.bits .i64))); (let y41 : UInt8 := (UInt8.ofInt (IntKind.u8.wrap y40)); (let y42 : UInt8 := (UInt8.ofInt (IntKind.u8.wrap y30)); (ck ((List.length ((o1_0 ++ ([(UInt8.ofInt (IntKind.u8.wrap y28.1))] : List UInt8)) ++ (Array.toList (ByteArray.data y28.2.1))) + List.length ([y32, y34, y36, y37, y39, y41, y42] : List UInt8)) * 1 ≤ 140737488355328) (ck ((List.length (((o1_0 ++ ([(UInt8.ofInt (IntKind.u8.wrap y28.1))] : List UInt8)) ++ (Array.toList (ByteArray.data y28.2.1))) ++ ([y32, y34, y36, y37, y39, y41, y42] : List UInt8)) + List.length y28.2.2.2.2) * 1 ≤ 140737488355328) (ck (InR (x1_32 + (1 : Int))) (some (.inl ((x1_32 + (1 : Int)), ((((o1_0 ++ ([(UInt8.ofInt (IntKind.u8.wrap y28.1))] : List UInt8)) ++ (Array.toList (ByteArray.data y28.2.1))) ++ ([y32, y34, y36, y37, y39, y41, y42] : List UInt8)) ++ y28.2.2.2.2))))))))))))))))))))))))))) (some (.inr o1_0)))
noncomputable def wire_Frames.l1 (v1_30 : (List (Int × (ByteArray × (Int × (Int × (List UInt8))))))) (v1_31 : Int) (x1_32 : Int) (o1_0 : (List UInt8)) : Option (List UInt8) :=
 loopX (fun (x : (Int × (List UInt8))) => wire_Frames.s1 v1_30 v1_31 x.1 x.2) (x1_32, o1_0)
noncomputable def wire_Frames.e1 : Ent where
 pre := [.nil 7 5 .byte]
 inv := [(30, .val (.slice (.pair (.int .i64) (.pair .str (.pair (.int .i64) (.pair (.int .i64) (.slice .byte))))))), (31, .val (.int .i64))]
 car := ⟨[(7, .own 0 1), (32, .val (.int .i64))], [.row 5 .byte]⟩
 exits := [(.exit 2, ⟨[(7, .own 0 1)], [.row 5 .byte]⟩)]
 step := fun iv x => wire_Frames.s1 iv.1 iv.2 x.1 x.2
noncomputable def wire_Frames.f (a0 : (List (Int × (ByteArray × (Int × (Int × (List UInt8))))))) : Option ((List UInt8) × Int) :=
 (let y1 : Int := ((List.length a0 : Nat) : Int); (cb (decide ((20000 : Int) < y1)) (some (([] : List UInt8), (2 : Int))) (let y2 : Int := ((List.length a0 : Nat) : Int); (ob (wire_Frames.l0 a0 y2 (0 : Int)) fun r9 => (caseS r9 (fun a10 => (some (a10.1, a10.2))) (fun b11 => (let y12 : Int := ((List.length a0 : Nat) : Int); (ob (wire_Frames.l1 a0 y12 (0 : Int) ([] : List UInt8)) fun r43 => (some (r43, (0 : Int)))))))))))
noncomputable def wire_Frames.fn : TFn := ⟨[(.slice (.pair (.int .i64) (.pair .str (.pair (.int .i64) (.pair (.int .i64) (.slice .byte))))))], [(.slice .byte), (.int .i64)], fun x => wire_Frames.f x⟩
noncomputable def wire_Frames.C : Cx := ⟨T, TYt, lkF [(69, wire_checkMessage.fn)], lkO [], lkD [(15, 9, [(0, true), (1, true), (2, true), (3, true), (4, true), (5, true), (6, true), (7, true), (8, true)], none)], lkP [(14, 8, (.take 0 (.take 1 (.take 6 (.alt 2 (.take 3 (.alt 4 (.alt 5 (.alt 7 .done .no) (.alt 7 (.alt 5 .done .no) .no)) (.alt 7 (.alt 4 (.alt 5 .done .no) .no) .no))) (.alt 7 (.alt 2 (.take 3 (.alt 4 (.alt 5 .done .no) .no)) .no) .no))))))], [5, 9], [], false, [], 81⟩
theorem wire_Frames.hC : CxOK Tryd.prog wire_Frames.C := ⟨tabOK, FsOK.cons wire_checkMessage.ok (FsOK.nil), OsOK.nil, mixed, (fun t h => by cases h), (fun t e h => by cases h)⟩
noncomputable def wire_Frames.root : Code := bodyOf Tryd.f35
theorem wire_Frames.h0 : LsOK Tryd.prog wire_Frames.C wire_Frames.root (lkL [([0, 1, 0, 1, 1], wire_Frames.e0)]) :=
 LsOK.cons wire_Frames.hC (LsOK.nil) (by kernel_rfl) (fun iv x => by kernel_rfl)
theorem wire_Frames.h1 : LsOK Tryd.prog wire_Frames.C wire_Frames.root (lkL [([0, 1, 0, 1, 1, 1, 1], wire_Frames.e1), ([0, 1, 0, 1, 1], wire_Frames.e0)]) :=
 LsOK.cons wire_Frames.hC (wire_Frames.h0) (by kernel_rfl) (fun iv x => by kernel_rfl)
theorem wire_Frames.ok : FnOK Tryd.prog 35 wire_Frames.fn :=
 FnOK.of (L := lkL [([0, 1, 0, 1, 1, 1, 1], wire_Frames.e1), ([0, 1, 0, 1, 1], wire_Frames.e0)]) (root := wire_Frames.root) wire_Frames.hC (enters_of (c := wire_Frames.root) Tryd.func35 (by kernel_rfl) (by kernel_rfl)) Tryd.func35 (by kernel_rfl) (rs := [.tmp 2, .tmp 3]) (by kernel_rfl) (by kernel_rfl) wire_Frames.h1 (fun x => by kernel_rfl)
noncomputable def ref8_number.s0 (v0_0 : Int) (v0_1 : Int) (v0_10 : Int) (x0_11 : Int) (o0_0 : (List UInt8)) : Option ((Int × (List UInt8)) ⊕ (List UInt8)) :=
 (cb (decide (x0_11 < v0_10)) (ck (InR (v0_1 - (1 : Int))) (ck (InR ((v0_1 - (1 : Int)) - x0_11)) (let y5 : Int := ((v0_1 - (1 : Int)) - x0_11); (ck (InR ((8 : Int) * x0_11)) (ck (0 ≤ ((8 : Int) * x0_11)) (let y6 : Int := (Int.fdiv v0_0 (2 ^ min (Int.toNat ((8 : Int) * x0_11)) (IntKind.bits .i64))); (let y7 : UInt8 := (UInt8.ofInt (IntKind.u8.wrap y6)); (ck (0 ≤ y5 ∧ y5 < ((List.length o0_0 : Nat) : Int)) (ck ((Int.toNat y5) < List.length o0_0) (ck (InR (x0_11 + (1 : Int))) (some (.inl ((x0_11 + (1 : Int)), (List.set o0_0 (Int.toNat y5) y7)))))))))))))) (some (.inr o0_0)))
noncomputable def ref8_number.l0 (v0_0 : Int) (v0_1 : Int) (v0_10 : Int) (x0_11 : Int) (o0_0 : (List UInt8)) : Option (List UInt8) :=
 loopX (fun (x : (Int × (List UInt8))) => ref8_number.s0 v0_0 v0_1 v0_10 x.1 x.2) (x0_11, o0_0)
noncomputable def ref8_number.e0 : Ent where
 pre := []
 inv := [(0, .val (.int .i64)), (1, .val (.int .i64)), (10, .val (.int .i64))]
 car := ⟨[(5, .own 0 1), (11, .val (.int .i64))], [.row 5 .byte]⟩
 exits := [(.exit 0, ⟨[(5, .own 0 1)], [.row 5 .byte]⟩)]
 step := fun iv x => ref8_number.s0 iv.1 iv.2.1 iv.2.2 x.1 x.2
noncomputable def ref8_number.f (a0 : Int) (a1 : Int) : Option (List UInt8) :=
 (ck (0 ≤ a1 ∧ a1 * (1 : Int) ≤ 140737488355328) (let y1 : Int := ((List.length (List.replicate (Int.toNat a1) (0 : UInt8)) : Nat) : Int); (ob (ref8_number.l0 a0 a1 y1 (0 : Int) (List.replicate (Int.toNat a1) (0 : UInt8))) fun r8 => (some r8))))
noncomputable def ref8_number.fn : TFn := ⟨[(.int .i64), (.int .i64)], [(.slice .byte)], fun x => ref8_number.f x.1 x.2⟩
noncomputable def ref8_number.C : Cx := ⟨T, TYt, lkF [], lkO [], lkD [], lkP [], [], [], false, [], 27⟩
theorem ref8_number.hC : CxOK Tryd.prog ref8_number.C := ⟨tabOK, FsOK.nil, OsOK.nil, mixed, (fun t h => by cases h), (fun t e h => by cases h)⟩
noncomputable def ref8_number.root : Code := bodyOf Tryd.f72
theorem ref8_number.h0 : LsOK Tryd.prog ref8_number.C ref8_number.root (lkL [([0, 1, 0, 1, 1], ref8_number.e0)]) :=
 LsOK.cons ref8_number.hC (LsOK.nil) (by kernel_rfl) (fun iv x => by kernel_rfl)
theorem ref8_number.ok : FnOK Tryd.prog 72 ref8_number.fn :=
 FnOK.of (L := lkL [([0, 1, 0, 1, 1], ref8_number.e0)]) (root := ref8_number.root) ref8_number.hC (enters_of (c := ref8_number.root) Tryd.func72 (by kernel_rfl) (by kernel_rfl)) Tryd.func72 (by kernel_rfl) (rs := [.tmp 4]) (by kernel_rfl) (by kernel_rfl) ref8_number.h0 (fun x => by kernel_rfl)
noncomputable def ref8_Frames.s0 (v0_13 : (List (Int × (ByteArray × (Int × (Int × (List UInt8))))))) (v0_14 : Int) (x0_15 : Int) : Option (Int ⊕ (((List UInt8) × Int) ⊕ Unit)) :=
 (cb (decide (x0_15 < v0_14)) (ck (0 ≤ x0_15 ∧ x0_15 < ((List.length v0_13 : Nat) : Int)) (let y5 : (Int × (ByteArray × (Int × (Int × (List UInt8))))) := (rd ((0 : Int), (ByteArray.empty, ((0 : Int), ((0 : Int), ([] : (List UInt8)))))) v0_13 x0_15); (ob (ref8_checkMessage.f y5) fun r6 => (cb (!decide (r6 = (0 : Int))) (some (.inr (.inl (([] : List UInt8), r6)))) (ck (InR (x0_15 + (1 : Int))) (some (.inl (x0_15 + (1 : Int))))))))) (some (.inr (.inr ()))))
noncomputable def ref8_Frames.l0 (v0_13 : (List (Int × (ByteArray × (Int × (Int × (List UInt8))))))) (v0_14 : Int) (x0_15 : Int) : Option (((List UInt8) × Int) ⊕ Unit) :=
 loopX (fun (x : Int) => ref8_Frames.s0 v0_13 v0_14 x) x0_15
noncomputable def ref8_Frames.e0 : Ent where
 pre := []
 inv := [(0, .val (.slice (.pair (.int .i64) (.pair .str (.pair (.int .i64) (.pair (.int .i64) (.slice .byte))))))), (13, .val (.slice (.pair (.int .i64) (.pair .str (.pair (.int .i64) (.pair (.int .i64) (.slice .byte))))))), (14, .val (.int .i64))]
 car := ⟨[(15, .val (.int .i64))], []⟩
 exits := [(.ret, ⟨[(2, .val (.slice .byte)), (3, .val (.int .i64))], []⟩), (.exit 0, ⟨[], []⟩)]
 step := fun iv x => ref8_Frames.s0 iv.2.1 iv.2.2 x
noncomputable def ref8_Frames.s1 (v1_25 : (List (Int × (ByteArray × (Int × (Int × (List UInt8))))))) (v1_26 : Int) (x1_27 : Int) (o1_0 : (List UInt8)) : Option ((Int × (List UInt8)) ⊕ (List UInt8)) :=
 (cb (decide (x1_27 < v1_26)) (ck (0 ≤ x1_27 ∧ x1_27 < ((List.length v1_25 : Nat) : Int)) (let y17 : (Int × (ByteArray × (Int × (Int × (List UInt8))))) := (rd ((0 : Int), (ByteArray.empty, ((0 : Int), ((0 : Int), ([] : (List UInt8)))))) v1_25 x1_27); (let y18 : UInt8 := (UInt8.ofInt (IntKind.u8.wrap y17.1)); (ck ((List.length o1_0 + List.length ([y18] : List UInt8)) * 1 ≤ 140737488355328) (ck ((List.length (o1_0 ++ ([y18] : List UInt8)) + List.length (Array.toList (ByteArray.data y17.2.1))) * 1 ≤ 140737488355328) (ck (InR (y17.2.2.1 + y17.2.2.2.1)) (let y19 : Int := (y17.2.2.1 + y17.2.2.2.1); (ob (ref8_number.f y19 (4 : Int)) fun r20 => (ck ((List.length ((o1_0 ++ ([y18] : List UInt8)) ++ (Array.toList (ByteArray.data y17.2.1))) + List.length r20) * 1 ≤ 140737488355328) (let y21 : Int := ((List.length y17.2.2.2.2 : Nat) : Int); (ob (ref8_number.f y21 (3 : Int)) fun r22 => (ck ((List.length (((o1_0 ++ ([y18] : List UInt8)) ++ (Array.toList (ByteArray.data y17.2.1))) ++ r20) + List.length r22) * 1 ≤ 140737488355328) (ck ((List.length ((((o1_0 ++ ([y18] : List UInt8)) ++ (Array.toList (ByteArray.data y17.2.1))) ++ r20) ++ r22) + List.length y17.2.2.2.2) * 1 ≤ 140737488355328) (ck (InR (x1_27 + (1 : Int))) (some (.inl ((x1_27 + (1 : Int)), (((((o1_0 ++ ([y18] : List UInt8)) ++ (Array.toList (ByteArray.data y17.2.1))) ++ r20) ++ r22) ++ y17.2.2.2.2)))))))))))))))))) (some (.inr o1_0)))
noncomputable def ref8_Frames.l1 (v1_25 : (List (Int × (ByteArray × (Int × (Int × (List UInt8))))))) (v1_26 : Int) (x1_27 : Int) (o1_0 : (List UInt8)) : Option (List UInt8) :=
 loopX (fun (x : (Int × (List UInt8))) => ref8_Frames.s1 v1_25 v1_26 x.1 x.2) (x1_27, o1_0)
noncomputable def ref8_Frames.e1 : Ent where
 pre := [.nil 7 5 .byte]
 inv := [(25, .val (.slice (.pair (.int .i64) (.pair .str (.pair (.int .i64) (.pair (.int .i64) (.slice .byte))))))), (26, .val (.int .i64))]
 car := ⟨[(7, .own 0 1), (27, .val (.int .i64))], [.row 5 .byte]⟩
 exits := [(.exit 2, ⟨[(7, .own 0 1)], [.row 5 .byte]⟩)]
 step := fun iv x => ref8_Frames.s1 iv.1 iv.2 x.1 x.2
noncomputable def ref8_Frames.f (a0 : (List (Int × (ByteArray × (Int × (Int × (List UInt8))))))) : Option ((List UInt8) × Int) :=
 (let y1 : Int := ((List.length a0 : Nat) : Int); (cb (decide ((20000 : Int) < y1)) (some (([] : List UInt8), (2 : Int))) (let y2 : Int := ((List.length a0 : Nat) : Int); (ob (ref8_Frames.l0 a0 y2 (0 : Int)) fun r7 => (caseS r7 (fun a8 => (some (a8.1, a8.2))) (fun b9 => (let y10 : Int := ((List.length a0 : Nat) : Int); (ob (ref8_Frames.l1 a0 y10 (0 : Int) ([] : List UInt8)) fun r23 => (some (r23, (0 : Int)))))))))))
noncomputable def ref8_Frames.fn : TFn := ⟨[(.slice (.pair (.int .i64) (.pair .str (.pair (.int .i64) (.pair (.int .i64) (.slice .byte))))))], [(.slice .byte), (.int .i64)], fun x => ref8_Frames.f x⟩
noncomputable def ref8_Frames.C : Cx := ⟨T, TYt, lkF [(71, ref8_checkMessage.fn), (72, ref8_number.fn)], lkO [], lkD [], lkP [], [5, 9], [], false, [], 61⟩
theorem ref8_Frames.hC : CxOK Tryd.prog ref8_Frames.C := ⟨tabOK, FsOK.cons ref8_checkMessage.ok (FsOK.cons ref8_number.ok (FsOK.nil)), OsOK.nil, mixed, (fun t h => by cases h), (fun t e h => by cases h)⟩
noncomputable def ref8_Frames.root : Code := bodyOf Tryd.f36
theorem ref8_Frames.h0 : LsOK Tryd.prog ref8_Frames.C ref8_Frames.root (lkL [([0, 1, 0, 1, 1], ref8_Frames.e0)]) :=
 LsOK.cons ref8_Frames.hC (LsOK.nil) (by kernel_rfl) (fun iv x => by kernel_rfl)
theorem ref8_Frames.h1 : LsOK Tryd.prog ref8_Frames.C ref8_Frames.root (lkL [([0, 1, 0, 1, 1, 1, 1], ref8_Frames.e1), ([0, 1, 0, 1, 1], ref8_Frames.e0)]) :=
 LsOK.cons ref8_Frames.hC (ref8_Frames.h0) (by kernel_rfl) (fun iv x => by kernel_rfl)
theorem ref8_Frames.ok : FnOK Tryd.prog 36 ref8_Frames.fn :=
 FnOK.of (L := lkL [([0, 1, 0, 1, 1, 1, 1], ref8_Frames.e1), ([0, 1, 0, 1, 1], ref8_Frames.e0)]) (root := ref8_Frames.root) ref8_Frames.hC (enters_of (c := ref8_Frames.root) Tryd.func36 (by kernel_rfl) (by kernel_rfl)) Tryd.func36 (by kernel_rfl) (rs := [.tmp 2, .tmp 3]) (by kernel_rfl) (by kernel_rfl) ref8_Frames.h1 (fun x => by kernel_rfl)
noncomputable def law8_WireFramesMatchSpec.f (a0 : (List (Int × (ByteArray × (Int × (Int × (List UInt8))))))) : Option Bool :=
 (ob (ref8_CopyMessages.f a0) fun r1 => (ob (wire_Frames.f a0) fun r2 => (ob (ref8_Frames.f r1) fun r3 => (cb (!decide (r2.2 = r3.2)) (some false) (ob (slices_Equal_byte_byte.f r2.1 r3.1) fun r4 => (cb (!r4) (some false) (ob (ref8_SameMessages.f a0 r1) fun r5 => (cb (!r5) (some false) (ob (law8_awake.f) fun r6 => (cb (!r6) (some false) (cb (!decide (r2.2 = (0 : Int))) (some true) (ob (wire_Feed.f ([] : List UInt8) r2.1) fun r7 => (cb (decide (r7.2.2.2 = (2 : Int))) (let y8 : Int := ((List.length r2.1 : Nat) : Int); (cb (decide ((2000000 : Int) < y8)) (some true) (cb (decide (r7.2.2.2 = (0 : Int))) (cb (decide (r7.2.2.1 = (0 : Int))) (let y9 : Int := ((List.length r7.2.1 : Nat) : Int); (cb (decide (y9 = (0 : Int))) (ob (ref8_SameMessages.f a0 r7.1) fun r10 => (some r10)) (some false))) (some false)) (some false)))) (cb (decide (r7.2.2.2 = (0 : Int))) (cb (decide (r7.2.2.1 = (0 : Int))) (let y11 : Int := ((List.length r7.2.1 : Nat) : Int); (cb (decide (y11 = (0 : Int))) (ob (ref8_SameMessages.f a0 r7.1) fun r12 => (some r12)) (some false))) (some false)) (some false)))))))))))))))
noncomputable def law8_WireFramesMatchSpec.fn : TFn := ⟨[(.slice (.pair (.int .i64) (.pair .str (.pair (.int .i64) (.pair (.int .i64) (.slice .byte))))))], [.bool], fun x => law8_WireFramesMatchSpec.f x⟩
noncomputable def law8_WireFramesMatchSpec.C : Cx := ⟨T, TYt, lkF [(17, law8_awake.fn), (21, ref8_SameMessages.fn), (22, slices_Equal_byte_byte.fn), (32, wire_Feed.fn), (34, ref8_CopyMessages.fn), (35, wire_Frames.fn), (36, ref8_Frames.fn)], lkO [], lkD [], lkP [], [], [], false, [], 76⟩
theorem law8_WireFramesMatchSpec.hC : CxOK Tryd.prog law8_WireFramesMatchSpec.C := ⟨tabOK, FsOK.cons law8_awake.ok (FsOK.cons ref8_SameMessages.ok (FsOK.cons slices_Equal_byte_byte.ok (FsOK.cons wire_Feed.ok (FsOK.cons ref8_CopyMessages.ok (FsOK.cons wire_Frames.ok (FsOK.cons ref8_Frames.ok (FsOK.nil))))))), OsOK.nil, mixed, (fun t h => by cases h), (fun t e h => by cases h)⟩
noncomputable def law8_WireFramesMatchSpec.root : Code := bodyOf Tryd.f7
theorem law8_WireFramesMatchSpec.ok : FnOK Tryd.prog 7 law8_WireFramesMatchSpec.fn :=
 FnOK.of (L := lkL []) (root := law8_WireFramesMatchSpec.root) law8_WireFramesMatchSpec.hC (enters_of (c := law8_WireFramesMatchSpec.root) Tryd.func7 (by kernel_rfl) (by kernel_rfl)) Tryd.func7 (by kernel_rfl) (rs := [.tmp 2]) (by kernel_rfl) (by kernel_rfl) LsOK.nil (fun x => by kernel_rfl)
noncomputable def slices_Clone_int_int.f (a0 : (List Int)) : Option (List Int) :=
 (nq (¬ a0 = ([] : List Int)) (ck ((List.length ([] : List Int) + List.length a0) * 8 ≤ 140737488355328) (some (([] : List Int) ++ a0))) (some ([] : List Int)))
noncomputable def slices_Clone_int_int.fn : TFn := ⟨[(.slice (.int .i64))], [(.slice (.int .i64))], fun x => slices_Clone_int_int.f x⟩
noncomputable def slices_Clone_int_int.C : Cx := ⟨T, TYt, lkF [], lkO [], lkD [], lkP [], [], [], false, [], 8⟩
theorem slices_Clone_int_int.hC : CxOK Tryd.prog slices_Clone_int_int.C := ⟨tabOK, FsOK.nil, OsOK.nil, mixed, (fun t h => by cases h), (fun t e h => by cases h)⟩
noncomputable def slices_Clone_int_int.root : Code := bodyOf Tryd.f37
theorem slices_Clone_int_int.ok : FnOK Tryd.prog 37 slices_Clone_int_int.fn :=
 FnOK.of (L := lkL []) (root := slices_Clone_int_int.root) slices_Clone_int_int.hC (enters_of (c := slices_Clone_int_int.root) Tryd.func37 (by kernel_rfl) (by kernel_rfl)) Tryd.func37 (by kernel_rfl) (rs := [.tmp 2]) (by kernel_rfl) (by kernel_rfl) LsOK.nil (fun x => by kernel_rfl)
noncomputable def ref8_Below.f (a0 : Int) (a1 : Int) : Option Int :=
 (ck (a1 ≠ 0) (cb (decide ((Int.tmod a0 a1) < (0 : Int))) (ck (InR ((Int.tmod a0 a1) + a1)) (some ((Int.tmod a0 a1) + a1))) (some (Int.tmod a0 a1))))
noncomputable def ref8_Below.fn : TFn := ⟨[(.int .i64), (.int .i64)], [(.int .i64)], fun x => ref8_Below.f x.1 x.2⟩
noncomputable def ref8_Below.C : Cx := ⟨T, TYt, lkF [], lkO [], lkD [], lkP [], [], [], false, [], 14⟩
theorem ref8_Below.hC : CxOK Tryd.prog ref8_Below.C := ⟨tabOK, FsOK.nil, OsOK.nil, mixed, (fun t h => by cases h), (fun t e h => by cases h)⟩
noncomputable def ref8_Below.root : Code := bodyOf Tryd.f38
theorem ref8_Below.ok : FnOK Tryd.prog 38 ref8_Below.fn :=
 FnOK.of (L := lkL []) (root := ref8_Below.root) ref8_Below.hC (enters_of (c := ref8_Below.root) Tryd.func38 (by kernel_rfl) (by kernel_rfl)) Tryd.func38 (by kernel_rfl) (rs := [.tmp 4]) (by kernel_rfl) (by kernel_rfl) LsOK.nil (fun x => by kernel_rfl)
noncomputable def slices_Clone_int_int_o.f (a0 : (List Int)) : Option (List Int) :=
 (nq (¬ a0 = ([] : List Int)) (ck ((List.length ([] : List Int) + List.length a0) * 8 ≤ 140737488355328) (some (([] : List Int) ++ a0))) (some ([] : List Int)))
noncomputable def slices_Clone_int_int_o.fn : TFo := ⟨[(.slice (.int .i64))], [(.slice (.int .i64))], [some 3], fun x => slices_Clone_int_int_o.f x⟩
noncomputable def slices_Clone_int_int_o.C : Cx := ⟨T, TYt, lkF [], lkO [], lkD [], lkP [], [], [], false, [], 8⟩
theorem slices_Clone_int_int_o.hC : CxOK Tryd.prog slices_Clone_int_int_o.C := ⟨tabOK, FsOK.nil, OsOK.nil, mixed, (fun t h => by cases h), (fun t e h => by cases h)⟩
noncomputable def slices_Clone_int_int_o.root : Code := bodyOf Tryd.f37
theorem slices_Clone_int_int_o.ok : FnOKo Tryd.prog 37 slices_Clone_int_int_o.fn :=
 FnOKo.of (L := lkL []) (root := slices_Clone_int_int_o.root) slices_Clone_int_int_o.hC (enters_of (c := slices_Clone_int_int_o.root) Tryd.func37 (by kernel_rfl) (by kernel_rfl)) Tryd.func37 (by kernel_rfl) (rs := [.tmp 2]) (by kernel_rfl) (by kernel_rfl) LsOK.nil (fun x => by kernel_rfl)
noncomputable def slices_Concat_byte_byte_o.s0 (v0_9 : (List (List UInt8))) (v0_10 : Int) (x0_3 : Int) (x0_11 : Int) : Option ((Int × Int) ⊕ Int) :=
 (cb (decide (x0_11 < v0_10)) (ck (0 ≤ x0_11 ∧ x0_11 < ((List.length v0_9 : Nat) : Int)) (let y4 : (List UInt8) := (rd ([] : (List UInt8)) v0_9 x0_11); (let y5 : Int := ((List.length y4 : Nat) : Int); (ck (InR (x0_3 + y5)) (cb (decide ((x0_3 + y5) < (0 : Int))) none (ck (InR (x0_11 + (1 : Int))) (some (.inl ((x0_3 + y5), (x0_11 + (1 : Int))))))))))) (some (.inr x0_3)))
noncomputable def slices_Concat_byte_byte_o.l0 (v0_9 : (List (List UInt8))) (v0_10 : Int) (x0_3 : Int) (x0_11 : Int) : Option Int :=
 loopX (fun (x : (Int × Int)) => slices_Concat_byte_byte_o.s0 v0_9 v0_10 x.1 x.2) (x0_3, x0_11)
noncomputable def slices_Concat_byte_byte_o.e0 : Ent where
 pre := []
 inv := [(0, .val (.slice (.slice .byte))), (9, .val (.slice (.slice .byte))), (10, .val (.int .i64))]
 car := ⟨[(3, .val (.int .i64)), (11, .val (.int .i64))], []⟩
 exits := [(.exit 0, ⟨[(3, .val (.int .i64))], []⟩)]
 step := fun iv x => slices_Concat_byte_byte_o.s0 iv.2.1 iv.2.2 x.1 x.2
noncomputable def slices_Concat_byte_byte_o.s1 (v1_25 : (List (List UInt8))) (v1_26 : Int) (x1_27 : Int) (o1_0 : (List UInt8)) : Option ((Int × (List UInt8)) ⊕ (List UInt8)) :=
 (cb (decide (x1_27 < v1_26)) (ck (0 ≤ x1_27 ∧ x1_27 < ((List.length v1_25 : Nat) : Int)) (let y10 : (List UInt8) := (rd ([] : (List UInt8)) v1_25 x1_27); (ck ((List.length o1_0 + List.length y10) * 1 ≤ 140737488355328) (ck (InR (x1_27 + (1 : Int))) (some (.inl ((x1_27 + (1 : Int)), (o1_0 ++ y10)))))))) (some (.inr o1_0)))
noncomputable def slices_Concat_byte_byte_o.l1 (v1_25 : (List (List UInt8))) (v1_26 : Int) (x1_27 : Int) (o1_0 : (List UInt8)) : Option (List UInt8) :=
 loopX (fun (x : (Int × (List UInt8))) => slices_Concat_byte_byte_o.s1 v1_25 v1_26 x.1 x.2) (x1_27, o1_0)
noncomputable def slices_Concat_byte_byte_o.e1 : Ent where
 pre := []
 inv := [(25, .val (.slice (.slice .byte))), (26, .val (.int .i64))]
 car := ⟨[(6, .own 0 1), (27, .val (.int .i64))], [.row 5 .byte]⟩
 exits := [(.exit 2, ⟨[(6, .own 0 1)], [.row 5 .byte]⟩)]
 step := fun iv x => slices_Concat_byte_byte_o.s1 iv.1 iv.2 x.1 x.2
noncomputable def slices_Concat_byte_byte_o.f (a0 : (List (List UInt8))) : Option (List UInt8) :=
 (let y1 : Int := ((List.length a0 : Nat) : Int); (ob (slices_Concat_byte_byte_o.l0 a0 y1 (0 : Int) (0 : Int)) fun r6 => (ob (slices_Grow_byte_byte_n0_o.f () r6) fun r7 => (let y8 : Int := ((List.length a0 : Nat) : Int); (ob (slices_Concat_byte_byte_o.l1 a0 y8 (0 : Int) r7) fun r11 => (some r11))))))
noncomputable def slices_Concat_byte_byte_o.fn : TFo := ⟨[(.slice (.slice .byte))], [(.slice .byte)], [some 5], fun x => slices_Concat_byte_byte_o.f x⟩
noncomputable def slices_Concat_byte_byte_o.C : Cx := ⟨T, TYt, lkF [], lkO [(94, slices_Grow_byte_byte_n0_o.fn)], lkD [], lkP [], [], [], false, [], 36⟩
theorem slices_Concat_byte_byte_o.hC : CxOK Tryd.prog slices_Concat_byte_byte_o.C := ⟨tabOK, FsOK.nil, OsOK.cons slices_Grow_byte_byte_n0_o.ok (OsOK.nil), mixed, (fun t h => by cases h), (fun t e h => by cases h)⟩
noncomputable def slices_Concat_byte_byte_o.root : Code := bodyOf Tryd.f67
theorem slices_Concat_byte_byte_o.h0 : LsOK Tryd.prog slices_Concat_byte_byte_o.C slices_Concat_byte_byte_o.root (lkL [([0, 1, 0, 1, 1], slices_Concat_byte_byte_o.e0)]) :=
 LsOK.cons slices_Concat_byte_byte_o.hC (LsOK.nil) (by kernel_rfl) (fun iv x => by kernel_rfl)
theorem slices_Concat_byte_byte_o.h1 : LsOK Tryd.prog slices_Concat_byte_byte_o.C slices_Concat_byte_byte_o.root (lkL [([0, 1, 0, 1, 1, 1, 1], slices_Concat_byte_byte_o.e1), ([0, 1, 0, 1, 1], slices_Concat_byte_byte_o.e0)]) :=
 LsOK.cons slices_Concat_byte_byte_o.hC (slices_Concat_byte_byte_o.h0) (by kernel_rfl) (fun iv x => by kernel_rfl)
theorem slices_Concat_byte_byte_o.ok : FnOKo Tryd.prog 67 slices_Concat_byte_byte_o.fn :=
 FnOKo.of (L := lkL [([0, 1, 0, 1, 1, 1, 1], slices_Concat_byte_byte_o.e1), ([0, 1, 0, 1, 1], slices_Concat_byte_byte_o.e0)]) (root := slices_Concat_byte_byte_o.root) slices_Concat_byte_byte_o.hC (enters_of (c := slices_Concat_byte_byte_o.root) Tryd.func67 (by kernel_rfl) (by kernel_rfl)) Tryd.func67 (by kernel_rfl) (rs := [.tmp 2]) (by kernel_rfl) (by kernel_rfl) slices_Concat_byte_byte_o.h1 (fun x => by kernel_rfl)
noncomputable def slices_Clone_byte_byte_o.f (a0 : (List UInt8)) : Option (List UInt8) :=
 (nq (¬ a0 = ([] : List UInt8)) (ck ((List.length ([] : List UInt8) + List.length a0) * 1 ≤ 140737488355328) (some (([] : List UInt8) ++ a0))) (some ([] : List UInt8)))
noncomputable def slices_Clone_byte_byte_o.fn : TFo := ⟨[(.slice .byte)], [(.slice .byte)], [some 5], fun x => slices_Clone_byte_byte_o.f x⟩
noncomputable def slices_Clone_byte_byte_o.C : Cx := ⟨T, TYt, lkF [], lkO [], lkD [], lkP [], [], [], false, [], 8⟩
theorem slices_Clone_byte_byte_o.hC : CxOK Tryd.prog slices_Clone_byte_byte_o.C := ⟨tabOK, FsOK.nil, OsOK.nil, mixed, (fun t h => by cases h), (fun t e h => by cases h)⟩
noncomputable def slices_Clone_byte_byte_o.root : Code := bodyOf Tryd.f18
theorem slices_Clone_byte_byte_o.ok : FnOKo Tryd.prog 18 slices_Clone_byte_byte_o.fn :=
 FnOKo.of (L := lkL []) (root := slices_Clone_byte_byte_o.root) slices_Clone_byte_byte_o.hC (enters_of (c := slices_Clone_byte_byte_o.root) Tryd.func18 (by kernel_rfl) (by kernel_rfl)) Tryd.func18 (by kernel_rfl) (rs := [.tmp 2]) (by kernel_rfl) (by kernel_rfl) LsOK.nil (fun x => by kernel_rfl)
noncomputable def law8_WireFeedInPieces.s0 (v0_5 : (List UInt8)) (v0_36 : Int) (x0_7 : (List UInt8)) (x0_9 : Int) (x0_37 : Int) (o0_0 : (List Int)) (o0_1 : (List Int)) (o0_2 : (List (Int × (ByteArray × (Int × (Int × (List UInt8))))))) : Option (((List UInt8) × (Int × (Int × ((List Int) × ((List Int) × (List (Int × (ByteArray × (Int × (Int × (List UInt8))))))))))) ⊕ (Bool ⊕ ((List UInt8) × ((List Int) × ((List Int) × (List (Int × (ByteArray × (Int × (Int × (List UInt8))))))))))) :=
 (cb (decide (x0_37 < v0_36)) (ck (0 ≤ x0_37 ∧ x0_37 < ((List.length o0_0 : Nat) : Int)) (ck ((Int.toNat x0_37) < List.length o0_0) (let y25 : Int := (List.getD o0_0 (Int.toNat x0_37) (0 : Int)); (let y26 : Int := ((List.length v0_5 : Nat) : Int); (ck (InR (y26 - x0_9)) (ck (InR ((y26 - x0_9) + (1 : Int))) (let y27 : Int := ((y26 - x0_9) + (1 : Int)); (ob (ref8_Below.f y25 y27) fun r28 => (ck (InR (x0_9 + r28)) (let y29 : Int := ((List.length v0_5 : Nat) : Int); (cb (decide (y25 = y29)) (let y30 : Int := ((List.length v0_5 : Nat) : Int); (ck (0 ≤ x0_9 ∧ x0_9 ≤ y30 ∧ y30 ≤ ((List.length v0_5 : Nat) : Int)) (let y31 : (List UInt8) := (List.drop (Int.toNat x0_9) (List.take (Int.toNat y30) v0_5)); (ob (wire_Feed.f x0_7 y31) fun r32 => (cb (!decide (r32.2.2.2 = (0 : Int))) (cb (decide (r32.2.2.2 = (2 : Int))) (let y33 : Int := ((List.length v0_5 : Nat) : Int); (cb (decide ((2000000 : Int) < y33)) (ob (law8_awake.f) fun r34 => (some (.inr (.inl r34)))) (some (.inr (.inl false))))) (some (.inr (.inl false)))) (cb (!decide (r32.2.2.1 = (0 : Int))) (cb (decide (r32.2.2.2 = (2 : Int))) (let y35 : Int := ((List.length v0_5 : Nat) : Int); (cb (decide ((2000000 : Int) < y35)) (ob (law8_awake.f) fun r36 => (some (.inr (.inl r36)))) (some (.inr (.inl false))))) (some (.inr (.inl false)))) (ck ((List.length o0_2 + List.length r32.1) * 64 ≤ 140737488355328) (ck (InR (x0_37 + (1 : Int))) (some (.inl (r32.2.1, y30, (x0_37 + (1 : Int)), o0_0, o0_1, (o0_2 ++ r32.1)))))))))))) (ck (0 ≤ x0_9 ∧ x0_9 ≤ (x0_9 + r28) ∧ (x0_9 + r28) ≤ ((List.length v0_5 : Nat) : Int)) (let y37 : (List UInt8) := (List.drop (Int.toNat x0_9) (List.take (Int.toNat (x0_9 + r28)) v0_5)); (ob (wire_Feed.f x0_7 y37) fun r38 => (cb (!decide (r38.2.2.2 = (0 : Int))) (cb (decide (r38.2.2.2 = (2 : Int))) (let y39 : Int := ((List.length v0_5 : Nat) : Int); (cb (decide ((2000000 : Int) < y39)) (ob (law8_awake.f) fun r40 => (some (.inr (.inl r40)))) (some (.inr (.inl false))))) (some (.inr (.inl false)))) (cb (!decide (r38.2.2.1 = (0 : Int))) (cb (decide (r38.2.2.2 = (2 : Int))) (let y41 : Int := ((List.length v0_5 : Nat) : Int); (cb (decide ((2000000 : Int) < y41)) (ob (law8_awake.f) fun r42 => (some (.inr (.inl r42)))) (some (.inr (.inl false))))) (some (.inr (.inl false)))) (ck ((List.length o0_2 + List.length r38.1) * 64 ≤ 140737488355328) (ck (InR (x0_37 + (1 : Int))) (some (.inl (r38.2.1, (x0_9 + r28), (x0_37 + (1 : Int)), o0_0, o0_1, (o0_2 ++ r38.1)))))))))))))))))))))) (some (.inr (.inr (x0_7, o0_0, o0_1, o0_2)))))
noncomputable def law8_WireFeedInPieces.l0 (v0_5 : (List UInt8)) (v0_36 : Int) (x0_7 : (List UInt8)) (x0_9 : Int) (x0_37 : Int) (o0_0 : (List Int)) (o0_1 : (List Int)) (o0_2 : (List (Int × (ByteArray × (Int × (Int × (List UInt8))))))) : Option (Bool ⊕ ((List UInt8) × ((List Int) × ((List Int) × (List (Int × (ByteArray × (Int × (Int × (List UInt8)))))))))) :=
 loopX (fun (x : ((List UInt8) × (Int × (Int × ((List Int) × ((List Int) × (List (Int × (ByteArray × (Int × (Int × (List UInt8)))))))))))) => law8_WireFeedInPieces.s0 v0_5 v0_36 x.1 x.2.1 x.2.2.1 x.2.2.2.1 x.2.2.2.2.1 x.2.2.2.2.2) (x0_7, x0_9, x0_37, o0_0, o0_1, o0_2)
noncomputable def law8_WireFeedInPieces.e0 : Ent where
 pre := [.nil 8 63 (.pair (.int .i64) (.pair .str (.pair (.int .i64) (.pair (.int .i64) (.slice .byte)))))]
 inv := [(0, .val (.slice (.pair (.int .i64) (.pair .str (.pair (.int .i64) (.pair (.int .i64) (.slice .byte))))))), (5, .val (.slice .byte)), (36, .val (.int .i64))]
 car := ⟨[(7, .val (.slice .byte)), (8, .own 2 5), (9, .val (.int .i64)), (35, .own 0 1), (37, .val (.int .i64))], [.row 3 (.int .i64), .row 3 (.int .i64), .row 63 (.pair (.int .i64) (.pair .str (.pair (.int .i64) (.pair (.int .i64) (.slice .byte)))))]⟩
 exits := [(.ret, ⟨[(4, .val .bool)], []⟩), (.exit 0, ⟨[(7, .val (.slice .byte)), (8, .own 2 5)], [.row 3 (.int .i64), .row 3 (.int .i64), .row 63 (.pair (.int .i64) (.pair .str (.pair (.int .i64) (.pair (.int .i64) (.slice .byte)))))]⟩)]
 step := fun iv x => law8_WireFeedInPieces.s0 iv.2.1 iv.2.2 x.1 x.2.1 x.2.2.1 x.2.2.2.1 x.2.2.2.2.1 x.2.2.2.2.2
noncomputable def law8_WireFeedInPieces.f (a0 : (List (Int × (ByteArray × (Int × (Int × (List UInt8))))))) (a1 : (List Int)) : Option Bool :=
 (ob (wire_Frames.f a0) fun r1 => (cb (!decide (r1.2 = (0 : Int))) (let y2 : Int := ((List.length r1.1 : Nat) : Int); (cb (decide (y2 = (0 : Int))) (ob (law8_awake.f) fun r3 => (some r3)) (some false))) (ob (slices_Clone_int_int_o.f a1) fun r4 => (let y5 : Int := ((List.length r1.1 : Nat) : Int); (ck ((List.length r4 + List.length ([y5] : List Int)) * 8 ≤ 140737488355328) (let y6 : Int := ((List.length (r4 ++ ([y5] : List Int)) : Nat) : Int); (ob (law8_WireFeedInPieces.l0 r1.1 y6 ([] : List UInt8) (0 : Int) (0 : Int) (r4 ++ ([y5] : List Int)) ([y5] : List Int) ([] : List (Int × (ByteArray × (Int × (Int × (List UInt8))))))) fun r43 => (caseS r43 (fun a44 => (some a44)) (fun b45 => (let y46 : Int := ((List.length b45.1 : Nat) : Int); (cb (decide (y46 = (0 : Int))) (ob (ref8_SameMessages.f a0 b45.2.2.2) fun r47 => (cb r47 (ob (law8_awake.f) fun r48 => (some r48)) (some false))) (some false))))))))))))
noncomputable def law8_WireFeedInPieces.fn : TFn := ⟨[(.slice (.pair (.int .i64) (.pair .str (.pair (.int .i64) (.pair (.int .i64) (.slice .byte)))))), (.slice (.int .i64))], [.bool], fun x => law8_WireFeedInPieces.f x.1 x.2⟩
noncomputable def law8_WireFeedInPieces.C : Cx := ⟨T, TYt, lkF [(17, law8_awake.fn), (21, ref8_SameMessages.fn), (32, wire_Feed.fn), (35, wire_Frames.fn), (38, ref8_Below.fn)], lkO [(37, slices_Clone_int_int_o.fn)], lkD [], lkP [], [], [], false, [], 100⟩
theorem law8_WireFeedInPieces.hC : CxOK Tryd.prog law8_WireFeedInPieces.C := ⟨tabOK, FsOK.cons law8_awake.ok (FsOK.cons ref8_SameMessages.ok (FsOK.cons wire_Feed.ok (FsOK.cons wire_Frames.ok (FsOK.cons ref8_Below.ok (FsOK.nil))))), OsOK.cons slices_Clone_int_int_o.ok (OsOK.nil), mixed, (fun t h => by cases h), (fun t e h => by cases h)⟩
noncomputable def law8_WireFeedInPieces.root : Code := bodyOf Tryd.f8
theorem law8_WireFeedInPieces.h0 : LsOK Tryd.prog law8_WireFeedInPieces.C law8_WireFeedInPieces.root (lkL [([0, 1, 0, 1, 1, 1, 1, 1, 1], law8_WireFeedInPieces.e0)]) :=
 LsOK.cons law8_WireFeedInPieces.hC (LsOK.nil) (by kernel_rfl) (fun iv x => by kernel_rfl)
theorem law8_WireFeedInPieces.ok : FnOK Tryd.prog 8 law8_WireFeedInPieces.fn :=
 FnOK.of (L := lkL [([0, 1, 0, 1, 1, 1, 1, 1, 1], law8_WireFeedInPieces.e0)]) (root := law8_WireFeedInPieces.root) law8_WireFeedInPieces.hC (enters_of (c := law8_WireFeedInPieces.root) Tryd.func8 (by kernel_rfl) (by kernel_rfl)) Tryd.func8 (by kernel_rfl) (rs := [.tmp 4]) (by kernel_rfl) (by kernel_rfl) law8_WireFeedInPieces.h0 (fun x => by kernel_rfl)
end Go.Proofs.YtpeiomhgaembaaaDoor
