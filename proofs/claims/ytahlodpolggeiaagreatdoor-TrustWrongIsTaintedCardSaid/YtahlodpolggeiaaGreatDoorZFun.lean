/-
  The functions of the trust package and of its laws, printed, each with its proof that the code computes it. No condition.
-/
import Derived.Test.YtahlodpolggeiaaGreatDoorTypes
set_option linter.unusedVariables false
set_option maxRecDepth 100000
namespace Go.Proofs.YtahlodpolggeiaaGreatDoor
open Go Go.Proofs.YtahlodpolggeiaaGreatDoor.Eng
def bs_ : ByteArray := ⟨#[]⟩
def bs_115 : ByteArray := ⟨#[115]⟩
def bs_46 : ByteArray := ⟨#[46]⟩
def bs_46_46 : ByteArray := ⟨#[46, 46]⟩
def bs_46_95_45_43 : ByteArray := ⟨#[46, 95, 45, 43]⟩
def bs_47 : ByteArray := ⟨#[47]⟩
def bs_47_47 : ByteArray := ⟨#[47, 47]⟩
def bs_47_47_97_112_112 : ByteArray := ⟨#[47, 47, 97, 112, 112]⟩
def bs_47_47_97_112_112_108_101_58_120 : ByteArray := ⟨#[47, 47, 97, 112, 112, 108, 101, 58, 120]⟩
def bs_48_49_50_51_52_53_54_55_56_57_97_98_99_100_101_102 : ByteArray := ⟨#[48, 49, 50, 51, 52, 53, 54, 55, 56, 57, 97, 98, 99, 100, 101, 102]⟩
def bs_58 : ByteArray := ⟨#[58]⟩
def bs_97 : ByteArray := ⟨#[97]⟩
def bs_97_98_99_100_101_102_103_104_105_106_107_108_109_110_111_112_113_114_115_116_117_118_119_120_121_122_48_49_50_51_52_53_54_55_56_57_95_45 : ByteArray := ⟨#[97, 98, 99, 100, 101, 102, 103, 104, 105, 106, 107, 108, 109, 110, 111, 112, 113, 114, 115, 116, 117, 118, 119, 120, 121, 122, 48, 49, 50, 51, 52, 53, 54, 55, 56, 57, 95, 45]⟩
noncomputable def blob_IsDigest.f (a0 : ByteArray) : Option Bool :=
 (let y1 : Int := ((ByteArray.size a0 : Nat) : Int); (cb (decide (y1 = (16 : Int))) (ob (strings_Trim.f a0 bs_48_49_50_51_52_53_54_55_56_57_97_98_99_100_101_102) fun r2 => (some (decide (r2 = bs_)))) (some false)))
noncomputable def blob_IsDigest.fn : TFn := ⟨[.str], [.bool], fun x => blob_IsDigest.f x⟩
noncomputable def blob_IsDigest.C : Cx := ⟨T, TYt, lkF [((121, [0, 0]), strings_Trim.fn)], lkO [], lkD [], lkP [], [], [], false, [], [], lkS [], 11⟩
theorem blob_IsDigest.hC : CxOK Tryz.prog blob_IsDigest.C := ⟨tabOK, FsOK.cons strings_Trim.ok (FsOK.nil), OsOK.nil, mixed, (fun t h => by cases h), (fun t e h => by cases h), SsOK.nil⟩
noncomputable def blob_IsDigest.root : Code := bodyOf Tryz.f69
theorem blob_IsDigest.ok : FnOK Tryz.prog 69 blob_IsDigest.fn :=
 FnOK.of (L := lkL []) (root := blob_IsDigest.root) blob_IsDigest.hC (enters_of (c := blob_IsDigest.root) Tryz.func69 (by kernel_rfl) (by kernel_rfl)) Tryz.func69 (by kernel_rfl) (rs := [.tmp 2]) (by kernel_rfl) (by kernel_rfl) LsOK.nil (fun x => by kernel_rfl)
noncomputable def unicode_utf8_RuneCountInString.f (a0 : ByteArray) : Option Int :=
 none
noncomputable def unicode_utf8_RuneCountInString.fn : TFn := ⟨[.str], [(.int .i64)], fun x => unicode_utf8_RuneCountInString.f x⟩
noncomputable def unicode_utf8_RuneCountInString.C : Cx := ⟨T, TYt, lkF [], lkO [], lkD [], lkP [], [], [], false, [], [], lkS [], 10⟩
theorem unicode_utf8_RuneCountInString.hC : CxOK Tryz.prog unicode_utf8_RuneCountInString.C := ⟨tabOK, FsOK.nil, OsOK.nil, mixed, (fun t h => by cases h), (fun t e h => by cases h), SsOK.nil⟩
noncomputable def unicode_utf8_RuneCountInString.root : Code := bodyOf Tryz.f250
theorem unicode_utf8_RuneCountInString.ok : FnOK Tryz.prog 250 unicode_utf8_RuneCountInString.fn :=
 FnOK.of (L := lkL []) (root := unicode_utf8_RuneCountInString.root) unicode_utf8_RuneCountInString.hC (enters_of (c := unicode_utf8_RuneCountInString.root) Tryz.func250 (by kernel_rfl) (by kernel_rfl)) Tryz.func250 (by kernel_rfl) (rs := [.tmp 2]) (by kernel_rfl) (by kernel_rfl) LsOK.nil (fun x => by kernel_rfl)
noncomputable def unicode_utf8_decodeRuneInStringSlow.f (a0 : ByteArray) : Option (Int × Int) :=
 (let y1 : Int := ((ByteArray.size a0 : Nat) : Int); (cb (decide (y1 < (1 : Int))) (some ((65533 : Int), (0 : Int))) (ck (0 ≤ (0 : Int) ∧ (0 : Int) < ((ByteArray.size a0 : Nat) : Int)) none)))
noncomputable def unicode_utf8_decodeRuneInStringSlow.fn : TFn := ⟨[.str], [(.int .i32), (.int .i64)], fun x => unicode_utf8_decodeRuneInStringSlow.f x⟩
noncomputable def unicode_utf8_decodeRuneInStringSlow.C : Cx := ⟨T, TYt, lkF [], lkO [], lkD [], lkP [], [9], [], false, [], [], lkS [], 117⟩
theorem unicode_utf8_decodeRuneInStringSlow.hC : CxOK Tryz.prog unicode_utf8_decodeRuneInStringSlow.C := ⟨tabOK, FsOK.nil, OsOK.nil, mixed, (fun t h => by cases h), (fun t e h => by cases h), SsOK.nil⟩
noncomputable def unicode_utf8_decodeRuneInStringSlow.root : Code := bodyOf Tryz.f239
theorem unicode_utf8_decodeRuneInStringSlow.ok : FnOK Tryz.prog 239 unicode_utf8_decodeRuneInStringSlow.fn :=
 FnOK.of (L := lkL []) (root := unicode_utf8_decodeRuneInStringSlow.root) unicode_utf8_decodeRuneInStringSlow.hC (enters_of (c := unicode_utf8_decodeRuneInStringSlow.root) Tryz.func239 (by kernel_rfl) (by kernel_rfl)) Tryz.func239 (by kernel_rfl) (rs := [.tmp 2, .tmp 3]) (by kernel_rfl) (by kernel_rfl) LsOK.nil (fun x => by kernel_rfl)
noncomputable def unicode_utf8_DecodeRuneInString.f (a0 : ByteArray) : Option (Int × Int) :=
 (cb (!decide (a0 = bs_)) (ck (0 ≤ (0 : Int) ∧ (0 : Int) < ((ByteArray.size a0 : Nat) : Int)) (cb (decide (((UInt8.toNat (bt a0 (0 : Int)) : Nat) : Int) < (128 : Int))) (ck (0 ≤ (0 : Int) ∧ (0 : Int) < ((ByteArray.size a0 : Nat) : Int)) (let y1 : Int := (IntKind.i32.wrap ((UInt8.toNat (bt a0 (0 : Int)) : Nat) : Int)); (some (y1, (1 : Int))))) (ob (unicode_utf8_decodeRuneInStringSlow.f a0) fun r2 => (some (r2.1, r2.2))))) (ob (unicode_utf8_decodeRuneInStringSlow.f a0) fun r3 => (some (r3.1, r3.2))))
noncomputable def unicode_utf8_DecodeRuneInString.fn : TFn := ⟨[.str], [(.int .i32), (.int .i64)], fun x => unicode_utf8_DecodeRuneInString.f x⟩
noncomputable def unicode_utf8_DecodeRuneInString.C : Cx := ⟨T, TYt, lkF [((239, [0]), unicode_utf8_decodeRuneInStringSlow.fn)], lkO [], lkD [], lkP [], [], [], false, [], [], lkS [], 19⟩
theorem unicode_utf8_DecodeRuneInString.hC : CxOK Tryz.prog unicode_utf8_DecodeRuneInString.C := ⟨tabOK, FsOK.cons unicode_utf8_decodeRuneInStringSlow.ok (FsOK.nil), OsOK.nil, mixed, (fun t h => by cases h), (fun t e h => by cases h), SsOK.nil⟩
noncomputable def unicode_utf8_DecodeRuneInString.root : Code := bodyOf Tryz.f206
theorem unicode_utf8_DecodeRuneInString.ok : FnOK Tryz.prog 206 unicode_utf8_DecodeRuneInString.fn :=
 FnOK.of (L := lkL []) (root := unicode_utf8_DecodeRuneInString.root) unicode_utf8_DecodeRuneInString.hC (enters_of (c := unicode_utf8_DecodeRuneInString.root) Tryz.func206 (by kernel_rfl) (by kernel_rfl)) Tryz.func206 (by kernel_rfl) (rs := [.tmp 2, .tmp 3]) (by kernel_rfl) (by kernel_rfl) LsOK.nil (fun x => by kernel_rfl)
noncomputable def strings_explode.s0 (v0_1 : Int) (x0_0 : ByteArray) (x0_7 : Int) (o0_0 : (List ByteArray)) : Option ((ByteArray × (Int × (List ByteArray))) ⊕ (ByteArray × (List ByteArray))) :=
 (ck (InR (v0_1 - (1 : Int))) (cb (decide (x0_7 < (v0_1 - (1 : Int)))) (ob (unicode_utf8_DecodeRuneInString.f x0_0) fun r5 => (ck (0 ≤ r5.2 ∧ r5.2 ≤ ((ByteArray.size x0_0 : Nat) : Int)) (let y6 : ByteArray := (ByteArray.extract x0_0 0 (Int.toNat r5.2)); (ck (0 ≤ x0_7 ∧ x0_7 < ((List.length o0_0 : Nat) : Int)) (ck ((Int.toNat x0_7) < List.length o0_0) (ck (0 ≤ r5.2 ∧ r5.2 ≤ ((ByteArray.size x0_0 : Nat) : Int)) (let y7 : ByteArray := (ByteArray.extract x0_0 (Int.toNat r5.2) (ByteArray.size x0_0)); (ck (InR (x0_7 + (1 : Int))) (some (.inl (y7, (x0_7 + (1 : Int)), (List.set o0_0 (Int.toNat x0_7) y6)))))))))))) (some (.inr (x0_0, o0_0)))))
noncomputable def strings_explode.l0 (v0_1 : Int) (x0_0 : ByteArray) (x0_7 : Int) (o0_0 : (List ByteArray)) : Option (ByteArray × (List ByteArray)) :=
 loopX (fun (x : (ByteArray × (Int × (List ByteArray)))) => strings_explode.s0 v0_1 x.1 x.2.1 x.2.2) (x0_0, x0_7, o0_0)
noncomputable def strings_explode.e0 : Ent where
 pre := []
 inv := [(1, .val (.int .i64))]
 car := ⟨[(0, .val .str), (6, .own 0 1), (7, .val (.int .i64))], [.row 9 .str]⟩
 exits := [(.exit 0, ⟨[(0, .val .str), (6, .own 0 1)], [.row 9 .str]⟩)]
 step := fun iv x => strings_explode.s0 iv x.1 x.2.1 x.2.2
noncomputable def strings_explode.f (a0 : ByteArray) (a1 : Int) : Option (List ByteArray) :=
 (ob (unicode_utf8_RuneCountInString.f a0) fun r1 => (cb (decide (a1 < (0 : Int))) (ck (0 ≤ r1 ∧ r1 * (16 : Int) ≤ 140737488355328) (ob (strings_explode.l0 r1 a0 (0 : Int) (List.replicate (Int.toNat r1) ByteArray.empty)) fun r8 => (cb (decide ((0 : Int) < r1)) (ck (InR (r1 - (1 : Int))) (ck (0 ≤ (r1 - (1 : Int)) ∧ (r1 - (1 : Int)) < ((List.length r8.2 : Nat) : Int)) (ck ((Int.toNat (r1 - (1 : Int))) < List.length r8.2) (some (List.set r8.2 (Int.toNat (r1 - (1 : Int))) r8.1))))) (some r8.2)))) (cb (decide (r1 < a1)) (ck (0 ≤ r1 ∧ r1 * (16 : Int) ≤ 140737488355328) (ob (strings_explode.l0 r1 a0 (0 : Int) (List.replicate (Int.toNat r1) ByteArray.empty)) fun r9 => (cb (decide ((0 : Int) < r1)) (ck (InR (r1 - (1 : Int))) (ck (0 ≤ (r1 - (1 : Int)) ∧ (r1 - (1 : Int)) < ((List.length r9.2 : Nat) : Int)) (ck ((Int.toNat (r1 - (1 : Int))) < List.length r9.2) (some (List.set r9.2 (Int.toNat (r1 - (1 : Int))) r9.1))))) (some r9.2)))) (ck (0 ≤ a1 ∧ a1 * (16 : Int) ≤ 140737488355328) (ob (strings_explode.l0 a1 a0 (0 : Int) (List.replicate (Int.toNat a1) ByteArray.empty)) fun r10 => (cb (decide ((0 : Int) < a1)) (ck (InR (a1 - (1 : Int))) (ck (0 ≤ (a1 - (1 : Int)) ∧ (a1 - (1 : Int)) < ((List.length r10.2 : Nat) : Int)) (ck ((Int.toNat (a1 - (1 : Int))) < List.length r10.2) (some (List.set r10.2 (Int.toNat (a1 - (1 : Int))) r10.1))))) (some r10.2)))))))
noncomputable def strings_explode.fn : TFn := ⟨[.str, (.int .i64)], [(.slice .str)], fun x => strings_explode.f x.1 x.2⟩
noncomputable def strings_explode.C : Cx := ⟨T, TYt, lkF [((206, [0]), unicode_utf8_DecodeRuneInString.fn), ((250, [0]), unicode_utf8_RuneCountInString.fn)], lkO [], lkD [], lkP [], [], [], false, [], [], lkS [], 50⟩
theorem strings_explode.hC : CxOK Tryz.prog strings_explode.C := ⟨tabOK, FsOK.cons unicode_utf8_DecodeRuneInString.ok (FsOK.cons unicode_utf8_RuneCountInString.ok (FsOK.nil)), OsOK.nil, mixed, (fun t h => by cases h), (fun t e h => by cases h), SsOK.nil⟩
noncomputable def strings_explode.root : Code := bodyOf Tryz.f230
theorem strings_explode.h0 : LsOK Tryz.prog strings_explode.C strings_explode.root (lkL [([0, 1, 0, 1, 1, 1, 1], strings_explode.e0)]) :=
 LsOK.cons strings_explode.hC (LsOK.nil) (by kernel_rfl) (fun iv x => by kernel_rfl)
theorem strings_explode.ok : FnOK Tryz.prog 230 strings_explode.fn :=
 FnOK.of (L := lkL [([0, 1, 0, 1, 1, 1, 1], strings_explode.e0)]) (root := strings_explode.root) strings_explode.hC (enters_of (c := strings_explode.root) Tryz.func230 (by kernel_rfl) (by kernel_rfl)) Tryz.func230 (by kernel_rfl) (rs := [.tmp 4]) (by kernel_rfl) (by kernel_rfl) strings_explode.h0 (fun x => by kernel_rfl)
noncomputable def strings_Index.f (a0 : ByteArray) (a1 : ByteArray) : Option Int :=
 (ob (internal_stringslite_Index.f a0 a1) fun r1 => (some r1))
noncomputable def strings_Index.fn : TFn := ⟨[.str, .str], [(.int .i64)], fun x => strings_Index.f x.1 x.2⟩
noncomputable def strings_Index.C : Cx := ⟨T, TYt, lkF [((198, [0, 0]), internal_stringslite_Index.fn)], lkO [], lkD [], lkP [], [], [], false, [], [], lkS [], 8⟩
theorem strings_Index.hC : CxOK Tryz.prog strings_Index.C := ⟨tabOK, FsOK.cons internal_stringslite_Index.ok (FsOK.nil), OsOK.nil, mixed, (fun t h => by cases h), (fun t e h => by cases h), SsOK.nil⟩
noncomputable def strings_Index.root : Code := bodyOf Tryz.f232
theorem strings_Index.ok : FnOK Tryz.prog 232 strings_Index.fn :=
 FnOK.of (L := lkL []) (root := strings_Index.root) strings_Index.hC (enters_of (c := strings_Index.root) Tryz.func232 (by kernel_rfl) (by kernel_rfl)) Tryz.func232 (by kernel_rfl) (rs := [.tmp 4]) (by kernel_rfl) (by kernel_rfl) LsOK.nil (fun x => by kernel_rfl)
noncomputable def strings_genSplit.s0 (v0_1 : ByteArray) (v0_2 : Int) (v0_3 : Int) (x0_0 : ByteArray) (x0_10 : Int) (o0_0 : (List ByteArray)) : Option ((ByteArray × (Int × (List ByteArray))) ⊕ (ByteArray × (Int × (List ByteArray)))) :=
 (cb (decide (x0_10 < v0_3)) (ob (strings_Index.f x0_0 v0_1) fun r9 => (cb (decide (r9 < (0 : Int))) (some (.inr (x0_0, x0_10, o0_0))) (ck (InR (r9 + v0_2)) (ck (0 ≤ (r9 + v0_2) ∧ (r9 + v0_2) ≤ ((ByteArray.size x0_0 : Nat) : Int)) (let y10 : ByteArray := (ByteArray.extract x0_0 0 (Int.toNat (r9 + v0_2))); (ck (0 ≤ x0_10 ∧ x0_10 < ((List.length o0_0 : Nat) : Int)) (ck ((Int.toNat x0_10) < List.length o0_0) (let y11 : Int := ((ByteArray.size v0_1 : Nat) : Int); (ck (InR (r9 + y11)) (ck (0 ≤ (r9 + y11) ∧ (r9 + y11) ≤ ((ByteArray.size x0_0 : Nat) : Int)) (let y12 : ByteArray := (ByteArray.extract x0_0 (Int.toNat (r9 + y11)) (ByteArray.size x0_0)); (ck (InR (x0_10 + (1 : Int))) (some (.inl (y12, (x0_10 + (1 : Int)), (List.set o0_0 (Int.toNat x0_10) y10)))))))))))))))) (some (.inr (x0_0, x0_10, o0_0))))
noncomputable def strings_genSplit.l0 (v0_1 : ByteArray) (v0_2 : Int) (v0_3 : Int) (x0_0 : ByteArray) (x0_10 : Int) (o0_0 : (List ByteArray)) : Option (ByteArray × (Int × (List ByteArray))) :=
 loopX (fun (x : (ByteArray × (Int × (List ByteArray)))) => strings_genSplit.s0 v0_1 v0_2 v0_3 x.1 x.2.1 x.2.2) (x0_0, x0_10, o0_0)
noncomputable def strings_genSplit.e0 : Ent where
 pre := []
 inv := [(1, .val .str), (2, .val (.int .i64)), (3, .val (.int .i64))]
 car := ⟨[(0, .val .str), (9, .own 0 1), (10, .val (.int .i64))], [.row 9 .str]⟩
 exits := [(.exit 0, ⟨[(0, .val .str), (9, .own 0 1), (10, .val (.int .i64))], [.row 9 .str]⟩)]
 step := fun iv x => strings_genSplit.s0 iv.1 iv.2.1 iv.2.2 x.1 x.2.1 x.2.2
noncomputable def strings_genSplit.f (a0 : ByteArray) (a1 : ByteArray) (a2 : Int) (a3 : Int) : Option (List ByteArray) :=
 (cb (decide (a3 = (0 : Int))) (some ([] : List ByteArray)) (cb (decide (a1 = bs_)) (ob (strings_explode.f a0 a3) fun r1 => (some r1)) (cb (decide (a3 < (0 : Int))) (ob (strings_Count.f a0 a1) fun r2 => (ck (InR (r2 + (1 : Int))) (let y3 : Int := ((ByteArray.size a0 : Nat) : Int); (ck (InR (y3 + (1 : Int))) (let y4 : Int := (min (r2 + (1 : Int)) (y3 + (1 : Int))); (ck (0 ≤ y4 ∧ y4 * (16 : Int) ≤ 140737488355328) (ck (InR (y4 - (1 : Int))) (ob (strings_genSplit.l0 a1 a2 (y4 - (1 : Int)) a0 (0 : Int) (List.replicate (Int.toNat y4) ByteArray.empty)) fun r13 => (ck (0 ≤ r13.2.1 ∧ r13.2.1 < ((List.length r13.2.2 : Nat) : Int)) (ck ((Int.toNat r13.2.1) < List.length r13.2.2) (ck (InR (r13.2.1 + (1 : Int))) (ck (0 ≤ (r13.2.1 + (1 : Int)) ∧ (r13.2.1 + (1 : Int)) ≤ ((List.length (List.set r13.2.2 (Int.toNat r13.2.1) r13.1) : Nat) : Int)) (some (List.take (Int.toNat (r13.2.1 + (1 : Int))) (List.drop 0 (List.set r13.2.2 (Int.toNat r13.2.1) r13.1)))))))))))))))) (let y14 : Int := ((ByteArray.size a0 : Nat) : Int); (ck (InR (y14 + (1 : Int))) (let y15 : Int := (min a3 (y14 + (1 : Int))); (ck (0 ≤ y15 ∧ y15 * (16 : Int) ≤ 140737488355328) (ck (InR (y15 - (1 : Int))) (ob (strings_genSplit.l0 a1 a2 (y15 - (1 : Int)) a0 (0 : Int) (List.replicate (Int.toNat y15) ByteArray.empty)) fun r16 => (ck (0 ≤ r16.2.1 ∧ r16.2.1 < ((List.length r16.2.2 : Nat) : Int)) (ck ((Int.toNat r16.2.1) < List.length r16.2.2) (ck (InR (r16.2.1 + (1 : Int))) (ck (0 ≤ (r16.2.1 + (1 : Int)) ∧ (r16.2.1 + (1 : Int)) ≤ ((List.length (List.set r16.2.2 (Int.toNat r16.2.1) r16.1) : Nat) : Int)) (some (List.take (Int.toNat (r16.2.1 + (1 : Int))) (List.drop 0 (List.set r16.2.2 (Int.toNat r16.2.1) r16.1)))))))))))))))))
noncomputable def strings_genSplit.fn : TFn := ⟨[.str, .str, (.int .i64), (.int .i64)], [(.slice .str)], fun x => strings_genSplit.f x.1 x.2.1 x.2.2.1 x.2.2.2⟩
noncomputable def strings_genSplit.C : Cx := ⟨T, TYt, lkF [((230, [0, 0]), strings_explode.fn), ((231, [0, 0]), strings_Count.fn), ((232, [0, 0]), strings_Index.fn)], lkO [], lkD [], lkP [], [], [], false, [], [], lkS [], 66⟩
theorem strings_genSplit.hC : CxOK Tryz.prog strings_genSplit.C := ⟨tabOK, FsOK.cons strings_explode.ok (FsOK.cons strings_Count.ok (FsOK.cons strings_Index.ok (FsOK.nil))), OsOK.nil, mixed, (fun t h => by cases h), (fun t e h => by cases h), SsOK.nil⟩
noncomputable def strings_genSplit.root : Code := bodyOf Tryz.f199
theorem strings_genSplit.h0 : LsOK Tryz.prog strings_genSplit.C strings_genSplit.root (lkL [([0, 0, 1, 1, 1, 1, 1, 1, 1, 1], strings_genSplit.e0)]) :=
 LsOK.cons strings_genSplit.hC (LsOK.nil) (by kernel_rfl) (fun iv x => by kernel_rfl)
theorem strings_genSplit.ok : FnOK Tryz.prog 199 strings_genSplit.fn :=
 FnOK.of (L := lkL [([0, 0, 1, 1, 1, 1, 1, 1, 1, 1], strings_genSplit.e0)]) (root := strings_genSplit.root) strings_genSplit.hC (enters_of (c := strings_genSplit.root) Tryz.func199 (by kernel_rfl) (by kernel_rfl)) Tryz.func199 (by kernel_rfl) (rs := [.tmp 8]) (by kernel_rfl) (by kernel_rfl) strings_genSplit.h0 (fun x => by kernel_rfl)
noncomputable def strings_Split.f (a0 : ByteArray) (a1 : ByteArray) : Option (List ByteArray) :=
 (ob (strings_genSplit.f a0 a1 (0 : Int) (-1 : Int)) fun r1 => (some r1))
noncomputable def strings_Split.fn : TFn := ⟨[.str, .str], [(.slice .str)], fun x => strings_Split.f x.1 x.2⟩
noncomputable def strings_Split.C : Cx := ⟨T, TYt, lkF [((199, [0, 0, 0, 0]), strings_genSplit.fn)], lkO [], lkD [], lkP [], [], [], false, [], [], lkS [], 8⟩
theorem strings_Split.hC : CxOK Tryz.prog strings_Split.C := ⟨tabOK, FsOK.cons strings_genSplit.ok (FsOK.nil), OsOK.nil, mixed, (fun t h => by cases h), (fun t e h => by cases h), SsOK.nil⟩
noncomputable def strings_Split.root : Code := bodyOf Tryz.f160
theorem strings_Split.ok : FnOK Tryz.prog 160 strings_Split.fn :=
 FnOK.of (L := lkL []) (root := strings_Split.root) strings_Split.hC (enters_of (c := strings_Split.root) Tryz.func160 (by kernel_rfl) (by kernel_rfl)) Tryz.func160 (by kernel_rfl) (rs := [.tmp 4]) (by kernel_rfl) (by kernel_rfl) LsOK.nil (fun x => by kernel_rfl)
noncomputable def strings_IndexByte.f (a0 : ByteArray) (a1 : UInt8) : Option Int :=
 (ob (internal_stringslite_IndexByte.f a0 a1) fun r1 => (some r1))
noncomputable def strings_IndexByte.fn : TFn := ⟨[.str, .byte], [(.int .i64)], fun x => strings_IndexByte.f x.1 x.2⟩
noncomputable def strings_IndexByte.C : Cx := ⟨T, TYt, lkF [((226, [0, 0]), internal_stringslite_IndexByte.fn)], lkO [], lkD [], lkP [], [], [], false, [], [], lkS [], 8⟩
theorem strings_IndexByte.hC : CxOK Tryz.prog strings_IndexByte.C := ⟨tabOK, FsOK.cons internal_stringslite_IndexByte.ok (FsOK.nil), OsOK.nil, mixed, (fun t h => by cases h), (fun t e h => by cases h), SsOK.nil⟩
noncomputable def strings_IndexByte.root : Code := bodyOf Tryz.f256
theorem strings_IndexByte.ok : FnOK Tryz.prog 256 strings_IndexByte.fn :=
 FnOK.of (L := lkL []) (root := strings_IndexByte.root) strings_IndexByte.hC (enters_of (c := strings_IndexByte.root) Tryz.func256 (by kernel_rfl) (by kernel_rfl)) Tryz.func256 (by kernel_rfl) (rs := [.tmp 4]) (by kernel_rfl) (by kernel_rfl) LsOK.nil (fun x => by kernel_rfl)
noncomputable def blob_inPart.f (a0 : UInt8) : Option Bool :=
 (cb (decide ((97 : Int) ≤ ((UInt8.toNat a0 : Nat) : Int))) (cb (decide (((UInt8.toNat a0 : Nat) : Int) ≤ (122 : Int))) (some true) (cb (decide ((65 : Int) ≤ ((UInt8.toNat a0 : Nat) : Int))) (cb (decide (((UInt8.toNat a0 : Nat) : Int) ≤ (90 : Int))) (some true) (cb (decide ((48 : Int) ≤ ((UInt8.toNat a0 : Nat) : Int))) (cb (decide (((UInt8.toNat a0 : Nat) : Int) ≤ (57 : Int))) (some true) (ob (strings_IndexByte.f bs_46_95_45_43 a0) fun r1 => (some (decide ((0 : Int) ≤ r1))))) (ob (strings_IndexByte.f bs_46_95_45_43 a0) fun r2 => (some (decide ((0 : Int) ≤ r2)))))) (cb (decide ((48 : Int) ≤ ((UInt8.toNat a0 : Nat) : Int))) (cb (decide (((UInt8.toNat a0 : Nat) : Int) ≤ (57 : Int))) (some true) (ob (strings_IndexByte.f bs_46_95_45_43 a0) fun r3 => (some (decide ((0 : Int) ≤ r3))))) (ob (strings_IndexByte.f bs_46_95_45_43 a0) fun r4 => (some (decide ((0 : Int) ≤ r4))))))) (cb (decide ((65 : Int) ≤ ((UInt8.toNat a0 : Nat) : Int))) (cb (decide (((UInt8.toNat a0 : Nat) : Int) ≤ (90 : Int))) (some true) (cb (decide ((48 : Int) ≤ ((UInt8.toNat a0 : Nat) : Int))) (cb (decide (((UInt8.toNat a0 : Nat) : Int) ≤ (57 : Int))) (some true) (ob (strings_IndexByte.f bs_46_95_45_43 a0) fun r5 => (some (decide ((0 : Int) ≤ r5))))) (ob (strings_IndexByte.f bs_46_95_45_43 a0) fun r6 => (some (decide ((0 : Int) ≤ r6)))))) (cb (decide ((48 : Int) ≤ ((UInt8.toNat a0 : Nat) : Int))) (cb (decide (((UInt8.toNat a0 : Nat) : Int) ≤ (57 : Int))) (some true) (ob (strings_IndexByte.f bs_46_95_45_43 a0) fun r7 => (some (decide ((0 : Int) ≤ r7))))) (ob (strings_IndexByte.f bs_46_95_45_43 a0) fun r8 => (some (decide ((0 : Int) ≤ r8)))))))
noncomputable def blob_inPart.fn : TFn := ⟨[.byte], [.bool], fun x => blob_inPart.f x⟩
noncomputable def blob_inPart.C : Cx := ⟨T, TYt, lkF [((256, [0, 0]), strings_IndexByte.fn)], lkO [], lkD [], lkP [], [], [], false, [], [], lkS [], 30⟩
theorem blob_inPart.hC : CxOK Tryz.prog blob_inPart.C := ⟨tabOK, FsOK.cons strings_IndexByte.ok (FsOK.nil), OsOK.nil, mixed, (fun t h => by cases h), (fun t e h => by cases h), SsOK.nil⟩
noncomputable def blob_inPart.root : Code := bodyOf Tryz.f242
theorem blob_inPart.ok : FnOK Tryz.prog 242 blob_inPart.fn :=
 FnOK.of (L := lkL []) (root := blob_inPart.root) blob_inPart.hC (enters_of (c := blob_inPart.root) Tryz.func242 (by kernel_rfl) (by kernel_rfl)) Tryz.func242 (by kernel_rfl) (rs := [.tmp 2]) (by kernel_rfl) (by kernel_rfl) LsOK.nil (fun x => by kernel_rfl)
noncomputable def blob_isPart.s0 (v0_0 : ByteArray) (v0_5 : Int) (x0_6 : Int) : Option (Int ⊕ (Bool ⊕ Unit)) :=
 (cb (decide (x0_6 < v0_5)) (ck (0 ≤ x0_6 ∧ x0_6 < ((ByteArray.size v0_0 : Nat) : Int)) (ob (blob_inPart.f (bt v0_0 x0_6)) fun r3 => (cb (!r3) (some (.inr (.inl false))) (ck (InR (x0_6 + (1 : Int))) (some (.inl (x0_6 + (1 : Int)))))))) (some (.inr (.inr ()))))
noncomputable def blob_isPart.l0 (v0_0 : ByteArray) (v0_5 : Int) (x0_6 : Int) : Option (Bool ⊕ Unit) :=
 loopX (fun (x : Int) => blob_isPart.s0 v0_0 v0_5 x) x0_6
noncomputable def blob_isPart.e0 : Ent where
 pre := []
 inv := [(0, .val .str), (5, .val (.int .i64))]
 car := ⟨[(6, .val (.int .i64))], []⟩
 exits := [(.ret, ⟨[(2, .val .bool)], []⟩), (.exit 0, ⟨[], []⟩)]
 step := fun iv x => blob_isPart.s0 iv.1 iv.2 x
noncomputable def blob_isPart.f (a0 : ByteArray) : Option Bool :=
 (let y1 : Int := ((ByteArray.size a0 : Nat) : Int); (ob (blob_isPart.l0 a0 y1 (0 : Int)) fun r4 => (caseS r4 (fun a5 => (some a5)) (fun b6 => (cb (!decide (a0 = bs_)) (cb (!decide (a0 = bs_46)) (some (!decide (a0 = bs_46_46))) (some false)) (some false))))))
noncomputable def blob_isPart.fn : TFn := ⟨[.str], [.bool], fun x => blob_isPart.f x⟩
noncomputable def blob_isPart.C : Cx := ⟨T, TYt, lkF [((242, [0]), blob_inPart.fn)], lkO [], lkD [], lkP [], [], [], false, [], [], lkS [], 25⟩
theorem blob_isPart.hC : CxOK Tryz.prog blob_isPart.C := ⟨tabOK, FsOK.cons blob_inPart.ok (FsOK.nil), OsOK.nil, mixed, (fun t h => by cases h), (fun t e h => by cases h), SsOK.nil⟩
noncomputable def blob_isPart.root : Code := bodyOf Tryz.f210
theorem blob_isPart.h0 : LsOK Tryz.prog blob_isPart.C blob_isPart.root (lkL [([0, 1, 0, 1], blob_isPart.e0)]) :=
 LsOK.cons blob_isPart.hC (LsOK.nil) (by kernel_rfl) (fun iv x => by kernel_rfl)
theorem blob_isPart.ok : FnOK Tryz.prog 210 blob_isPart.fn :=
 FnOK.of (L := lkL [([0, 1, 0, 1], blob_isPart.e0)]) (root := blob_isPart.root) blob_isPart.hC (enters_of (c := blob_isPart.root) Tryz.func210 (by kernel_rfl) (by kernel_rfl)) Tryz.func210 (by kernel_rfl) (rs := [.tmp 2]) (by kernel_rfl) (by kernel_rfl) blob_isPart.h0 (fun x => by kernel_rfl)
noncomputable def blob_IsPath.s0 (v0_14 : (List ByteArray)) (v0_15 : Int) (x0_16 : Int) : Option (Int ⊕ (Bool ⊕ Unit)) :=
 (cb (decide (x0_16 < v0_15)) (ck (0 ≤ x0_16 ∧ x0_16 < ((List.length v0_14 : Nat) : Int)) (let y7 : ByteArray := (rd ByteArray.empty v0_14 x0_16); (ob (blob_isPart.f y7) fun r8 => (cb (!r8) (some (.inr (.inl false))) (ck (InR (x0_16 + (1 : Int))) (some (.inl (x0_16 + (1 : Int))))))))) (some (.inr (.inr ()))))
noncomputable def blob_IsPath.l0 (v0_14 : (List ByteArray)) (v0_15 : Int) (x0_16 : Int) : Option (Bool ⊕ Unit) :=
 loopX (fun (x : Int) => blob_IsPath.s0 v0_14 v0_15 x) x0_16
noncomputable def blob_IsPath.e0 : Ent where
 pre := []
 inv := [(14, .val (.slice .str)), (15, .val (.int .i64))]
 car := ⟨[(16, .val (.int .i64))], []⟩
 exits := [(.ret, ⟨[(2, .val .bool)], []⟩), (.exit 0, ⟨[], []⟩)]
 step := fun iv x => blob_IsPath.s0 iv.1 iv.2 x
noncomputable def blob_IsPath.f (a0 : ByteArray) : Option Bool :=
 (let y1 : Int := ((ByteArray.size a0 : Nat) : Int); (cb (decide (y1 < (1 : Int))) (some false) (let y2 : Int := ((ByteArray.size a0 : Nat) : Int); (cb (decide ((200 : Int) < y2)) (some false) (ob (strings_Split.f a0 bs_47) fun r3 => (let y4 : Int := ((List.length r3 : Nat) : Int); (ob (blob_IsPath.l0 r3 y4 (0 : Int)) fun r9 => (caseS r9 (fun a10 => (some a10)) (fun b11 => (some true))))))))))
noncomputable def blob_IsPath.fn : TFn := ⟨[.str], [.bool], fun x => blob_IsPath.f x⟩
noncomputable def blob_IsPath.C : Cx := ⟨T, TYt, lkF [((160, [0, 0]), strings_Split.fn), ((210, [0]), blob_isPart.fn)], lkO [], lkD [], lkP [], [], [], false, [], [], lkS [], 24⟩
theorem blob_IsPath.hC : CxOK Tryz.prog blob_IsPath.C := ⟨tabOK, FsOK.cons strings_Split.ok (FsOK.cons blob_isPart.ok (FsOK.nil)), OsOK.nil, mixed, (fun t h => by cases h), (fun t e h => by cases h), SsOK.nil⟩
noncomputable def blob_IsPath.root : Code := bodyOf Tryz.f178
theorem blob_IsPath.h0 : LsOK Tryz.prog blob_IsPath.C blob_IsPath.root (lkL [([0, 1, 0, 1, 1], blob_IsPath.e0)]) :=
 LsOK.cons blob_IsPath.hC (LsOK.nil) (by kernel_rfl) (fun iv x => by kernel_rfl)
theorem blob_IsPath.ok : FnOK Tryz.prog 178 blob_IsPath.fn :=
 FnOK.of (L := lkL [([0, 1, 0, 1, 1], blob_IsPath.e0)]) (root := blob_IsPath.root) blob_IsPath.hC (enters_of (c := blob_IsPath.root) Tryz.func178 (by kernel_rfl) (by kernel_rfl)) Tryz.func178 (by kernel_rfl) (rs := [.tmp 2]) (by kernel_rfl) (by kernel_rfl) blob_IsPath.h0 (fun x => by kernel_rfl)
noncomputable def internal_stringslite_HasPrefix.f (a0 : ByteArray) (a1 : ByteArray) : Option Bool :=
 (let y1 : Int := ((ByteArray.size a0 : Nat) : Int); (let y2 : Int := ((ByteArray.size a1 : Nat) : Int); (cb (decide (y2 ≤ y1)) (let y3 : Int := ((ByteArray.size a1 : Nat) : Int); (ck (0 ≤ y3 ∧ y3 ≤ ((ByteArray.size a0 : Nat) : Int)) (let y4 : ByteArray := (ByteArray.extract a0 0 (Int.toNat y3)); (some (decide (y4 = a1)))))) (some false))))
noncomputable def internal_stringslite_HasPrefix.fn : TFn := ⟨[.str, .str], [.bool], fun x => internal_stringslite_HasPrefix.f x.1 x.2⟩
noncomputable def internal_stringslite_HasPrefix.C : Cx := ⟨T, TYt, lkF [], lkO [], lkD [], lkP [], [], [], false, [], [], lkS [], 18⟩
theorem internal_stringslite_HasPrefix.hC : CxOK Tryz.prog internal_stringslite_HasPrefix.C := ⟨tabOK, FsOK.nil, OsOK.nil, mixed, (fun t h => by cases h), (fun t e h => by cases h), SsOK.nil⟩
noncomputable def internal_stringslite_HasPrefix.root : Code := bodyOf Tryz.f183
theorem internal_stringslite_HasPrefix.ok : FnOK Tryz.prog 183 internal_stringslite_HasPrefix.fn :=
 FnOK.of (L := lkL []) (root := internal_stringslite_HasPrefix.root) internal_stringslite_HasPrefix.hC (enters_of (c := internal_stringslite_HasPrefix.root) Tryz.func183 (by kernel_rfl) (by kernel_rfl)) Tryz.func183 (by kernel_rfl) (rs := [.tmp 4]) (by kernel_rfl) (by kernel_rfl) LsOK.nil (fun x => by kernel_rfl)
noncomputable def internal_stringslite_CutPrefix.f (a0 : ByteArray) (a1 : ByteArray) : Option (ByteArray × Bool) :=
 (ob (internal_stringslite_HasPrefix.f a0 a1) fun r1 => (cb (!r1) (some (a0, false)) (let y2 : Int := ((ByteArray.size a1 : Nat) : Int); (ck (0 ≤ y2 ∧ y2 ≤ ((ByteArray.size a0 : Nat) : Int)) (let y3 : ByteArray := (ByteArray.extract a0 (Int.toNat y2) (ByteArray.size a0)); (some (y3, true)))))))
noncomputable def internal_stringslite_CutPrefix.fn : TFn := ⟨[.str, .str], [.str, .bool], fun x => internal_stringslite_CutPrefix.f x.1 x.2⟩
noncomputable def internal_stringslite_CutPrefix.C : Cx := ⟨T, TYt, lkF [((183, [0, 0]), internal_stringslite_HasPrefix.fn)], lkO [], lkD [], lkP [], [], [], false, [], [], lkS [], 15⟩
theorem internal_stringslite_CutPrefix.hC : CxOK Tryz.prog internal_stringslite_CutPrefix.C := ⟨tabOK, FsOK.cons internal_stringslite_HasPrefix.ok (FsOK.nil), OsOK.nil, mixed, (fun t h => by cases h), (fun t e h => by cases h), SsOK.nil⟩
noncomputable def internal_stringslite_CutPrefix.root : Code := bodyOf Tryz.f211
theorem internal_stringslite_CutPrefix.ok : FnOK Tryz.prog 211 internal_stringslite_CutPrefix.fn :=
 FnOK.of (L := lkL []) (root := internal_stringslite_CutPrefix.root) internal_stringslite_CutPrefix.hC (enters_of (c := internal_stringslite_CutPrefix.root) Tryz.func211 (by kernel_rfl) (by kernel_rfl)) Tryz.func211 (by kernel_rfl) (rs := [.tmp 4, .tmp 5]) (by kernel_rfl) (by kernel_rfl) LsOK.nil (fun x => by kernel_rfl)
noncomputable def strings_CutPrefix.f (a0 : ByteArray) (a1 : ByteArray) : Option (ByteArray × Bool) :=
 (ob (internal_stringslite_CutPrefix.f a0 a1) fun r1 => (some (r1.1, r1.2)))
noncomputable def strings_CutPrefix.fn : TFn := ⟨[.str, .str], [.str, .bool], fun x => strings_CutPrefix.f x.1 x.2⟩
noncomputable def strings_CutPrefix.C : Cx := ⟨T, TYt, lkF [((211, [0, 0]), internal_stringslite_CutPrefix.fn)], lkO [], lkD [], lkP [], [], [], false, [], [], lkS [], 11⟩
theorem strings_CutPrefix.hC : CxOK Tryz.prog strings_CutPrefix.C := ⟨tabOK, FsOK.cons internal_stringslite_CutPrefix.ok (FsOK.nil), OsOK.nil, mixed, (fun t h => by cases h), (fun t e h => by cases h), SsOK.nil⟩
noncomputable def strings_CutPrefix.root : Code := bodyOf Tryz.f179
theorem strings_CutPrefix.ok : FnOK Tryz.prog 179 strings_CutPrefix.fn :=
 FnOK.of (L := lkL []) (root := strings_CutPrefix.root) strings_CutPrefix.hC (enters_of (c := strings_CutPrefix.root) Tryz.func179 (by kernel_rfl) (by kernel_rfl)) Tryz.func179 (by kernel_rfl) (rs := [.tmp 4, .tmp 5]) (by kernel_rfl) (by kernel_rfl) LsOK.nil (fun x => by kernel_rfl)
noncomputable def internal_stringslite_Cut.f (a0 : ByteArray) (a1 : ByteArray) : Option (ByteArray × (ByteArray × Bool)) :=
 (ob (internal_stringslite_Index.f a0 a1) fun r1 => (cb (decide ((0 : Int) ≤ r1)) (ck (0 ≤ r1 ∧ r1 ≤ ((ByteArray.size a0 : Nat) : Int)) (let y2 : ByteArray := (ByteArray.extract a0 0 (Int.toNat r1)); (let y3 : Int := ((ByteArray.size a1 : Nat) : Int); (ck (InR (r1 + y3)) (ck (0 ≤ (r1 + y3) ∧ (r1 + y3) ≤ ((ByteArray.size a0 : Nat) : Int)) (let y4 : ByteArray := (ByteArray.extract a0 (Int.toNat (r1 + y3)) (ByteArray.size a0)); (some (y2, y4, true)))))))) (some (a0, bs_, false))))
noncomputable def internal_stringslite_Cut.fn : TFn := ⟨[.str, .str], [.str, .str, .bool], fun x => internal_stringslite_Cut.f x.1 x.2⟩
noncomputable def internal_stringslite_Cut.C : Cx := ⟨T, TYt, lkF [((198, [0, 0]), internal_stringslite_Index.fn)], lkO [], lkD [(3, 10, [(0, true), (1, true), (2, true), (3, true), (4, true), (5, true), (6, true), (7, true), (8, true), (9, true)], none)], lkP [], [], [], false, [], [], lkS [], 23⟩
theorem internal_stringslite_Cut.hC : CxOK Tryz.prog internal_stringslite_Cut.C := ⟨tabOK, FsOK.cons internal_stringslite_Index.ok (FsOK.nil), OsOK.nil, mixed, (fun t h => by cases h), (fun t e h => by cases h), SsOK.nil⟩
noncomputable def internal_stringslite_Cut.root : Code := bodyOf Tryz.f159
theorem internal_stringslite_Cut.ok : FnOK Tryz.prog 159 internal_stringslite_Cut.fn :=
 FnOK.of (L := lkL []) (root := internal_stringslite_Cut.root) internal_stringslite_Cut.hC (enters_of (c := internal_stringslite_Cut.root) Tryz.func159 (by kernel_rfl) (by kernel_rfl)) Tryz.func159 (by kernel_rfl) (rs := [.tmp 4, .tmp 5, .tmp 6]) (by kernel_rfl) (by kernel_rfl) LsOK.nil (fun x => by kernel_rfl)
noncomputable def strings_Cut.f (a0 : ByteArray) (a1 : ByteArray) : Option (ByteArray × (ByteArray × Bool)) :=
 (ob (internal_stringslite_Cut.f a0 a1) fun r1 => (some (r1.1, r1.2.1, r1.2.2)))
noncomputable def strings_Cut.fn : TFn := ⟨[.str, .str], [.str, .str, .bool], fun x => strings_Cut.f x.1 x.2⟩
noncomputable def strings_Cut.C : Cx := ⟨T, TYt, lkF [((159, [0, 0]), internal_stringslite_Cut.fn)], lkO [], lkD [], lkP [], [], [], false, [], [], lkS [], 13⟩
theorem strings_Cut.hC : CxOK Tryz.prog strings_Cut.C := ⟨tabOK, FsOK.cons internal_stringslite_Cut.ok (FsOK.nil), OsOK.nil, mixed, (fun t h => by cases h), (fun t e h => by cases h), SsOK.nil⟩
noncomputable def strings_Cut.root : Code := bodyOf Tryz.f104
theorem strings_Cut.ok : FnOK Tryz.prog 104 strings_Cut.fn :=
 FnOK.of (L := lkL []) (root := strings_Cut.root) strings_Cut.hC (enters_of (c := strings_Cut.root) Tryz.func104 (by kernel_rfl) (by kernel_rfl)) Tryz.func104 (by kernel_rfl) (rs := [.tmp 4, .tmp 5, .tmp 6]) (by kernel_rfl) (by kernel_rfl) LsOK.nil (fun x => by kernel_rfl)
noncomputable def internal_bytealg_LastIndexByteString.s0 (v0_0 : ByteArray) (v0_1 : UInt8) (x0_5 : Int) : Option (Int ⊕ (Int ⊕ Unit)) :=
 (cb (decide ((0 : Int) ≤ x0_5)) (ck (0 ≤ x0_5 ∧ x0_5 < ((ByteArray.size v0_0 : Nat) : Int)) (cb (decide (((UInt8.toNat (bt v0_0 x0_5) : Nat) : Int) = ((UInt8.toNat v0_1 : Nat) : Int))) (some (.inr (.inl x0_5))) (ck (InR (x0_5 - (1 : Int))) (some (.inl (x0_5 - (1 : Int))))))) (some (.inr (.inr ()))))
noncomputable def internal_bytealg_LastIndexByteString.l0 (v0_0 : ByteArray) (v0_1 : UInt8) (x0_5 : Int) : Option (Int ⊕ Unit) :=
 loopX (fun (x : Int) => internal_bytealg_LastIndexByteString.s0 v0_0 v0_1 x) x0_5
noncomputable def internal_bytealg_LastIndexByteString.e0 : Ent where
 pre := []
 inv := [(0, .val .str), (1, .val .byte)]
 car := ⟨[(5, .val (.int .i64))], []⟩
 exits := [(.ret, ⟨[(4, .val (.int .i64))], []⟩), (.exit 0, ⟨[], []⟩)]
 step := fun iv x => internal_bytealg_LastIndexByteString.s0 iv.1 iv.2 x
noncomputable def internal_bytealg_LastIndexByteString.f (a0 : ByteArray) (a1 : UInt8) : Option Int :=
 (let y1 : Int := ((ByteArray.size a0 : Nat) : Int); (ck (InR (y1 - (1 : Int))) (ob (internal_bytealg_LastIndexByteString.l0 a0 a1 (y1 - (1 : Int))) fun r2 => (caseS r2 (fun a3 => (some a3)) (fun b4 => (some (-1 : Int)))))))
noncomputable def internal_bytealg_LastIndexByteString.fn : TFn := ⟨[.str, .byte], [(.int .i64)], fun x => internal_bytealg_LastIndexByteString.f x.1 x.2⟩
noncomputable def internal_bytealg_LastIndexByteString.C : Cx := ⟨T, TYt, lkF [], lkO [], lkD [], lkP [], [], [], false, [], [], lkS [], 19⟩
theorem internal_bytealg_LastIndexByteString.hC : CxOK Tryz.prog internal_bytealg_LastIndexByteString.C := ⟨tabOK, FsOK.nil, OsOK.nil, mixed, (fun t h => by cases h), (fun t e h => by cases h), SsOK.nil⟩
noncomputable def internal_bytealg_LastIndexByteString.root : Code := bodyOf Tryz.f243
theorem internal_bytealg_LastIndexByteString.h0 : LsOK Tryz.prog internal_bytealg_LastIndexByteString.C internal_bytealg_LastIndexByteString.root (lkL [([0, 1, 0, 1], internal_bytealg_LastIndexByteString.e0)]) :=
 LsOK.cons internal_bytealg_LastIndexByteString.hC (LsOK.nil) (by kernel_rfl) (fun iv x => by kernel_rfl)
theorem internal_bytealg_LastIndexByteString.ok : FnOK Tryz.prog 243 internal_bytealg_LastIndexByteString.fn :=
 FnOK.of (L := lkL [([0, 1, 0, 1], internal_bytealg_LastIndexByteString.e0)]) (root := internal_bytealg_LastIndexByteString.root) internal_bytealg_LastIndexByteString.hC (enters_of (c := internal_bytealg_LastIndexByteString.root) Tryz.func243 (by kernel_rfl) (by kernel_rfl)) Tryz.func243 (by kernel_rfl) (rs := [.tmp 4]) (by kernel_rfl) (by kernel_rfl) internal_bytealg_LastIndexByteString.h0 (fun x => by kernel_rfl)
noncomputable def strings_LastIndexByte.f (a0 : ByteArray) (a1 : UInt8) : Option Int :=
 (ob (internal_bytealg_LastIndexByteString.f a0 a1) fun r1 => (some r1))
noncomputable def strings_LastIndexByte.fn : TFn := ⟨[.str, .byte], [(.int .i64)], fun x => strings_LastIndexByte.f x.1 x.2⟩
noncomputable def strings_LastIndexByte.C : Cx := ⟨T, TYt, lkF [((243, [0, 0]), internal_bytealg_LastIndexByteString.fn)], lkO [], lkD [], lkP [], [], [], false, [], [], lkS [], 8⟩
theorem strings_LastIndexByte.hC : CxOK Tryz.prog strings_LastIndexByte.C := ⟨tabOK, FsOK.cons internal_bytealg_LastIndexByteString.ok (FsOK.nil), OsOK.nil, mixed, (fun t h => by cases h), (fun t e h => by cases h), SsOK.nil⟩
noncomputable def strings_LastIndexByte.root : Code := bodyOf Tryz.f212
theorem strings_LastIndexByte.ok : FnOK Tryz.prog 212 strings_LastIndexByte.fn :=
 FnOK.of (L := lkL []) (root := strings_LastIndexByte.root) strings_LastIndexByte.hC (enters_of (c := strings_LastIndexByte.root) Tryz.func212 (by kernel_rfl) (by kernel_rfl)) Tryz.func212 (by kernel_rfl) (rs := [.tmp 4]) (by kernel_rfl) (by kernel_rfl) LsOK.nil (fun x => by kernel_rfl)
noncomputable def script_last.f (a0 : ByteArray) : Option ByteArray :=
 (ob (strings_LastIndexByte.f a0 (UInt8.ofInt (47 : Int))) fun r1 => (ck (InR (r1 + (1 : Int))) (ck (0 ≤ (r1 + (1 : Int)) ∧ (r1 + (1 : Int)) ≤ ((ByteArray.size a0 : Nat) : Int)) (let y2 : ByteArray := (ByteArray.extract a0 (Int.toNat (r1 + (1 : Int))) (ByteArray.size a0)); (some y2)))))
noncomputable def script_last.fn : TFn := ⟨[.str], [.str], fun x => script_last.f x⟩
noncomputable def script_last.C : Cx := ⟨T, TYt, lkF [((212, [0, 0]), strings_LastIndexByte.fn)], lkO [], lkD [], lkP [], [], [], false, [], [], lkS [], 8⟩
theorem script_last.hC : CxOK Tryz.prog script_last.C := ⟨tabOK, FsOK.cons strings_LastIndexByte.ok (FsOK.nil), OsOK.nil, mixed, (fun t h => by cases h), (fun t e h => by cases h), SsOK.nil⟩
noncomputable def script_last.root : Code := bodyOf Tryz.f180
theorem script_last.ok : FnOK Tryz.prog 180 script_last.fn :=
 FnOK.of (L := lkL []) (root := script_last.root) script_last.hC (enters_of (c := script_last.root) Tryz.func180 (by kernel_rfl) (by kernel_rfl)) Tryz.func180 (by kernel_rfl) (rs := [.tmp 2]) (by kernel_rfl) (by kernel_rfl) LsOK.nil (fun x => by kernel_rfl)
noncomputable def script_CheckLabel.f (a0 : (ByteArray × ByteArray)) : Option Int :=
 (cb (!decide (a0.1 = bs_)) (ob (blob_IsPath.f a0.1) fun r1 => (cb (!r1) (some (3 : Int)) (ob (blob_IsPath.f a0.2) fun r2 => (cb (!r2) (some (3 : Int)) (some (0 : Int)))))) (ob (blob_IsPath.f a0.2) fun r3 => (cb (!r3) (some (3 : Int)) (some (0 : Int)))))
noncomputable def script_CheckLabel.fn : TFn := ⟨[(.pair .str .str)], [(.int .i64)], fun x => script_CheckLabel.f x⟩
noncomputable def script_CheckLabel.C : Cx := ⟨T, TYt, lkF [((178, [0]), blob_IsPath.fn)], lkO [], lkD [], lkP [], [1], [], false, [], [], lkS [], 18⟩
theorem script_CheckLabel.hC : CxOK Tryz.prog script_CheckLabel.C := ⟨tabOK, FsOK.cons blob_IsPath.ok (FsOK.nil), OsOK.nil, mixed, (fun t h => by cases h), (fun t e h => by cases h), SsOK.nil⟩
noncomputable def script_CheckLabel.root : Code := bodyOf Tryz.f181
theorem script_CheckLabel.ok : FnOK Tryz.prog 181 script_CheckLabel.fn :=
 FnOK.of (L := lkL []) (root := script_CheckLabel.root) script_CheckLabel.hC (enters_of (c := script_CheckLabel.root) Tryz.func181 (by kernel_rfl) (by kernel_rfl)) Tryz.func181 (by kernel_rfl) (rs := [.tmp 2]) (by kernel_rfl) (by kernel_rfl) LsOK.nil (fun x => by kernel_rfl)
noncomputable def script_ReadLabel.f (a0 : ByteArray) (a1 : ByteArray) : Option ((ByteArray × ByteArray) × Int) :=
 (cb (!decide (a1 = bs_)) (ob (blob_IsPath.f a1) fun r1 => (cb (!r1) (some ((bs_, bs_), (3 : Int))) (ob (strings_CutPrefix.f a0 bs_47_47) fun r2 => (ob (strings_CutPrefix.f a0 bs_58) fun r3 => (cb r2.2 (ob (strings_Cut.f r2.1 bs_58) fun r4 => (cb (!r4.2.2) (ob (script_last.f r4.1) fun r5 => (ob (script_CheckLabel.f (r4.1, r5)) fun r6 => (cb (!decide (r6 = (0 : Int))) (some ((bs_, bs_), (10 : Int))) (some ((r4.1, r5), (0 : Int)))))) (ob (script_CheckLabel.f (r4.1, r4.2.1)) fun r7 => (cb (!decide (r7 = (0 : Int))) (some ((bs_, bs_), (10 : Int))) (some ((r4.1, r4.2.1), (0 : Int))))))) (cb r3.2 (ob (script_CheckLabel.f (a1, r3.1)) fun r8 => (cb (!decide (r8 = (0 : Int))) (some ((bs_, bs_), (10 : Int))) (some ((a1, r3.1), (0 : Int))))) (ob (script_CheckLabel.f (bs_, bs_)) fun r9 => (cb (!decide (r9 = (0 : Int))) (some ((bs_, bs_), (10 : Int))) (some ((bs_, bs_), (0 : Int))))))))))) (ob (strings_CutPrefix.f a0 bs_47_47) fun r10 => (ob (strings_CutPrefix.f a0 bs_58) fun r11 => (cb r10.2 (ob (strings_Cut.f r10.1 bs_58) fun r12 => (cb (!r12.2.2) (ob (script_last.f r12.1) fun r13 => (ob (script_CheckLabel.f (r12.1, r13)) fun r14 => (cb (!decide (r14 = (0 : Int))) (some ((bs_, bs_), (10 : Int))) (some ((r12.1, r13), (0 : Int)))))) (ob (script_CheckLabel.f (r12.1, r12.2.1)) fun r15 => (cb (!decide (r15 = (0 : Int))) (some ((bs_, bs_), (10 : Int))) (some ((r12.1, r12.2.1), (0 : Int))))))) (cb r11.2 (ob (script_CheckLabel.f (a1, r11.1)) fun r16 => (cb (!decide (r16 = (0 : Int))) (some ((bs_, bs_), (10 : Int))) (some ((a1, r11.1), (0 : Int))))) (ob (script_CheckLabel.f (bs_, bs_)) fun r17 => (cb (!decide (r17 = (0 : Int))) (some ((bs_, bs_), (10 : Int))) (some ((bs_, bs_), (0 : Int))))))))))
noncomputable def script_ReadLabel.fn : TFn := ⟨[.str, .str], [(.pair .str .str), (.int .i64)], fun x => script_ReadLabel.f x.1 x.2⟩
noncomputable def script_ReadLabel.C : Cx := ⟨T, TYt, lkF [((104, [0, 0]), strings_Cut.fn), ((178, [0]), blob_IsPath.fn), ((179, [0, 0]), strings_CutPrefix.fn), ((180, [0]), script_last.fn), ((181, [0]), script_CheckLabel.fn)], lkO [], lkD [], lkP [], [], [], false, [], [], lkS [], 56⟩
theorem script_ReadLabel.hC : CxOK Tryz.prog script_ReadLabel.C := ⟨tabOK, FsOK.cons strings_Cut.ok (FsOK.cons blob_IsPath.ok (FsOK.cons strings_CutPrefix.ok (FsOK.cons script_last.ok (FsOK.cons script_CheckLabel.ok (FsOK.nil))))), OsOK.nil, mixed, (fun t h => by cases h), (fun t e h => by cases h), SsOK.nil⟩
noncomputable def script_ReadLabel.root : Code := bodyOf Tryz.f126
theorem script_ReadLabel.ok : FnOK Tryz.prog 126 script_ReadLabel.fn :=
 FnOK.of (L := lkL []) (root := script_ReadLabel.root) script_ReadLabel.hC (enters_of (c := script_ReadLabel.root) Tryz.func126 (by kernel_rfl) (by kernel_rfl)) Tryz.func126 (by kernel_rfl) (rs := [.cell 4 154, .tmp 5]) (by kernel_rfl) (by kernel_rfl) LsOK.nil (fun x => by kernel_rfl)
noncomputable def script_Whole.f (a0 : (ByteArray × ByteArray)) : Option ByteArray :=
 (ck (((ByteArray.size bs_47_47 + ByteArray.size a0.1 : Nat) : Int) ≤ 9223372036854775807) (ck (((ByteArray.size (bs_47_47 ++ a0.1) + ByteArray.size bs_58 : Nat) : Int) ≤ 9223372036854775807) (let y1 : ByteArray := ((bs_47_47 ++ a0.1) ++ bs_58); (ck (((ByteArray.size y1 + ByteArray.size a0.2 : Nat) : Int) ≤ 9223372036854775807) (some (y1 ++ a0.2))))))
noncomputable def script_Whole.fn : TFn := ⟨[(.pair .str .str)], [.str], fun x => script_Whole.f x⟩
noncomputable def script_Whole.C : Cx := ⟨T, TYt, lkF [], lkO [], lkD [], lkP [], [1], [], false, [], [], lkS [], 10⟩
theorem script_Whole.hC : CxOK Tryz.prog script_Whole.C := ⟨tabOK, FsOK.nil, OsOK.nil, mixed, (fun t h => by cases h), (fun t e h => by cases h), SsOK.nil⟩
noncomputable def script_Whole.root : Code := bodyOf Tryz.f127
theorem script_Whole.ok : FnOK Tryz.prog 127 script_Whole.fn :=
 FnOK.of (L := lkL []) (root := script_Whole.root) script_Whole.hC (enters_of (c := script_Whole.root) Tryz.func127 (by kernel_rfl) (by kernel_rfl)) Tryz.func127 (by kernel_rfl) (rs := [.tmp 2]) (by kernel_rfl) (by kernel_rfl) LsOK.nil (fun x => by kernel_rfl)
noncomputable def script_IsWhole.f (a0 : ByteArray) : Option Bool :=
 (ob (script_ReadLabel.f a0 bs_) fun r1 => (cb (decide (r1.2 = (0 : Int))) (ob (script_Whole.f r1.1) fun r2 => (some (decide (r2 = a0)))) (some false)))
noncomputable def script_IsWhole.fn : TFn := ⟨[.str], [.bool], fun x => script_IsWhole.f x⟩
noncomputable def script_IsWhole.C : Cx := ⟨T, TYt, lkF [((126, [0, 0]), script_ReadLabel.fn), ((127, [0]), script_Whole.fn)], lkO [], lkD [], lkP [], [3], [], false, [], [], lkS [], 18⟩
theorem script_IsWhole.hC : CxOK Tryz.prog script_IsWhole.C := ⟨tabOK, FsOK.cons script_ReadLabel.ok (FsOK.cons script_Whole.ok (FsOK.nil)), OsOK.nil, mixed, (fun t h => by cases h), (fun t e h => by cases h), SsOK.nil⟩
noncomputable def script_IsWhole.root : Code := bodyOf Tryz.f77
theorem script_IsWhole.ok : FnOK Tryz.prog 77 script_IsWhole.fn :=
 FnOK.of (L := lkL []) (root := script_IsWhole.root) script_IsWhole.hC (enters_of (c := script_IsWhole.root) Tryz.func77 (by kernel_rfl) (by kernel_rfl)) Tryz.func77 (by kernel_rfl) (rs := [.tmp 2]) (by kernel_rfl) (by kernel_rfl) LsOK.nil (fun x => by kernel_rfl)
noncomputable def config_IsWord.f (a0 : ByteArray) : Option Bool :=
 (let y1 : Int := ((ByteArray.size a0 : Nat) : Int); (cb (decide (y1 < (1 : Int))) (some false) (let y2 : Int := ((ByteArray.size a0 : Nat) : Int); (cb (decide ((40 : Int) < y2)) (some false) (ck (0 ≤ (0 : Int) ∧ (0 : Int) < ((ByteArray.size a0 : Nat) : Int)) (cb (decide (((UInt8.toNat (bt a0 (0 : Int)) : Nat) : Int) < (97 : Int))) (some false) (ck (0 ≤ (0 : Int) ∧ (0 : Int) < ((ByteArray.size a0 : Nat) : Int)) (cb (decide ((122 : Int) < ((UInt8.toNat (bt a0 (0 : Int)) : Nat) : Int))) (some false) (ob (strings_Trim.f a0 bs_97_98_99_100_101_102_103_104_105_106_107_108_109_110_111_112_113_114_115_116_117_118_119_120_121_122_48_49_50_51_52_53_54_55_56_57_95_45) fun r3 => (some (decide (r3 = bs_))))))))))))
noncomputable def config_IsWord.fn : TFn := ⟨[.str], [.bool], fun x => config_IsWord.f x⟩
noncomputable def config_IsWord.C : Cx := ⟨T, TYt, lkF [((121, [0, 0]), strings_Trim.fn)], lkO [], lkD [], lkP [], [], [], false, [], [], lkS [], 24⟩
theorem config_IsWord.hC : CxOK Tryz.prog config_IsWord.C := ⟨tabOK, FsOK.cons strings_Trim.ok (FsOK.nil), OsOK.nil, mixed, (fun t h => by cases h), (fun t e h => by cases h), SsOK.nil⟩
noncomputable def config_IsWord.root : Code := bodyOf Tryz.f76
theorem config_IsWord.ok : FnOK Tryz.prog 76 config_IsWord.fn :=
 FnOK.of (L := lkL []) (root := config_IsWord.root) config_IsWord.hC (enters_of (c := config_IsWord.root) Tryz.func76 (by kernel_rfl) (by kernel_rfl)) Tryz.func76 (by kernel_rfl) (rs := [.tmp 2]) (by kernel_rfl) (by kernel_rfl) LsOK.nil (fun x => by kernel_rfl)
noncomputable def trust_within.f (a0 : Int) (a1 : Int) (a2 : Int) : Option Bool :=
 (cb (decide (a1 ≤ a0)) (some (decide (a0 ≤ a2))) (some false))
noncomputable def trust_within.fn : TFn := ⟨[(.int .i64), (.int .i64), (.int .i64)], [.bool], fun x => trust_within.f x.1 x.2.1 x.2.2⟩
noncomputable def trust_within.C : Cx := ⟨T, TYt, lkF [], lkO [], lkD [], lkP [], [], [], false, [], [], lkS [], 15⟩
theorem trust_within.hC : CxOK Tryz.prog trust_within.C := ⟨tabOK, FsOK.nil, OsOK.nil, mixed, (fun t h => by cases h), (fun t e h => by cases h), SsOK.nil⟩
noncomputable def trust_within.root : Code := bodyOf Tryz.f70
theorem trust_within.ok : FnOK Tryz.prog 70 trust_within.fn :=
 FnOK.of (L := lkL []) (root := trust_within.root) trust_within.hC (enters_of (c := trust_within.root) Tryz.func70 (by kernel_rfl) (by kernel_rfl)) Tryz.func70 (by kernel_rfl) (rs := [.tmp 6]) (by kernel_rfl) (by kernel_rfl) LsOK.nil (fun x => by kernel_rfl)
noncomputable def trust_checkClaimed.s0 (v0_1 : (ByteArray × (ByteArray × (ByteArray × (ByteArray × (Int × ((List ByteArray) × ByteArray))))))) (v0_36 : (List ByteArray)) (v0_37 : Int) (x0_38 : Int) : Option (Int ⊕ (Int ⊕ Unit)) :=
 (cb (decide (x0_38 < v0_37)) (ck (0 ≤ x0_38 ∧ x0_38 < ((List.length v0_36 : Nat) : Int)) (let y11 : ByteArray := (rd ByteArray.empty v0_36 x0_38); (ob (blob_IsDigest.f y11) fun r12 => (cb (!r12) (some (.inr (.inl (3 : Int)))) (cb (decide ((0 : Int) < x0_38)) (ck (InR (x0_38 - (1 : Int))) (ck (0 ≤ (x0_38 - (1 : Int)) ∧ (x0_38 - (1 : Int)) < ((List.length v0_1.2.2.2.2.2.1 : Nat) : Int)) (let y13 : ByteArray := (rd ByteArray.empty v0_1.2.2.2.2.2.1 (x0_38 - (1 : Int))); (cb (bless y11 y13 || decide (y11 = y13)) (some (.inr (.inl (8 : Int)))) (ck (InR (x0_38 + (1 : Int))) (some (.inl (x0_38 + (1 : Int))))))))) (ck (InR (x0_38 + (1 : Int))) (some (.inl (x0_38 + (1 : Int)))))))))) (some (.inr (.inr ()))))
noncomputable def trust_checkClaimed.l0 (v0_1 : (ByteArray × (ByteArray × (ByteArray × (ByteArray × (Int × ((List ByteArray) × ByteArray))))))) (v0_36 : (List ByteArray)) (v0_37 : Int) (x0_38 : Int) : Option (Int ⊕ Unit) :=
 loopX (fun (x : Int) => trust_checkClaimed.s0 v0_1 v0_36 v0_37 x) x0_38
noncomputable def trust_checkClaimed.e0 : Ent where
 pre := []
 inv := [(1, .rp (.pair .str (.pair .str (.pair .str (.pair .str (.pair (.int .i64) (.pair (.slice .str) .str))))))), (36, .val (.slice .str)), (37, .val (.int .i64))]
 car := ⟨[(38, .val (.int .i64))], []⟩
 exits := [(.ret, ⟨[(2, .val (.int .i64))], []⟩), (.exit 1, ⟨[], []⟩)]
 step := fun iv x => trust_checkClaimed.s0 iv.1 iv.2.1 iv.2.2 x
noncomputable def trust_checkClaimed.f (a0 : (ByteArray × (ByteArray × (ByteArray × (ByteArray × (Int × ((List ByteArray) × ByteArray))))))) : Option Int :=
 (ob (blob_IsDigest.f a0.1) fun r1 => (cb (!r1) (some (3 : Int)) (ob (script_IsWhole.f a0.2.1) fun r2 => (cb (!r2) (some (10 : Int)) (ob (blob_IsDigest.f a0.2.2.1) fun r3 => (cb (!r3) (some (3 : Int)) (ob (config_IsWord.f a0.2.2.2.1) fun r4 => (cb (!r4) (some (5 : Int)) (ob (trust_within.f a0.2.2.2.2.1 (0 : Int) (1000000000 : Int)) fun r5 => (cb (!r5) (some (1 : Int)) (let y6 : Int := ((List.length a0.2.2.2.2.2.1 : Nat) : Int); (cb (decide ((50 : Int) < y6)) (some (2 : Int)) (let y7 : Int := ((List.length a0.2.2.2.2.2.1 : Nat) : Int); (ob (trust_checkClaimed.l0 a0 a0.2.2.2.2.2.1 y7 (0 : Int)) fun r14 => (caseS r14 (fun a15 => (some a15)) (fun b16 => (cb (!decide (a0.2.2.2.2.2.2 = bs_)) (ob (blob_IsDigest.f a0.2.2.2.2.2.2) fun r17 => (cb (!r17) (some (3 : Int)) (some (0 : Int)))) (some (0 : Int)))))))))))))))))))
noncomputable def trust_checkClaimed.fn : TFn := ⟨[(.pair .str (.pair .str (.pair .str (.pair .str (.pair (.int .i64) (.pair (.slice .str) .str))))))], [(.int .i64)], fun x => trust_checkClaimed.f x⟩
noncomputable def trust_checkClaimed.C : Cx := ⟨T, TYt, lkF [((69, [0]), blob_IsDigest.fn), ((70, [0, 0, 0]), trust_within.fn), ((76, [0]), config_IsWord.fn), ((77, [0]), script_IsWhole.fn)], lkO [], lkD [], lkP [], [1], [], false, [], [], lkS [], 68⟩
theorem trust_checkClaimed.hC : CxOK Tryz.prog trust_checkClaimed.C := ⟨tabOK, FsOK.cons blob_IsDigest.ok (FsOK.cons trust_within.ok (FsOK.cons config_IsWord.ok (FsOK.cons script_IsWhole.ok (FsOK.nil)))), OsOK.nil, mixed, (fun t h => by cases h), (fun t e h => by cases h), SsOK.nil⟩
noncomputable def trust_checkClaimed.root : Code := bodyOf Tryz.f84
theorem trust_checkClaimed.h0 : LsOK Tryz.prog trust_checkClaimed.C trust_checkClaimed.root (lkL [([0, 1, 0, 1, 1], trust_checkClaimed.e0)]) :=
 LsOK.cons trust_checkClaimed.hC (LsOK.nil) (by kernel_rfl) (fun iv x => by kernel_rfl)
theorem trust_checkClaimed.ok : FnOK Tryz.prog 84 trust_checkClaimed.fn :=
 FnOK.of (L := lkL [([0, 1, 0, 1, 1], trust_checkClaimed.e0)]) (root := trust_checkClaimed.root) trust_checkClaimed.hC (enters_of (c := trust_checkClaimed.root) Tryz.func84 (by kernel_rfl) (by kernel_rfl)) Tryz.func84 (by kernel_rfl) (rs := [.tmp 2]) (by kernel_rfl) (by kernel_rfl) trust_checkClaimed.h0 (fun x => by kernel_rfl)
noncomputable def trust_CheckLog.s0 (v0_0 : (List (ByteArray × (ByteArray × (ByteArray × (ByteArray × (Int × ((List ByteArray) × ByteArray)))))))) (v0_9 : (List (ByteArray × (ByteArray × (ByteArray × (ByteArray × (Int × ((List ByteArray) × ByteArray)))))))) (v0_10 : Int) (x0_11 : Int) : Option (Int ⊕ (Int ⊕ Unit)) :=
 (cb (decide (x0_11 < v0_10)) (ck (0 ≤ x0_11 ∧ x0_11 < ((List.length v0_9 : Nat) : Int)) (let y6 : (ByteArray × (ByteArray × (ByteArray × (ByteArray × (Int × ((List ByteArray) × ByteArray)))))) := (rd (ByteArray.empty, (ByteArray.empty, (ByteArray.empty, (ByteArray.empty, ((0 : Int), (([] : (List ByteArray)), ByteArray.empty)))))) v0_9 x0_11); (ob (trust_checkClaimed.f y6) fun r7 => (cb (!decide (r7 = (0 : Int))) (some (.inr (.inl r7))) (cb (decide (y6.2.2.2.2.2.2 = bs_)) (some (.inr (.inl (3 : Int)))) (cb (decide ((0 : Int) < x0_11)) (ck (InR (x0_11 - (1 : Int))) (ck (0 ≤ (x0_11 - (1 : Int)) ∧ (x0_11 - (1 : Int)) < ((List.length v0_0 : Nat) : Int)) (let y8 : Int := (rd (ByteArray.empty, (ByteArray.empty, (ByteArray.empty, (ByteArray.empty, ((0 : Int), (([] : (List ByteArray)), ByteArray.empty)))))) v0_0 (x0_11 - (1 : Int))).2.2.2.2.1; (cb (decide (y6.2.2.2.2.1 < y8)) (some (.inr (.inl (8 : Int)))) (ck (InR (x0_11 + (1 : Int))) (some (.inl (x0_11 + (1 : Int))))))))) (ck (InR (x0_11 + (1 : Int))) (some (.inl (x0_11 + (1 : Int))))))))))) (some (.inr (.inr ()))))
noncomputable def trust_CheckLog.l0 (v0_0 : (List (ByteArray × (ByteArray × (ByteArray × (ByteArray × (Int × ((List ByteArray) × ByteArray)))))))) (v0_9 : (List (ByteArray × (ByteArray × (ByteArray × (ByteArray × (Int × ((List ByteArray) × ByteArray)))))))) (v0_10 : Int) (x0_11 : Int) : Option (Int ⊕ Unit) :=
 loopX (fun (x : Int) => trust_CheckLog.s0 v0_0 v0_9 v0_10 x) x0_11
noncomputable def trust_CheckLog.e0 : Ent where
 pre := []
 inv := [(0, .val (.slice (.pair .str (.pair .str (.pair .str (.pair .str (.pair (.int .i64) (.pair (.slice .str) .str)))))))), (9, .val (.slice (.pair .str (.pair .str (.pair .str (.pair .str (.pair (.int .i64) (.pair (.slice .str) .str)))))))), (10, .val (.int .i64))]
 car := ⟨[(11, .val (.int .i64))], []⟩
 exits := [(.ret, ⟨[(2, .val (.int .i64))], []⟩), (.exit 0, ⟨[], []⟩)]
 step := fun iv x => trust_CheckLog.s0 iv.1 iv.2.1 iv.2.2 x
noncomputable def trust_CheckLog.f (a0 : (List (ByteArray × (ByteArray × (ByteArray × (ByteArray × (Int × ((List ByteArray) × ByteArray)))))))) : Option Int :=
 (let y1 : Int := ((List.length a0 : Nat) : Int); (cb (decide ((1000 : Int) < y1)) (some (2 : Int)) (let y2 : Int := ((List.length a0 : Nat) : Int); (ob (trust_CheckLog.l0 a0 a0 y2 (0 : Int)) fun r9 => (caseS r9 (fun a10 => (some a10)) (fun b11 => (some (0 : Int))))))))
noncomputable def trust_CheckLog.fn : TFn := ⟨[(.slice (.pair .str (.pair .str (.pair .str (.pair .str (.pair (.int .i64) (.pair (.slice .str) .str)))))))], [(.int .i64)], fun x => trust_CheckLog.f x⟩
noncomputable def trust_CheckLog.C : Cx := ⟨T, TYt, lkF [((84, [0]), trust_checkClaimed.fn)], lkO [], lkD [(11, 11, [(0, true), (1, true), (2, true), (3, true), (4, true), (5, true), (6, true), (7, true), (8, true), (9, true), (10, true)], none)], lkP [], [4], [], false, [], [], lkS [], 38⟩
theorem trust_CheckLog.hC : CxOK Tryz.prog trust_CheckLog.C := ⟨tabOK, FsOK.cons trust_checkClaimed.ok (FsOK.nil), OsOK.nil, mixed, (fun t h => by cases h), (fun t e h => by cases h), SsOK.nil⟩
noncomputable def trust_CheckLog.root : Code := bodyOf Tryz.f36
theorem trust_CheckLog.h0 : LsOK Tryz.prog trust_CheckLog.C trust_CheckLog.root (lkL [([0, 1, 0, 1, 1], trust_CheckLog.e0)]) :=
 LsOK.cons trust_CheckLog.hC (LsOK.nil) (by kernel_rfl) (fun iv x => by kernel_rfl)
theorem trust_CheckLog.ok : FnOK Tryz.prog 36 trust_CheckLog.fn :=
 FnOK.of (L := lkL [([0, 1, 0, 1, 1], trust_CheckLog.e0)]) (root := trust_CheckLog.root) trust_CheckLog.hC (enters_of (c := trust_CheckLog.root) Tryz.func36 (by kernel_rfl) (by kernel_rfl)) Tryz.func36 (by kernel_rfl) (rs := [.tmp 2]) (by kernel_rfl) (by kernel_rfl) trust_CheckLog.h0 (fun x => by kernel_rfl)
noncomputable def trust_CheckAudits.s0 (v0_0 : (List (ByteArray × (ByteArray × (ByteArray × (ByteArray × (Int × ((List ByteArray) × ByteArray)))))))) (v0_1 : (List (Int × (ByteArray × Int)))) (v0_16 : (List (Int × (ByteArray × Int)))) (v0_17 : Int) (x0_18 : Int) : Option (Int ⊕ (Int ⊕ Unit)) :=
 (cb (decide (x0_18 < v0_17)) (ck (0 ≤ x0_18 ∧ x0_18 < ((List.length v0_16 : Nat) : Int)) (let y11 : (Int × (ByteArray × Int)) := (rd ((0 : Int), (ByteArray.empty, (0 : Int))) v0_16 x0_18); (let y12 : Int := ((List.length v0_0 : Nat) : Int); (ck (InR (y12 - (1 : Int))) (ob (trust_within.f y11.1 (0 : Int) (y12 - (1 : Int))) fun r13 => (cb (!r13) (some (.inr (.inl (9 : Int)))) (ob (blob_IsDigest.f y11.2.1) fun r14 => (cb (!r14) (some (.inr (.inl (3 : Int)))) (ck (0 ≤ y11.1 ∧ y11.1 < ((List.length v0_0 : Nat) : Int)) (let y15 : Int := (rd (ByteArray.empty, (ByteArray.empty, (ByteArray.empty, (ByteArray.empty, ((0 : Int), (([] : (List ByteArray)), ByteArray.empty)))))) v0_0 y11.1).2.2.2.2.1; (ob (trust_within.f y11.2.2 y15 (1000000000 : Int)) fun r16 => (cb (!r16) (some (.inr (.inl (1 : Int)))) (cb (decide ((0 : Int) < x0_18)) (ck (InR (x0_18 - (1 : Int))) (ck (0 ≤ (x0_18 - (1 : Int)) ∧ (x0_18 - (1 : Int)) < ((List.length v0_1 : Nat) : Int)) (let y17 : Int := (rd ((0 : Int), (ByteArray.empty, (0 : Int))) v0_1 (x0_18 - (1 : Int))).2.2; (cb (decide (y11.2.2 < y17)) (some (.inr (.inl (8 : Int)))) (ck (InR (x0_18 + (1 : Int))) (some (.inl (x0_18 + (1 : Int))))))))) (ck (InR (x0_18 + (1 : Int))) (some (.inl (x0_18 + (1 : Int)))))))))))))))))) (some (.inr (.inr ()))))
noncomputable def trust_CheckAudits.l0 (v0_0 : (List (ByteArray × (ByteArray × (ByteArray × (ByteArray × (Int × ((List ByteArray) × ByteArray)))))))) (v0_1 : (List (Int × (ByteArray × Int)))) (v0_16 : (List (Int × (ByteArray × Int)))) (v0_17 : Int) (x0_18 : Int) : Option (Int ⊕ Unit) :=
 loopX (fun (x : Int) => trust_CheckAudits.s0 v0_0 v0_1 v0_16 v0_17 x) x0_18
noncomputable def trust_CheckAudits.e0 : Ent where
 pre := []
 inv := [(0, .val (.slice (.pair .str (.pair .str (.pair .str (.pair .str (.pair (.int .i64) (.pair (.slice .str) .str)))))))), (1, .val (.slice (.pair (.int .i64) (.pair .str (.int .i64))))), (16, .val (.slice (.pair (.int .i64) (.pair .str (.int .i64))))), (17, .val (.int .i64))]
 car := ⟨[(18, .val (.int .i64))], []⟩
 exits := [(.ret, ⟨[(4, .val (.int .i64))], []⟩), (.exit 0, ⟨[], []⟩)]
 step := fun iv x => trust_CheckAudits.s0 iv.1 iv.2.1 iv.2.2.1 iv.2.2.2 x
noncomputable def trust_CheckAudits.f (a0 : (List (ByteArray × (ByteArray × (ByteArray × (ByteArray × (Int × ((List ByteArray) × ByteArray)))))))) (a1 : (List (Int × (ByteArray × Int)))) : Option Int :=
 (ob (trust_CheckLog.f a0) fun r1 => (cb (!decide (r1 = (0 : Int))) (some r1) (let y2 : Int := ((List.length a1 : Nat) : Int); (cb (decide ((1000 : Int) < y2)) (some (2 : Int)) (let y3 : Int := ((List.length a1 : Nat) : Int); (ob (trust_CheckAudits.l0 a0 a1 a1 y3 (0 : Int)) fun r18 => (caseS r18 (fun a19 => (some a19)) (fun b20 => (some (0 : Int))))))))))
noncomputable def trust_CheckAudits.fn : TFn := ⟨[(.slice (.pair .str (.pair .str (.pair .str (.pair .str (.pair (.int .i64) (.pair (.slice .str) .str))))))), (.slice (.pair (.int .i64) (.pair .str (.int .i64))))], [(.int .i64)], fun x => trust_CheckAudits.f x.1 x.2⟩
noncomputable def trust_CheckAudits.C : Cx := ⟨T, TYt, lkF [((36, [0]), trust_CheckLog.fn), ((69, [0]), blob_IsDigest.fn), ((70, [0, 0, 0]), trust_within.fn)], lkO [], lkD [(13, 8, [(0, true), (1, true), (2, true), (3, true), (4, true), (5, true), (6, true), (7, true)], none), (15, 11, [(0, true), (1, true), (2, true), (3, true), (4, true), (5, true), (6, true), (7, true), (8, true), (9, true), (10, true)], none)], lkP [], [7], [], false, [], [], lkS [], 62⟩
theorem trust_CheckAudits.hC : CxOK Tryz.prog trust_CheckAudits.C := ⟨tabOK, FsOK.cons trust_CheckLog.ok (FsOK.cons blob_IsDigest.ok (FsOK.cons trust_within.ok (FsOK.nil))), OsOK.nil, mixed, (fun t h => by cases h), (fun t e h => by cases h), SsOK.nil⟩
noncomputable def trust_CheckAudits.root : Code := bodyOf Tryz.f65
theorem trust_CheckAudits.h0 : LsOK Tryz.prog trust_CheckAudits.C trust_CheckAudits.root (lkL [([0, 1, 0, 1, 1, 1], trust_CheckAudits.e0)]) :=
 LsOK.cons trust_CheckAudits.hC (LsOK.nil) (by kernel_rfl) (fun iv x => by kernel_rfl)
theorem trust_CheckAudits.ok : FnOK Tryz.prog 65 trust_CheckAudits.fn :=
 FnOK.of (L := lkL [([0, 1, 0, 1, 1, 1], trust_CheckAudits.e0)]) (root := trust_CheckAudits.root) trust_CheckAudits.hC (enters_of (c := trust_CheckAudits.root) Tryz.func65 (by kernel_rfl) (by kernel_rfl)) Tryz.func65 (by kernel_rfl) (rs := [.tmp 4]) (by kernel_rfl) (by kernel_rfl) trust_CheckAudits.h0 (fun x => by kernel_rfl)
noncomputable def trust_factsOf.s0 (v0_0 : (List (ByteArray × (ByteArray × (ByteArray × (ByteArray × (Int × ((List ByteArray) × ByteArray)))))))) (v0_16 : (List (Int × (ByteArray × Int)))) (v0_17 : Int) (x0_18 : Int) (o0_0_0 : (List Bool)) (o0_0_1 : (List Bool)) (o0_0_2 : (List (ByteArray × Bool))) (o0_1 : (List Bool)) (o0_2 : (List Bool)) (o0_3 : (List (ByteArray × Bool))) : Option ((Int × ((List Bool) × ((List Bool) × ((List (ByteArray × Bool)) × ((List Bool) × ((List Bool) × (List (ByteArray × Bool)))))))) ⊕ ((List Bool) × ((List Bool) × ((List (ByteArray × Bool)) × ((List Bool) × ((List Bool) × (List (ByteArray × Bool)))))))) :=
 (cb (decide (x0_18 < v0_17)) (ck (0 ≤ x0_18 ∧ x0_18 < ((List.length v0_16 : Nat) : Int)) (let y5 : (Int × (ByteArray × Int)) := (rd ((0 : Int), (ByteArray.empty, (0 : Int))) v0_16 x0_18); (ck (0 ≤ y5.1 ∧ y5.1 < ((List.length o0_1 : Nat) : Int)) (ck ((Int.toNat y5.1) < List.length o0_1) (ck (0 ≤ y5.1 ∧ y5.1 < ((List.length v0_0 : Nat) : Int)) (let y6 : ByteArray := (rd (ByteArray.empty, (ByteArray.empty, (ByteArray.empty, (ByteArray.empty, ((0 : Int), (([] : (List ByteArray)), ByteArray.empty)))))) v0_0 y5.1).2.2.1; (cb (!decide (y5.2.1 = y6)) (ck (0 ≤ y5.1 ∧ y5.1 < ((List.length o0_2 : Nat) : Int)) (ck ((Int.toNat y5.1) < List.length o0_2) (ck (0 ≤ y5.1 ∧ y5.1 < ((List.length v0_0 : Nat) : Int)) (let y7 : ByteArray := (rd (ByteArray.empty, (ByteArray.empty, (ByteArray.empty, (ByteArray.empty, ((0 : Int), (([] : (List ByteArray)), ByteArray.empty)))))) v0_0 y5.1).2.2.2.1; (ck (InR (x0_18 + (1 : Int))) (some (.inl ((x0_18 + (1 : Int)), o0_0_0, o0_0_1, o0_0_2, (List.set o0_1 (Int.toNat y5.1) true), (List.set o0_2 (Int.toNat y5.1) true), (mset y7 true o0_3))))))))) (ck (InR (x0_18 + (1 : Int))) (some (.inl ((x0_18 + (1 : Int)), o0_0_0, o0_0_1, o0_0_2, (List.set o0_1 (Int.toNat y5.1) true), o0_2, o0_3))))))))))) (some (.inr (o0_0_0, o0_0_1, o0_0_2, o0_1, o0_2, o0_3))))
noncomputable def trust_factsOf.l0 (v0_0 : (List (ByteArray × (ByteArray × (ByteArray × (ByteArray × (Int × ((List ByteArray) × ByteArray)))))))) (v0_16 : (List (Int × (ByteArray × Int)))) (v0_17 : Int) (x0_18 : Int) (o0_0_0 : (List Bool)) (o0_0_1 : (List Bool)) (o0_0_2 : (List (ByteArray × Bool))) (o0_1 : (List Bool)) (o0_2 : (List Bool)) (o0_3 : (List (ByteArray × Bool))) : Option ((List Bool) × ((List Bool) × ((List (ByteArray × Bool)) × ((List Bool) × ((List Bool) × (List (ByteArray × Bool))))))) :=
 loopX (fun (x : (Int × ((List Bool) × ((List Bool) × ((List (ByteArray × Bool)) × ((List Bool) × ((List Bool) × (List (ByteArray × Bool))))))))) => trust_factsOf.s0 v0_0 v0_16 v0_17 x.1 x.2.1 x.2.2.1 x.2.2.2.1 x.2.2.2.2.1 x.2.2.2.2.2.1 x.2.2.2.2.2.2) (x0_18, o0_0_0, o0_0_1, o0_0_2, o0_1, o0_2, o0_3)
noncomputable def trust_factsOf.e0 : Ent where
 pre := []
 inv := [(0, .val (.slice (.pair .str (.pair .str (.pair .str (.pair .str (.pair (.int .i64) (.pair (.slice .str) .str)))))))), (16, .val (.slice (.pair (.int .i64) (.pair .str (.int .i64))))), (17, .val (.int .i64))]
 car := ⟨[(4, .ptr 0 3), (5, .ptr 4 3), (18, .val (.int .i64))], [.box 112 [.val (.slice .bool), .val (.slice .bool), .val (.mp .bool)], .row 4 .bool, .row 4 .bool, .mapo .bool, .box 112 [.own 1 1, .own 2 1, .nm 3 []]]⟩
 exits := [(.exit 0, ⟨[(4, .ptr 0 3), (5, .ptr 4 3)], [.box 112 [.val (.slice .bool), .val (.slice .bool), .val (.mp .bool)], .row 4 .bool, .row 4 .bool, .mapo .bool, .box 112 [.own 1 1, .own 2 1, .nm 3 []]]⟩)]
 step := fun iv x => trust_factsOf.s0 iv.1 iv.2.1 iv.2.2 x.1 x.2.1 x.2.2.1 x.2.2.2.1 x.2.2.2.2.1 x.2.2.2.2.2.1 x.2.2.2.2.2.2
noncomputable def trust_factsOf.f (a0 : (List (ByteArray × (ByteArray × (ByteArray × (ByteArray × (Int × ((List ByteArray) × ByteArray)))))))) (a1 : (List (Int × (ByteArray × Int)))) : Option ((List Bool) × ((List Bool) × (List (ByteArray × Bool)))) :=
 (both (ck (0 ≤ ((List.length a0 : Nat) : Int) ∧ ((List.length a0 : Nat) : Int) * (1 : Int) ≤ 140737488355328) (both (ck (0 ≤ ((List.length a0 : Nat) : Int) ∧ ((List.length a0 : Nat) : Int) * (1 : Int) ≤ 140737488355328) (mix (.node .leaf .leaf) (let y1 : Int := ((List.length a1 : Nat) : Int); (ob (trust_factsOf.l0 a0 a1 y1 (0 : Int) ([] : List Bool) ([] : List Bool) ([] : (List (ByteArray × Bool))) (List.replicate (Int.toNat ((List.length a0 : Nat) : Int)) false) (List.replicate (Int.toNat ((List.length a0 : Nat) : Int)) false) ([] : List (ByteArray × Bool))) fun r8 => (some r8.2.2.2))))) (mix (.node (.node .leaf .leaf) (.node .leaf .leaf)) (ck (0 ≤ ((List.length a0 : Nat) : Int) ∧ ((List.length a0 : Nat) : Int) * (1 : Int) ≤ 140737488355328) (let y1 : Int := ((List.length a1 : Nat) : Int); (ob (trust_factsOf.l0 a0 a1 y1 (0 : Int) ([] : List Bool) ([] : List Bool) ([] : (List (ByteArray × Bool))) (List.replicate (Int.toNat ((List.length a0 : Nat) : Int)) false) (List.replicate (Int.toNat ((List.length a0 : Nat) : Int)) false) ([] : List (ByteArray × Bool))) fun r2 => (some r2.2.2.2))))))) (both (ck (0 ≤ ((List.length a0 : Nat) : Int) ∧ ((List.length a0 : Nat) : Int) * (1 : Int) ≤ 140737488355328) (both (ck (0 ≤ ((List.length a0 : Nat) : Int) ∧ ((List.length a0 : Nat) : Int) * (1 : Int) ≤ 140737488355328) (mix (.node .leaf .leaf) (let y1 : Int := ((List.length a1 : Nat) : Int); (ob (trust_factsOf.l0 a0 a1 y1 (0 : Int) ([] : List Bool) ([] : List Bool) ([] : (List (ByteArray × Bool))) (List.replicate (Int.toNat ((List.length a0 : Nat) : Int)) false) (List.replicate (Int.toNat ((List.length a0 : Nat) : Int)) false) ([] : List (ByteArray × Bool))) fun r2 => (some r2.2.2.2))))) (mix (.node (.node .leaf .leaf) (.node .leaf .leaf)) (ck (0 ≤ ((List.length a0 : Nat) : Int) ∧ ((List.length a0 : Nat) : Int) * (1 : Int) ≤ 140737488355328) (let y1 : Int := ((List.length a1 : Nat) : Int); (ob (trust_factsOf.l0 a0 a1 y1 (0 : Int) ([] : List Bool) ([] : List Bool) ([] : (List (ByteArray × Bool))) (List.replicate (Int.toNat ((List.length a0 : Nat) : Int)) false) (List.replicate (Int.toNat ((List.length a0 : Nat) : Int)) false) ([] : List (ByteArray × Bool))) fun r2 => (some r2.2.2.2))))))) (mix (.node .leaf .leaf) (both (ck (0 ≤ ((List.length a0 : Nat) : Int) ∧ ((List.length a0 : Nat) : Int) * (1 : Int) ≤ 140737488355328) (mix (.node .leaf .leaf) (ck (0 ≤ ((List.length a0 : Nat) : Int) ∧ ((List.length a0 : Nat) : Int) * (1 : Int) ≤ 140737488355328) (let y1 : Int := ((List.length a1 : Nat) : Int); (ob (trust_factsOf.l0 a0 a1 y1 (0 : Int) ([] : List Bool) ([] : List Bool) ([] : (List (ByteArray × Bool))) (List.replicate (Int.toNat ((List.length a0 : Nat) : Int)) false) (List.replicate (Int.toNat ((List.length a0 : Nat) : Int)) false) ([] : List (ByteArray × Bool))) fun r2 => (some r2.2.2.2)))))) (both (ck (0 ≤ ((List.length a0 : Nat) : Int) ∧ ((List.length a0 : Nat) : Int) * (1 : Int) ≤ 140737488355328) (mix (.node .leaf .leaf) (ck (0 ≤ ((List.length a0 : Nat) : Int) ∧ ((List.length a0 : Nat) : Int) * (1 : Int) ≤ 140737488355328) (let y1 : Int := ((List.length a1 : Nat) : Int); (ob (trust_factsOf.l0 a0 a1 y1 (0 : Int) ([] : List Bool) ([] : List Bool) ([] : (List (ByteArray × Bool))) (List.replicate (Int.toNat ((List.length a0 : Nat) : Int)) false) (List.replicate (Int.toNat ((List.length a0 : Nat) : Int)) false) ([] : List (ByteArray × Bool))) fun r2 => (some r2.2.2.2)))))) (mix (.node .leaf .leaf) (ck (0 ≤ ((List.length a0 : Nat) : Int) ∧ ((List.length a0 : Nat) : Int) * (1 : Int) ≤ 140737488355328) (ck (0 ≤ ((List.length a0 : Nat) : Int) ∧ ((List.length a0 : Nat) : Int) * (1 : Int) ≤ 140737488355328) (let y1 : Int := ((List.length a1 : Nat) : Int); (ob (trust_factsOf.l0 a0 a1 y1 (0 : Int) ([] : List Bool) ([] : List Bool) ([] : (List (ByteArray × Bool))) (List.replicate (Int.toNat ((List.length a0 : Nat) : Int)) false) (List.replicate (Int.toNat ((List.length a0 : Nat) : Int)) false) ([] : List (ByteArray × Bool))) fun r2 => (some r2.2.2.2)))))))))))
noncomputable def trust_factsOf.fn : TFn := ⟨[(.slice (.pair .str (.pair .str (.pair .str (.pair .str (.pair (.int .i64) (.pair (.slice .str) .str))))))), (.slice (.pair (.int .i64) (.pair .str (.int .i64))))], [(.pair (.slice .bool) (.pair (.slice .bool) (.mp .bool)))], fun x => trust_factsOf.f x.1 x.2⟩
noncomputable def trust_factsOf.C : Cx := ⟨T, TYt, lkF [], lkO [], lkD [(6, 8, [(0, true), (1, true), (2, true), (3, true), (4, true), (5, true), (6, true), (7, true)], none), (8, 8, [(0, true), (1, true), (2, true), (3, true), (4, true), (5, true), (6, true), (7, true)], none)], lkP [(1, 9, (.take 0 (.take 1 (.take 3 (.take 4 (.alt 2 (.alt 5 (.alt 6 (.take 7 (.alt 8 .done .no)) (.alt 8 (.alt 6 (.take 7 (.swp 2 .done)) .no) .no)) (.alt 6 (.alt 5 (.take 7 (.alt 8 (.swp 3 .done) .no)) (.alt 8 (.alt 5 (.take 7 (.swp 2 (.swp 3 .done))) .no) .no)) (.alt 8 (.alt 5 (.alt 6 (.take 7 (.swp 3 (.swp 2 .done))) .no) (.alt 6 (.alt 5 (.take 7 (.swp 3 (.swp 2 (.swp 3 .done)))) .no) .no)) .no))) (.alt 5 (.alt 2 (.alt 6 (.take 7 (.alt 8 (.swp 4 .done) .no)) (.alt 8 (.alt 6 (.take 7 (.swp 4 (.swp 2 .done))) .no) .no)) (.alt 6 (.alt 2 (.take 7 (.alt 8 (.swp 3 (.swp 4 .done)) .no)) (.alt 8 (.alt 2 (.take 7 (.swp 2 (.swp 3 (.swp 4 .done)))) .no) .no)) (.alt 8 (.alt 2 (.alt 6 (.take 7 (.swp 3 (.swp 2 (.swp 4 .done)))) .no) (.alt 6 (.alt 2 (.take 7 (.swp 3 (.swp 2 (.swp 3 (.swp 4 .done))))) .no) .no)) .no))) (.alt 6 (.alt 2 (.alt 5 (.take 7 (.alt 8 (.swp 4 (.swp 3 .done)) .no)) (.alt 8 (.alt 5 (.take 7 (.swp 4 (.swp 2 (.swp 3 .done)))) .no) .no)) (.alt 5 (.alt 2 (.take 7 (.alt 8 (.swp 4 (.swp 3 (.swp 4 .done))) .no)) (.alt 8 (.alt 2 (.take 7 (.swp 4 (.swp 2 (.swp 3 (.swp 4 .done))))) .no) .no)) (.alt 8 (.alt 2 (.alt 5 (.take 7 (.swp 3 (.swp 2 (.swp 4 (.swp 3 .done))))) .no) (.alt 5 (.alt 2 (.take 7 (.swp 3 (.swp 2 (.swp 4 (.swp 3 (.swp 4 .done)))))) .no) .no)) .no))) (.alt 8 (.alt 2 (.alt 5 (.alt 6 (.take 7 (.swp 4 (.swp 3 (.swp 2 .done)))) .no) (.alt 6 (.alt 5 (.take 7 (.swp 4 (.swp 3 (.swp 2 (.swp 3 .done))))) .no) .no)) (.alt 5 (.alt 2 (.alt 6 (.take 7 (.swp 4 (.swp 3 (.swp 2 (.swp 4 .done))))) .no) (.alt 6 (.alt 2 (.take 7 (.swp 4 (.swp 3 (.swp 2 (.swp 3 (.swp 4 .done)))))) .no) .no)) (.alt 6 (.alt 2 (.alt 5 (.take 7 (.swp 4 (.swp 3 (.swp 2 (.swp 4 (.swp 3 .done)))))) .no) (.alt 5 (.alt 2 (.take 7 (.swp 4 (.swp 3 (.swp 2 (.swp 4 (.swp 3 (.swp 4 .done))))))) .no) .no)) .no))) .no)))))))))], [5, 7], [(103, 4)], false, [], [], lkS [], 51⟩
theorem trust_factsOf.hC : CxOK Tryz.prog trust_factsOf.C := ⟨tabOK, FsOK.nil, OsOK.nil, mixed, (fun t h => by cases h), (mps_of [(103, 4)] (by kernel_rfl)), SsOK.nil⟩
noncomputable def trust_factsOf.root : Code := bodyOf Tryz.f95
theorem trust_factsOf.h0 : LsOK Tryz.prog trust_factsOf.C trust_factsOf.root (lkL [([0, 1, 0, 1, 1], trust_factsOf.e0)]) :=
 LsOK.cons trust_factsOf.hC (LsOK.nil) (by kernel_rfl) (fun iv x => by kernel_rfl)
theorem trust_factsOf.ok : FnOK Tryz.prog 95 trust_factsOf.fn :=
 FnOK.of (L := lkL [([0, 1, 0, 1, 1], trust_factsOf.e0)]) (root := trust_factsOf.root) trust_factsOf.hC (enters_of (c := trust_factsOf.root) Tryz.func95 (by kernel_rfl) (by kernel_rfl)) Tryz.func95 (by kernel_rfl) (rs := [.cell 4 112]) (by kernel_rfl) (by kernel_rfl) trust_factsOf.h0 (fun x => by kernel_rfl)
noncomputable def trust_numbers.s0 (v0_6 : (List Bool)) (v0_7 : Int) (x0_8 : Int) (o0_0 : (List Int)) : Option ((Int × (List Int)) ⊕ (List Int)) :=
 (cb (decide (x0_8 < v0_7)) (ck (0 ≤ x0_8 ∧ x0_8 < ((List.length v0_6 : Nat) : Int)) (cb (rd false v0_6 x0_8) (ck ((List.length o0_0 + List.length ([x0_8] : List Int)) * 8 ≤ 140737488355328) (ck (InR (x0_8 + (1 : Int))) (some (.inl ((x0_8 + (1 : Int)), (o0_0 ++ ([x0_8] : List Int))))))) (ck (InR (x0_8 + (1 : Int))) (some (.inl ((x0_8 + (1 : Int)), o0_0)))))) (some (.inr o0_0)))
noncomputable def trust_numbers.l0 (v0_6 : (List Bool)) (v0_7 : Int) (x0_8 : Int) (o0_0 : (List Int)) : Option (List Int) :=
 loopX (fun (x : (Int × (List Int))) => trust_numbers.s0 v0_6 v0_7 x.1 x.2) (x0_8, o0_0)
noncomputable def trust_numbers.e0 : Ent where
 pre := [.nil 3 3 (.int .i64)]
 inv := [(6, .val (.slice .bool)), (7, .val (.int .i64))]
 car := ⟨[(3, .own 0 1), (8, .val (.int .i64))], [.row 3 (.int .i64)]⟩
 exits := [(.exit 0, ⟨[(3, .own 0 1)], [.row 3 (.int .i64)]⟩)]
 step := fun iv x => trust_numbers.s0 iv.1 iv.2 x.1 x.2
noncomputable def trust_numbers.f (a0 : (List Bool)) : Option (List Int) :=
 (let y1 : Int := ((List.length a0 : Nat) : Int); (ob (trust_numbers.l0 a0 y1 (0 : Int) ([] : List Int)) fun r2 => (some r2)))
noncomputable def trust_numbers.fn : TFn := ⟨[(.slice .bool)], [(.slice (.int .i64))], fun x => trust_numbers.f x⟩
noncomputable def trust_numbers.C : Cx := ⟨T, TYt, lkF [], lkO [], lkD [], lkP [], [], [], false, [], [], lkS [], 20⟩
theorem trust_numbers.hC : CxOK Tryz.prog trust_numbers.C := ⟨tabOK, FsOK.nil, OsOK.nil, mixed, (fun t h => by cases h), (fun t e h => by cases h), SsOK.nil⟩
noncomputable def trust_numbers.root : Code := bodyOf Tryz.f93
theorem trust_numbers.h0 : LsOK Tryz.prog trust_numbers.C trust_numbers.root (lkL [([0, 1, 0, 1, 1], trust_numbers.e0)]) :=
 LsOK.cons trust_numbers.hC (LsOK.nil) (by kernel_rfl) (fun iv x => by kernel_rfl)
theorem trust_numbers.ok : FnOK Tryz.prog 93 trust_numbers.fn :=
 FnOK.of (L := lkL [([0, 1, 0, 1, 1], trust_numbers.e0)]) (root := trust_numbers.root) trust_numbers.hC (enters_of (c := trust_numbers.root) Tryz.func93 (by kernel_rfl) (by kernel_rfl)) Tryz.func93 (by kernel_rfl) (rs := [.tmp 2]) (by kernel_rfl) (by kernel_rfl) trust_numbers.h0 (fun x => by kernel_rfl)
noncomputable def trust_Wrong.f (a0 : (List (ByteArray × (ByteArray × (ByteArray × (ByteArray × (Int × ((List ByteArray) × ByteArray)))))))) (a1 : (List (Int × (ByteArray × Int)))) : Option ((List Int) × Int) :=
 (ob (trust_CheckAudits.f a0 a1) fun r1 => (cb (!decide (r1 = (0 : Int))) (some (([] : List Int), r1)) (ob (trust_factsOf.f a0 a1) fun r2 => (ob (trust_numbers.f r2.2.1) fun r3 => (some (r3, (0 : Int)))))))
noncomputable def trust_Wrong.fn : TFn := ⟨[(.slice (.pair .str (.pair .str (.pair .str (.pair .str (.pair (.int .i64) (.pair (.slice .str) .str))))))), (.slice (.pair (.int .i64) (.pair .str (.int .i64))))], [(.slice (.int .i64)), (.int .i64)], fun x => trust_Wrong.f x.1 x.2⟩
noncomputable def trust_Wrong.C : Cx := ⟨T, TYt, lkF [((65, [0, 0]), trust_CheckAudits.fn), ((93, [0]), trust_numbers.fn), ((95, [0, 0]), trust_factsOf.fn)], lkO [], lkD [], lkP [], [], [], false, [], [], lkS [], 18⟩
theorem trust_Wrong.hC : CxOK Tryz.prog trust_Wrong.C := ⟨tabOK, FsOK.cons trust_CheckAudits.ok (FsOK.cons trust_numbers.ok (FsOK.cons trust_factsOf.ok (FsOK.nil))), OsOK.nil, mixed, (fun t h => by cases h), (fun t e h => by cases h), SsOK.nil⟩
noncomputable def trust_Wrong.root : Code := bodyOf Tryz.f45
theorem trust_Wrong.ok : FnOK Tryz.prog 45 trust_Wrong.fn :=
 FnOK.of (L := lkL []) (root := trust_Wrong.root) trust_Wrong.hC (enters_of (c := trust_Wrong.root) Tryz.func45 (by kernel_rfl) (by kernel_rfl)) Tryz.func45 (by kernel_rfl) (rs := [.tmp 4, .tmp 5]) (by kernel_rfl) (by kernel_rfl) LsOK.nil (fun x => by kernel_rfl)
noncomputable def trust_facts_right.s0 (o0_0 : (List (ByteArray × Int))) (o0_1 : (List (ByteArray × Bool))) (e : Option (ByteArray × Bool)) : Option (((List (ByteArray × Int)) × (List (ByteArray × Bool))) ⊕ ((List (ByteArray × Int)) × (List (ByteArray × Bool)))) :=
 (match e with | none => (some (.inr (o0_0, o0_1))) | some e => (some (.inl ((mset e.1 (-1 : Int) o0_0), o0_1))))
noncomputable def trust_facts_right.l0 (es : List (ByteArray × Bool)) (o0_0 : (List (ByteArray × Int))) (o0_1 : (List (ByteArray × Bool))) : Option ((List (ByteArray × Int)) × (List (ByteArray × Bool))) :=
 loopM (fun (x : ((List (ByteArray × Int)) × (List (ByteArray × Bool)))) e => trust_facts_right.s0 x.1 x.2 e) es (o0_0, o0_1)
noncomputable def trust_facts_right.e0 : EntM where
 it := 14
 k := 2
 t := .bool
 pre := []
 inv := [(1, .val (.slice (.pair .str (.pair .str (.pair .str (.pair .str (.pair (.int .i64) (.pair (.slice .str) .str)))))))), (2, .rp (.pair (.slice .bool) (.pair (.slice .bool) (.mp .bool))))]
 car := ⟨[(5, .nm 0 []), (6, .nm 1 [])], [.mapo (.int .i64), .mapo .bool, .dead]⟩
 exits := [(.exit 0, ⟨[(5, .nm 0 []), (6, .nm 1 [])], [.mapo (.int .i64), .mapo .bool, .dead]⟩)]
 step := fun iv x e => trust_facts_right.s0 x.1 x.2 e
noncomputable def trust_facts_right.s1 (v1_2 : ((List Bool) × ((List Bool) × (List (ByteArray × Bool))))) (v1_21 : (List (ByteArray × (ByteArray × (ByteArray × (ByteArray × (Int × ((List ByteArray) × ByteArray)))))))) (v1_22 : Int) (x1_23 : Int) (o1_0 : (List (ByteArray × Int))) (o1_1 : (List (ByteArray × Bool))) : Option ((Int × ((List (ByteArray × Int)) × (List (ByteArray × Bool)))) ⊕ ((List (ByteArray × Int)) × (List (ByteArray × Bool)))) :=
 (cb (decide (x1_23 < v1_22)) (ck (0 ≤ x1_23 ∧ x1_23 < ((List.length v1_21 : Nat) : Int)) (let y4 : (ByteArray × (ByteArray × (ByteArray × (ByteArray × (Int × ((List ByteArray) × ByteArray)))))) := (rd (ByteArray.empty, (ByteArray.empty, (ByteArray.empty, (ByteArray.empty, ((0 : Int), (([] : (List ByteArray)), ByteArray.empty)))))) v1_21 x1_23); (ck (0 ≤ x1_23 ∧ x1_23 < ((List.length v1_2.2.1 : Nat) : Int)) (cb (rd false v1_2.2.1 x1_23) (ck (InR (x1_23 + (1 : Int))) (some (.inl ((x1_23 + (1 : Int)), o1_0, (mset y4.2.2.2.1 true o1_1))))) (ck (0 ≤ x1_23 ∧ x1_23 < ((List.length v1_2.1 : Nat) : Int)) (cb (rd false v1_2.1 x1_23) (cb (Option.getD (mget y4.2.2.2.1 v1_2.2.2) false) (cb (!(Option.getD (mget y4.2.2.2.1 o1_1) false)) (ck (InR (x1_23 + (1 : Int))) (some (.inl ((x1_23 + (1 : Int)), (mset y4.2.2.2.1 x1_23 o1_0), o1_1)))) (ck (InR (x1_23 + (1 : Int))) (some (.inl ((x1_23 + (1 : Int)), o1_0, o1_1))))) (ck (InR (x1_23 + (1 : Int))) (some (.inl ((x1_23 + (1 : Int)), o1_0, o1_1))))) (ck (InR (x1_23 + (1 : Int))) (some (.inl ((x1_23 + (1 : Int)), o1_0, o1_1)))))))))) (some (.inr (o1_0, o1_1))))
noncomputable def trust_facts_right.l1 (v1_2 : ((List Bool) × ((List Bool) × (List (ByteArray × Bool))))) (v1_21 : (List (ByteArray × (ByteArray × (ByteArray × (ByteArray × (Int × ((List ByteArray) × ByteArray)))))))) (v1_22 : Int) (x1_23 : Int) (o1_0 : (List (ByteArray × Int))) (o1_1 : (List (ByteArray × Bool))) : Option ((List (ByteArray × Int)) × (List (ByteArray × Bool))) :=
 loopX (fun (x : (Int × ((List (ByteArray × Int)) × (List (ByteArray × Bool))))) => trust_facts_right.s1 v1_2 v1_21 v1_22 x.1 x.2.1 x.2.2) (x1_23, o1_0, o1_1)
noncomputable def trust_facts_right.e1 : Ent where
 pre := []
 inv := [(2, .rp (.pair (.slice .bool) (.pair (.slice .bool) (.mp .bool)))), (21, .val (.slice (.pair .str (.pair .str (.pair .str (.pair .str (.pair (.int .i64) (.pair (.slice .str) .str)))))))), (22, .val (.int .i64))]
 car := ⟨[(5, .nm 0 []), (6, .nm 1 []), (23, .val (.int .i64))], [.mapo (.int .i64), .mapo .bool, .dead]⟩
 exits := [(.exit 2, ⟨[(5, .nm 0 [])], [.mapo (.int .i64), .mapo .bool, .dead]⟩)]
 step := fun iv x => trust_facts_right.s1 iv.1 iv.2.1 iv.2.2 x.1 x.2.1 x.2.2
noncomputable def trust_facts_right.f (a0 : ((List Bool) × ((List Bool) × (List (ByteArray × Bool))))) (a1 : (List (ByteArray × (ByteArray × (ByteArray × (ByteArray × (Int × ((List ByteArray) × ByteArray)))))))) : Option (List (ByteArray × Int)) :=
 (ob (trust_facts_right.l0 a0.2.2 ([] : List (ByteArray × Int)) ([] : List (ByteArray × Bool))) fun r1 => (let y2 : Int := ((List.length a1 : Nat) : Int); (ob (trust_facts_right.l1 a0 a1 y2 (0 : Int) r1.1 r1.2) fun r5 => (some r5.1))))
noncomputable def trust_facts_right.fn : TFn := ⟨[(.pair (.slice .bool) (.pair (.slice .bool) (.mp .bool))), (.slice (.pair .str (.pair .str (.pair .str (.pair .str (.pair (.int .i64) (.pair (.slice .str) .str)))))))], [(.mp (.int .i64))], fun x => trust_facts_right.f x.1 x.2⟩
noncomputable def trust_facts_right.C : Cx := ⟨T, TYt, lkF [], lkO [], lkD [], lkP [], [2, 9], [(103, 4), (162, 3)], false, [], [], lkS [], 63⟩
theorem trust_facts_right.hC : CxOK Tryz.prog trust_facts_right.C := ⟨tabOK, FsOK.nil, OsOK.nil, mixed, (fun t h => by cases h), (mps_of [(103, 4), (162, 3)] (by kernel_rfl)), SsOK.nil⟩
noncomputable def trust_facts_right.root : Code := bodyOf Tryz.f139
theorem trust_facts_right.h0 : LsOK Tryz.prog trust_facts_right.C trust_facts_right.root (lkL [([0, 1, 0, 1, 1], trust_facts_right.e0)]) :=
 LsOK.consM trust_facts_right.hC (LsOK.nil) (by kernel_rfl) (fun g iv x e => by cases e <;> kernel_rfl)
theorem trust_facts_right.h1 : LsOK Tryz.prog trust_facts_right.C trust_facts_right.root (lkL [([0, 1, 0, 1, 1, 1], trust_facts_right.e1), ([0, 1, 0, 1, 1], trust_facts_right.e0)]) :=
 LsOK.cons trust_facts_right.hC (trust_facts_right.h0) (by kernel_rfl) (fun iv x => by kernel_rfl)
theorem trust_facts_right.ok : FnOK Tryz.prog 139 trust_facts_right.fn :=
 FnOK.of (L := lkL [([0, 1, 0, 1, 1, 1], trust_facts_right.e1), ([0, 1, 0, 1, 1], trust_facts_right.e0)]) (root := trust_facts_right.root) trust_facts_right.hC (enters_of (c := trust_facts_right.root) Tryz.func139 (by kernel_rfl) (by kernel_rfl)) Tryz.func139 (by kernel_rfl) (rs := [.tmp 4]) (by kernel_rfl) (by kernel_rfl) trust_facts_right.h1 (fun x => by kernel_rfl)
noncomputable def trust_tainted_1.f (a0 : ByteArray) (a1 : (List (ByteArray × Bool))) (a2 : (List (ByteArray × Bool))) : Option Bool :=
 (cb (Option.getD (mget a0 a1) false) (some (!(Option.getD (mget a0 a2) false))) (some false))
noncomputable def trust_tainted_1.fn : TFn := ⟨[.str, (.ref (.mp .bool)), (.ref (.mp .bool))], [.bool], fun x => trust_tainted_1.f x.1 x.2.1 x.2.2⟩
noncomputable def trust_tainted_1.C : Cx := ⟨T, TYt, lkF [], lkO [], lkD [], lkP [], [], [(103, 4)], false, [], [], lkS [], 14⟩
theorem trust_tainted_1.hC : CxOK Tryz.prog trust_tainted_1.C := ⟨tabOK, FsOK.nil, OsOK.nil, mixed, (fun t h => by cases h), (mps_of [(103, 4)] (by kernel_rfl)), SsOK.nil⟩
noncomputable def trust_tainted_1.root : Code := bodyOf Tryz.f140
theorem trust_tainted_1.ok : FnOK Tryz.prog 140 trust_tainted_1.fn :=
 FnOK.of (L := lkL []) (root := trust_tainted_1.root) trust_tainted_1.hC (enters_of (c := trust_tainted_1.root) Tryz.func140 (by kernel_rfl) (by kernel_rfl)) Tryz.func140 (by kernel_rfl) (rs := [.tmp 4]) (by kernel_rfl) (by kernel_rfl) LsOK.nil (fun x => by kernel_rfl)
noncomputable def slices_IndexFunc_string_string_f140.s0 (v0_0 : (List ByteArray)) (v0_1 : ((List (ByteArray × Bool)) × (List (ByteArray × Bool)))) (v0_7 : Int) (x0_8 : Int) : Option (Int ⊕ (Int ⊕ Unit)) :=
 (cb (decide (x0_8 < v0_7)) (ck (0 ≤ x0_8 ∧ x0_8 < ((List.length v0_0 : Nat) : Int)) (let y4 : ByteArray := (rd ByteArray.empty v0_0 x0_8); (ob (trust_tainted_1.f y4 v0_1.1 v0_1.2) fun r5 => (cb r5 (some (.inr (.inl x0_8))) (ck (InR (x0_8 + (1 : Int))) (some (.inl (x0_8 + (1 : Int))))))))) (some (.inr (.inr ()))))
noncomputable def slices_IndexFunc_string_string_f140.l0 (v0_0 : (List ByteArray)) (v0_1 : ((List (ByteArray × Bool)) × (List (ByteArray × Bool)))) (v0_7 : Int) (x0_8 : Int) : Option (Int ⊕ Unit) :=
 loopX (fun (x : Int) => slices_IndexFunc_string_string_f140.s0 v0_0 v0_1 v0_7 x) x0_8
noncomputable def slices_IndexFunc_string_string_f140.e0 : Ent where
 pre := []
 inv := [(0, .val (.slice .str)), (1, .val (.clo 140 (.pair (.ref (.mp .bool)) (.ref (.mp .bool))))), (7, .val (.int .i64))]
 car := ⟨[(8, .val (.int .i64))], []⟩
 exits := [(.ret, ⟨[(4, .val (.int .i64))], []⟩), (.exit 0, ⟨[], []⟩)]
 step := fun iv x => slices_IndexFunc_string_string_f140.s0 iv.1 iv.2.1 iv.2.2 x
noncomputable def slices_IndexFunc_string_string_f140.f (a0 : (List ByteArray)) (a1 : ((List (ByteArray × Bool)) × (List (ByteArray × Bool)))) : Option Int :=
 (let y1 : Int := ((List.length a0 : Nat) : Int); (ob (slices_IndexFunc_string_string_f140.l0 a0 a1 y1 (0 : Int)) fun r6 => (caseS r6 (fun a7 => (some a7)) (fun b8 => (some (-1 : Int))))))
noncomputable def slices_IndexFunc_string_string_f140.fn : TFn := ⟨[(.slice .str), (.clo 140 (.pair (.ref (.mp .bool)) (.ref (.mp .bool))))], [(.int .i64)], fun x => slices_IndexFunc_string_string_f140.f x.1 x.2⟩
noncomputable def slices_IndexFunc_string_string_f140.C : Cx := ⟨T, TYt, lkF [((140, [0]), trust_tainted_1.fn)], lkO [], lkD [], lkP [], [], [], false, [], [], lkS [], 19⟩
theorem slices_IndexFunc_string_string_f140.hC : CxOK Tryz.prog slices_IndexFunc_string_string_f140.C := ⟨tabOK, FsOK.cons trust_tainted_1.ok (FsOK.nil), OsOK.nil, mixed, (fun t h => by cases h), (fun t e h => by cases h), SsOK.nil⟩
noncomputable def slices_IndexFunc_string_string_f140.root : Code := bodyOf Tryz.f182
theorem slices_IndexFunc_string_string_f140.h0 : LsOK Tryz.prog slices_IndexFunc_string_string_f140.C slices_IndexFunc_string_string_f140.root (lkL [([0, 1, 0, 1], slices_IndexFunc_string_string_f140.e0)]) :=
 LsOK.cons slices_IndexFunc_string_string_f140.hC (LsOK.nil) (by kernel_rfl) (fun iv x => by kernel_rfl)
theorem slices_IndexFunc_string_string_f140.ok : FnOK Tryz.prog 182 slices_IndexFunc_string_string_f140.fn :=
 FnOK.of (L := lkL [([0, 1, 0, 1], slices_IndexFunc_string_string_f140.e0)]) (root := slices_IndexFunc_string_string_f140.root) slices_IndexFunc_string_string_f140.hC (enters_of (c := slices_IndexFunc_string_string_f140.root) Tryz.func182 (by kernel_rfl) (by kernel_rfl)) Tryz.func182 (by kernel_rfl) (rs := [.tmp 4]) (by kernel_rfl) (by kernel_rfl) slices_IndexFunc_string_string_f140.h0 (fun x => by kernel_rfl)
noncomputable def slices_ContainsFunc_string_string_f140.f (a0 : (List ByteArray)) (a1 : ((List (ByteArray × Bool)) × (List (ByteArray × Bool)))) : Option Bool :=
 (ob (slices_IndexFunc_string_string_f140.f a0 a1) fun r1 => (some (decide ((0 : Int) ≤ r1))))
noncomputable def slices_ContainsFunc_string_string_f140.fn : TFn := ⟨[(.slice .str), (.clo 140 (.pair (.ref (.mp .bool)) (.ref (.mp .bool))))], [.bool], fun x => slices_ContainsFunc_string_string_f140.f x.1 x.2⟩
noncomputable def slices_ContainsFunc_string_string_f140.C : Cx := ⟨T, TYt, lkF [((182, [0, 142]), slices_IndexFunc_string_string_f140.fn)], lkO [], lkD [], lkP [], [], [], false, [], [], lkS [], 9⟩
theorem slices_ContainsFunc_string_string_f140.hC : CxOK Tryz.prog slices_ContainsFunc_string_string_f140.C := ⟨tabOK, FsOK.cons slices_IndexFunc_string_string_f140.ok (FsOK.nil), OsOK.nil, mixed, (fun t h => by cases h), (fun t e h => by cases h), SsOK.nil⟩
noncomputable def slices_ContainsFunc_string_string_f140.root : Code := bodyOf Tryz.f128
theorem slices_ContainsFunc_string_string_f140.ok : FnOK Tryz.prog 128 slices_ContainsFunc_string_string_f140.fn :=
 FnOK.of (L := lkL []) (root := slices_ContainsFunc_string_string_f140.root) slices_ContainsFunc_string_string_f140.hC (enters_of (c := slices_ContainsFunc_string_string_f140.root) Tryz.func128 (by kernel_rfl) (by kernel_rfl)) Tryz.func128 (by kernel_rfl) (rs := [.tmp 4]) (by kernel_rfl) (by kernel_rfl) LsOK.nil (fun x => by kernel_rfl)
noncomputable def trust_tainted.s0 (v0_5 : ((List Bool) × ((List Bool) × (List (ByteArray × Bool))))) (v0_6 : (List (ByteArray × Int))) (v0_25 : (List (ByteArray × (ByteArray × (ByteArray × (ByteArray × (Int × ((List ByteArray) × ByteArray)))))))) (v0_26 : Int) (x0_27 : Int) (o0_1 : (List Bool)) (o0_2 : (List (ByteArray × Bool))) (o0_3 : (List (ByteArray × Bool))) : Option ((Int × ((List Bool) × ((List (ByteArray × Bool)) × (List (ByteArray × Bool))))) ⊕ ((List Bool) × ((List (ByteArray × Bool)) × (List (ByteArray × Bool))))) :=
 (cb (decide (x0_27 < v0_26)) (ck (0 ≤ x0_27 ∧ x0_27 < ((List.length v0_25 : Nat) : Int)) (let y10 : (ByteArray × (ByteArray × (ByteArray × (ByteArray × (Int × ((List ByteArray) × ByteArray)))))) := (rd (ByteArray.empty, (ByteArray.empty, (ByteArray.empty, (ByteArray.empty, ((0 : Int), (([] : (List ByteArray)), ByteArray.empty)))))) v0_25 x0_27); (let y11 : Int := (Option.getD (mget y10.2.2.2.1 v0_6) (0 : Int)); (ck (0 ≤ x0_27 ∧ x0_27 < ((List.length v0_5.2.1 : Nat) : Int)) (cb (rd false v0_5.2.1 x0_27) (ck (0 ≤ x0_27 ∧ x0_27 < ((List.length o0_1 : Nat) : Int)) (ck ((Int.toNat x0_27) < List.length o0_1) (ck (0 ≤ x0_27 ∧ x0_27 < ((List.length (List.set o0_1 (Int.toNat x0_27) true) : Nat) : Int)) (ck ((Int.toNat x0_27) < List.length (List.set o0_1 (Int.toNat x0_27) true)) (cb (List.getD (List.set o0_1 (Int.toNat x0_27) true) (Int.toNat x0_27) false) (ck (InR (x0_27 + (1 : Int))) (some (.inl ((x0_27 + (1 : Int)), (List.set o0_1 (Int.toNat x0_27) true), (mset y10.2.2.1 true o0_2), o0_3)))) (ck (InR (x0_27 + (1 : Int))) (some (.inl ((x0_27 + (1 : Int)), (List.set o0_1 (Int.toNat x0_27) true), o0_2, (mset y10.2.2.1 true o0_3)))))))))) (cb (Option.isSome (mget y10.2.2.2.1 v0_6)) (ck (0 ≤ x0_27 ∧ x0_27 < ((List.length v0_5.1 : Nat) : Int)) (cb (!(rd false v0_5.1 x0_27)) (cb (decide (y11 < x0_27)) (ck (0 ≤ x0_27 ∧ x0_27 < ((List.length o0_1 : Nat) : Int)) (ck ((Int.toNat x0_27) < List.length o0_1) (ck (0 ≤ x0_27 ∧ x0_27 < ((List.length (List.set o0_1 (Int.toNat x0_27) true) : Nat) : Int)) (ck ((Int.toNat x0_27) < List.length (List.set o0_1 (Int.toNat x0_27) true)) (cb (List.getD (List.set o0_1 (Int.toNat x0_27) true) (Int.toNat x0_27) false) (ck (InR (x0_27 + (1 : Int))) (some (.inl ((x0_27 + (1 : Int)), (List.set o0_1 (Int.toNat x0_27) true), (mset y10.2.2.1 true o0_2), o0_3)))) (ck (InR (x0_27 + (1 : Int))) (some (.inl ((x0_27 + (1 : Int)), (List.set o0_1 (Int.toNat x0_27) true), o0_2, (mset y10.2.2.1 true o0_3)))))))))) (ob (slices_ContainsFunc_string_string_f140.f y10.2.2.2.2.2.1 (o0_2, o0_3)) fun r12 => (ck (0 ≤ x0_27 ∧ x0_27 < ((List.length o0_1 : Nat) : Int)) (ck ((Int.toNat x0_27) < List.length o0_1) (ck (0 ≤ x0_27 ∧ x0_27 < ((List.length (List.set o0_1 (Int.toNat x0_27) r12) : Nat) : Int)) (ck ((Int.toNat x0_27) < List.length (List.set o0_1 (Int.toNat x0_27) r12)) (cb (List.getD (List.set o0_1 (Int.toNat x0_27) r12) (Int.toNat x0_27) false) (ck (InR (x0_27 + (1 : Int))) (some (.inl ((x0_27 + (1 : Int)), (List.set o0_1 (Int.toNat x0_27) r12), (mset y10.2.2.1 true o0_2), o0_3)))) (ck (InR (x0_27 + (1 : Int))) (some (.inl ((x0_27 + (1 : Int)), (List.set o0_1 (Int.toNat x0_27) r12), o0_2, (mset y10.2.2.1 true o0_3)))))))))))) (ob (slices_ContainsFunc_string_string_f140.f y10.2.2.2.2.2.1 (o0_2, o0_3)) fun r13 => (ck (0 ≤ x0_27 ∧ x0_27 < ((List.length o0_1 : Nat) : Int)) (ck ((Int.toNat x0_27) < List.length o0_1) (ck (0 ≤ x0_27 ∧ x0_27 < ((List.length (List.set o0_1 (Int.toNat x0_27) r13) : Nat) : Int)) (ck ((Int.toNat x0_27) < List.length (List.set o0_1 (Int.toNat x0_27) r13)) (cb (List.getD (List.set o0_1 (Int.toNat x0_27) r13) (Int.toNat x0_27) false) (ck (InR (x0_27 + (1 : Int))) (some (.inl ((x0_27 + (1 : Int)), (List.set o0_1 (Int.toNat x0_27) r13), (mset y10.2.2.1 true o0_2), o0_3)))) (ck (InR (x0_27 + (1 : Int))) (some (.inl ((x0_27 + (1 : Int)), (List.set o0_1 (Int.toNat x0_27) r13), o0_2, (mset y10.2.2.1 true o0_3))))))))))))) (ob (slices_ContainsFunc_string_string_f140.f y10.2.2.2.2.2.1 (o0_2, o0_3)) fun r14 => (ck (0 ≤ x0_27 ∧ x0_27 < ((List.length o0_1 : Nat) : Int)) (ck ((Int.toNat x0_27) < List.length o0_1) (ck (0 ≤ x0_27 ∧ x0_27 < ((List.length (List.set o0_1 (Int.toNat x0_27) r14) : Nat) : Int)) (ck ((Int.toNat x0_27) < List.length (List.set o0_1 (Int.toNat x0_27) r14)) (cb (List.getD (List.set o0_1 (Int.toNat x0_27) r14) (Int.toNat x0_27) false) (ck (InR (x0_27 + (1 : Int))) (some (.inl ((x0_27 + (1 : Int)), (List.set o0_1 (Int.toNat x0_27) r14), (mset y10.2.2.1 true o0_2), o0_3)))) (ck (InR (x0_27 + (1 : Int))) (some (.inl ((x0_27 + (1 : Int)), (List.set o0_1 (Int.toNat x0_27) r14), o0_2, (mset y10.2.2.1 true o0_3))))))))))))))))) (some (.inr (o0_1, o0_2, o0_3))))
noncomputable def trust_tainted.l0 (v0_5 : ((List Bool) × ((List Bool) × (List (ByteArray × Bool))))) (v0_6 : (List (ByteArray × Int))) (v0_25 : (List (ByteArray × (ByteArray × (ByteArray × (ByteArray × (Int × ((List ByteArray) × ByteArray)))))))) (v0_26 : Int) (x0_27 : Int) (o0_1 : (List Bool)) (o0_2 : (List (ByteArray × Bool))) (o0_3 : (List (ByteArray × Bool))) : Option ((List Bool) × ((List (ByteArray × Bool)) × (List (ByteArray × Bool)))) :=
 loopX (fun (x : (Int × ((List Bool) × ((List (ByteArray × Bool)) × (List (ByteArray × Bool)))))) => trust_tainted.s0 v0_5 v0_6 v0_25 v0_26 x.1 x.2.1 x.2.2.1 x.2.2.2) (x0_27, o0_1, o0_2, o0_3)
noncomputable def trust_tainted.e0 : Ent where
 pre := []
 inv := [(5, .rp (.pair (.slice .bool) (.pair (.slice .bool) (.mp .bool)))), (6, .val (.mp (.int .i64))), (25, .val (.slice (.pair .str (.pair .str (.pair .str (.pair .str (.pair (.int .i64) (.pair (.slice .str) .str)))))))), (26, .val (.int .i64))]
 car := ⟨[(7, .own 1 1), (8, .ptr 4 1), (9, .ptr 5 1), (27, .val (.int .i64))], [.dead, .row 4 .bool, .mapo .bool, .mapo .bool, .box 103 [.nm 2 []], .box 103 [.nm 3 []]]⟩
 exits := [(.exit 0, ⟨[(7, .own 1 1)], [.dead, .row 4 .bool, .mapo .bool, .mapo .bool, .box 103 [.nm 2 []], .box 103 [.nm 3 []]]⟩)]
 step := fun iv x => trust_tainted.s0 iv.1 iv.2.1 iv.2.2.1 iv.2.2.2 x.1 x.2.1 x.2.2.1 x.2.2.2
noncomputable def trust_tainted.f (a0 : (List (ByteArray × (ByteArray × (ByteArray × (ByteArray × (Int × ((List ByteArray) × ByteArray)))))))) (a1 : (List (Int × (ByteArray × Int)))) : Option (List Bool) :=
 (ob (trust_factsOf.f a0 a1) fun r1 => (ob (trust_facts_right.f r1 a0) fun r2 => (let y3 : Int := ((List.length a0 : Nat) : Int); (ck (0 ≤ y3 ∧ y3 * (1 : Int) ≤ 140737488355328) (let y4 : Int := ((List.length a0 : Nat) : Int); (ob (trust_tainted.l0 r1 r2 a0 y4 (0 : Int) (List.replicate (Int.toNat y3) false) ([] : List (ByteArray × Bool)) ([] : List (ByteArray × Bool))) fun r15 => (some r15.1)))))))
noncomputable def trust_tainted.fn : TFn := ⟨[(.slice (.pair .str (.pair .str (.pair .str (.pair .str (.pair (.int .i64) (.pair (.slice .str) .str))))))), (.slice (.pair (.int .i64) (.pair .str (.int .i64))))], [(.slice .bool)], fun x => trust_tainted.f x.1 x.2⟩
noncomputable def trust_tainted.C : Cx := ⟨T, TYt, lkF [((95, [0, 0]), trust_factsOf.fn), ((128, [0, 142]), slices_ContainsFunc_string_string_f140.fn), ((139, [0, 0]), trust_facts_right.fn)], lkO [], lkD [], lkP [], [5, 11], [(103, 4), (162, 3)], false, [], [], lkS [], 81⟩
theorem trust_tainted.hC : CxOK Tryz.prog trust_tainted.C := ⟨tabOK, FsOK.cons trust_factsOf.ok (FsOK.cons slices_ContainsFunc_string_string_f140.ok (FsOK.cons trust_facts_right.ok (FsOK.nil))), OsOK.nil, mixed, (fun t h => by cases h), (mps_of [(103, 4), (162, 3)] (by kernel_rfl)), SsOK.nil⟩
noncomputable def trust_tainted.root : Code := bodyOf Tryz.f91
theorem trust_tainted.h0 : LsOK Tryz.prog trust_tainted.C trust_tainted.root (lkL [([0, 1, 0, 1, 1, 1, 1, 1], trust_tainted.e0)]) :=
 LsOK.cons trust_tainted.hC (LsOK.nil) (by kernel_rfl) (fun iv x => by kernel_rfl)
theorem trust_tainted.ok : FnOK Tryz.prog 91 trust_tainted.fn :=
 FnOK.of (L := lkL [([0, 1, 0, 1, 1, 1, 1, 1], trust_tainted.e0)]) (root := trust_tainted.root) trust_tainted.hC (enters_of (c := trust_tainted.root) Tryz.func91 (by kernel_rfl) (by kernel_rfl)) Tryz.func91 (by kernel_rfl) (rs := [.tmp 4]) (by kernel_rfl) (by kernel_rfl) trust_tainted.h0 (fun x => by kernel_rfl)
noncomputable def trust_Tainted.f (a0 : (List (ByteArray × (ByteArray × (ByteArray × (ByteArray × (Int × ((List ByteArray) × ByteArray)))))))) (a1 : (List (Int × (ByteArray × Int)))) : Option ((List Int) × Int) :=
 (ob (trust_CheckAudits.f a0 a1) fun r1 => (cb (!decide (r1 = (0 : Int))) (some (([] : List Int), r1)) (ob (trust_tainted.f a0 a1) fun r2 => (ob (trust_numbers.f r2) fun r3 => (some (r3, (0 : Int)))))))
noncomputable def trust_Tainted.fn : TFn := ⟨[(.slice (.pair .str (.pair .str (.pair .str (.pair .str (.pair (.int .i64) (.pair (.slice .str) .str))))))), (.slice (.pair (.int .i64) (.pair .str (.int .i64))))], [(.slice (.int .i64)), (.int .i64)], fun x => trust_Tainted.f x.1 x.2⟩
noncomputable def trust_Tainted.C : Cx := ⟨T, TYt, lkF [((65, [0, 0]), trust_CheckAudits.fn), ((91, [0, 0]), trust_tainted.fn), ((93, [0]), trust_numbers.fn)], lkO [], lkD [], lkP [], [], [], false, [], [], lkS [], 17⟩
theorem trust_Tainted.hC : CxOK Tryz.prog trust_Tainted.C := ⟨tabOK, FsOK.cons trust_CheckAudits.ok (FsOK.cons trust_tainted.ok (FsOK.cons trust_numbers.ok (FsOK.nil))), OsOK.nil, mixed, (fun t h => by cases h), (fun t e h => by cases h), SsOK.nil⟩
noncomputable def trust_Tainted.root : Code := bodyOf Tryz.f42
theorem trust_Tainted.ok : FnOK Tryz.prog 42 trust_Tainted.fn :=
 FnOK.of (L := lkL []) (root := trust_Tainted.root) trust_Tainted.hC (enters_of (c := trust_Tainted.root) Tryz.func42 (by kernel_rfl) (by kernel_rfl)) Tryz.func42 (by kernel_rfl) (rs := [.tmp 4, .tmp 5]) (by kernel_rfl) (by kernel_rfl) LsOK.nil (fun x => by kernel_rfl)
noncomputable def trust_Suspected.f (a0 : (List (ByteArray × (ByteArray × (ByteArray × (ByteArray × (Int × ((List ByteArray) × ByteArray)))))))) (a1 : (List (Int × (ByteArray × Int)))) : Option ((List ByteArray) × Int) :=
 (ob (trust_CheckAudits.f a0 a1) fun r1 => (cb (!decide (r1 = (0 : Int))) (some (([] : List ByteArray), r1)) (ob (trust_factsOf.f a0 a1) fun r2 => (ob (maps_Keys_map_string_bool_string_bool.f r2.2.2) fun r3 => (ob (slices_Sorted_string_f144.f r3) fun r4 => (some (r4, (0 : Int))))))))
noncomputable def trust_Suspected.fn : TFn := ⟨[(.slice (.pair .str (.pair .str (.pair .str (.pair .str (.pair (.int .i64) (.pair (.slice .str) .str))))))), (.slice (.pair (.int .i64) (.pair .str (.int .i64))))], [(.slice .str), (.int .i64)], fun x => trust_Suspected.f x.1 x.2⟩
noncomputable def trust_Suspected.C : Cx := ⟨T, TYt, lkF [((65, [0, 0]), trust_CheckAudits.fn), ((95, [0, 0]), trust_factsOf.fn), ((97, [146]), slices_Sorted_string_f144.fn), ((98, [0]), maps_Keys_map_string_bool_string_bool.fn)], lkO [], lkD [], lkP [], [], [], false, [], [], lkS [], 19⟩
theorem trust_Suspected.hC : CxOK Tryz.prog trust_Suspected.C := ⟨tabOK, FsOK.cons trust_CheckAudits.ok (FsOK.cons trust_factsOf.ok (FsOK.cons slices_Sorted_string_f144.ok (FsOK.cons maps_Keys_map_string_bool_string_bool.ok (FsOK.nil)))), OsOK.nil, mixed, (fun t h => by cases h), (fun t e h => by cases h), SsOK.nil⟩
noncomputable def trust_Suspected.root : Code := bodyOf Tryz.f46
theorem trust_Suspected.ok : FnOK Tryz.prog 46 trust_Suspected.fn :=
 FnOK.of (L := lkL []) (root := trust_Suspected.root) trust_Suspected.hC (enters_of (c := trust_Suspected.root) Tryz.func46 (by kernel_rfl) (by kernel_rfl)) Tryz.func46 (by kernel_rfl) (rs := [.tmp 4, .tmp 5]) (by kernel_rfl) (by kernel_rfl) LsOK.nil (fun x => by kernel_rfl)
noncomputable def trust_isPlain.f (a0 : ByteArray) : Option Bool :=
 (ob (strings_ContainsFunc_f186.f a0 ()) fun r1 => (some (!r1)))
noncomputable def trust_isPlain.fn : TFn := ⟨[.str], [.bool], fun x => trust_isPlain.f x⟩
noncomputable def trust_isPlain.C : Cx := ⟨T, TYt, lkF [((185, [0, 188]), strings_ContainsFunc_f186.fn)], lkO [], lkD [], lkP [], [], [], false, [], [], lkS [], 6⟩
theorem trust_isPlain.hC : CxOK Tryz.prog trust_isPlain.C := ⟨tabOK, FsOK.cons strings_ContainsFunc_f186.ok (FsOK.nil), OsOK.nil, mixed, (fun t h => by cases h), (fun t e h => by cases h), SsOK.nil⟩
noncomputable def trust_isPlain.root : Code := bodyOf Tryz.f133
theorem trust_isPlain.ok : FnOK Tryz.prog 133 trust_isPlain.fn :=
 FnOK.of (L := lkL []) (root := trust_isPlain.root) trust_isPlain.hC (enters_of (c := trust_isPlain.root) Tryz.func133 (by kernel_rfl) (by kernel_rfl)) Tryz.func133 (by kernel_rfl) (rs := [.tmp 2]) (by kernel_rfl) (by kernel_rfl) LsOK.nil (fun x => by kernel_rfl)
noncomputable def trust_isSecret.f (a0 : ByteArray) : Option Bool :=
 (let y1 : Int := ((ByteArray.size a0 : Nat) : Int); (cb (decide ((1 : Int) ≤ y1)) (let y2 : Int := ((ByteArray.size a0 : Nat) : Int); (cb (decide (y2 ≤ (100 : Int))) (ob (trust_isPlain.f a0) fun r3 => (some r3)) (some false))) (some false)))
noncomputable def trust_isSecret.fn : TFn := ⟨[.str], [.bool], fun x => trust_isSecret.f x⟩
noncomputable def trust_isSecret.C : Cx := ⟨T, TYt, lkF [((133, [0]), trust_isPlain.fn)], lkO [], lkD [], lkP [], [], [], false, [], [], lkS [], 15⟩
theorem trust_isSecret.hC : CxOK Tryz.prog trust_isSecret.C := ⟨tabOK, FsOK.cons trust_isPlain.ok (FsOK.nil), OsOK.nil, mixed, (fun t h => by cases h), (fun t e h => by cases h), SsOK.nil⟩
noncomputable def trust_isSecret.root : Code := bodyOf Tryz.f83
theorem trust_isSecret.ok : FnOK Tryz.prog 83 trust_isSecret.fn :=
 FnOK.of (L := lkL []) (root := trust_isSecret.root) trust_isSecret.hC (enters_of (c := trust_isSecret.root) Tryz.func83 (by kernel_rfl) (by kernel_rfl)) Tryz.func83 (by kernel_rfl) (rs := [.tmp 2]) (by kernel_rfl) (by kernel_rfl) LsOK.nil (fun x => by kernel_rfl)
noncomputable def strings_HasPrefix.f (a0 : ByteArray) (a1 : ByteArray) : Option Bool :=
 (ob (internal_stringslite_HasPrefix.f a0 a1) fun r1 => (some r1))
noncomputable def strings_HasPrefix.fn : TFn := ⟨[.str, .str], [.bool], fun x => strings_HasPrefix.f x.1 x.2⟩
noncomputable def strings_HasPrefix.C : Cx := ⟨T, TYt, lkF [((183, [0, 0]), internal_stringslite_HasPrefix.fn)], lkO [], lkD [], lkP [], [], [], false, [], [], lkS [], 8⟩
theorem strings_HasPrefix.hC : CxOK Tryz.prog strings_HasPrefix.C := ⟨tabOK, FsOK.cons internal_stringslite_HasPrefix.ok (FsOK.nil), OsOK.nil, mixed, (fun t h => by cases h), (fun t e h => by cases h), SsOK.nil⟩
noncomputable def strings_HasPrefix.root : Code := bodyOf Tryz.f130
theorem strings_HasPrefix.ok : FnOK Tryz.prog 130 strings_HasPrefix.fn :=
 FnOK.of (L := lkL []) (root := strings_HasPrefix.root) strings_HasPrefix.hC (enters_of (c := strings_HasPrefix.root) Tryz.func130 (by kernel_rfl) (by kernel_rfl)) Tryz.func130 (by kernel_rfl) (rs := [.tmp 4]) (by kernel_rfl) (by kernel_rfl) LsOK.nil (fun x => by kernel_rfl)
noncomputable def trust_checkWriter.s0 (v0_1 : (ByteArray × (ByteArray × ((List ByteArray) × (Int × Int))))) (v0_21 : (List ByteArray)) (v0_22 : Int) (x0_23 : Int) : Option (Int ⊕ (Int ⊕ Unit)) :=
 (cb (decide (x0_23 < v0_22)) (ck (0 ≤ x0_23 ∧ x0_23 < ((List.length v0_21 : Nat) : Int)) (let y10 : ByteArray := (rd ByteArray.empty v0_21 x0_23); (ob (strings_HasPrefix.f y10 bs_47_47) fun r11 => (cb (!r11) (some (.inr (.inl (3 : Int)))) (let y12 : Int := ((ByteArray.size y10 : Nat) : Int); (cb (decide ((1000 : Int) < y12)) (some (.inr (.inl (3 : Int)))) (ob (trust_isPlain.f y10) fun r13 => (cb (!r13) (some (.inr (.inl (3 : Int)))) (cb (decide ((0 : Int) < x0_23)) (ck (InR (x0_23 - (1 : Int))) (ck (0 ≤ (x0_23 - (1 : Int)) ∧ (x0_23 - (1 : Int)) < ((List.length v0_1.2.2.1 : Nat) : Int)) (let y14 : ByteArray := (rd ByteArray.empty v0_1.2.2.1 (x0_23 - (1 : Int))); (cb (bless y10 y14 || decide (y10 = y14)) (some (.inr (.inl (8 : Int)))) (ck (InR (x0_23 + (1 : Int))) (some (.inl (x0_23 + (1 : Int))))))))) (ck (InR (x0_23 + (1 : Int))) (some (.inl (x0_23 + (1 : Int)))))))))))))) (some (.inr (.inr ()))))
noncomputable def trust_checkWriter.l0 (v0_1 : (ByteArray × (ByteArray × ((List ByteArray) × (Int × Int))))) (v0_21 : (List ByteArray)) (v0_22 : Int) (x0_23 : Int) : Option (Int ⊕ Unit) :=
 loopX (fun (x : Int) => trust_checkWriter.s0 v0_1 v0_21 v0_22 x) x0_23
noncomputable def trust_checkWriter.e0 : Ent where
 pre := []
 inv := [(1, .rp (.pair .str (.pair .str (.pair (.slice .str) (.pair (.int .i64) (.int .i64)))))), (21, .val (.slice .str)), (22, .val (.int .i64))]
 car := ⟨[(23, .val (.int .i64))], []⟩
 exits := [(.ret, ⟨[(2, .val (.int .i64))], []⟩), (.exit 1, ⟨[], []⟩)]
 step := fun iv x => trust_checkWriter.s0 iv.1 iv.2.1 iv.2.2 x
noncomputable def trust_checkWriter.f (a0 : (ByteArray × (ByteArray × ((List ByteArray) × (Int × Int))))) : Option Int :=
 (ob (config_IsWord.f a0.1) fun r1 => (cb (!r1) (some (5 : Int)) (ob (trust_isSecret.f a0.2.1) fun r2 => (cb (!r2) (some (3 : Int)) (let y3 : Int := ((List.length a0.2.2.1 : Nat) : Int); (cb (decide ((30 : Int) < y3)) (some (2 : Int)) (let y4 : Int := ((List.length a0.2.2.1 : Nat) : Int); (ob (trust_checkWriter.l0 a0 a0.2.2.1 y4 (0 : Int)) fun r15 => (caseS r15 (fun a16 => (some a16)) (fun b17 => (ob (trust_within.f a0.2.2.2.1 (0 : Int) (1000000000 : Int)) fun r18 => (cb (!r18) (some (1 : Int)) (ob (trust_within.f a0.2.2.2.2 (0 : Int) (1000000001 : Int)) fun r19 => (cb (!r19) (some (1 : Int)) (cb (decide (a0.2.2.2.2 ≤ a0.2.2.2.1)) (some (8 : Int)) (some (0 : Int)))))))))))))))))
noncomputable def trust_checkWriter.fn : TFn := ⟨[(.pair .str (.pair .str (.pair (.slice .str) (.pair (.int .i64) (.int .i64)))))], [(.int .i64)], fun x => trust_checkWriter.f x⟩
noncomputable def trust_checkWriter.C : Cx := ⟨T, TYt, lkF [((70, [0, 0, 0]), trust_within.fn), ((76, [0]), config_IsWord.fn), ((83, [0]), trust_isSecret.fn), ((130, [0, 0]), strings_HasPrefix.fn), ((133, [0]), trust_isPlain.fn)], lkO [], lkD [], lkP [], [1], [], false, [], [], lkS [], 69⟩
theorem trust_checkWriter.hC : CxOK Tryz.prog trust_checkWriter.C := ⟨tabOK, FsOK.cons trust_within.ok (FsOK.cons config_IsWord.ok (FsOK.cons trust_isSecret.ok (FsOK.cons strings_HasPrefix.ok (FsOK.cons trust_isPlain.ok (FsOK.nil))))), OsOK.nil, mixed, (fun t h => by cases h), (fun t e h => by cases h), SsOK.nil⟩
noncomputable def trust_checkWriter.root : Code := bodyOf Tryz.f125
theorem trust_checkWriter.h0 : LsOK Tryz.prog trust_checkWriter.C trust_checkWriter.root (lkL [([0, 1, 0, 1, 1], trust_checkWriter.e0)]) :=
 LsOK.cons trust_checkWriter.hC (LsOK.nil) (by kernel_rfl) (fun iv x => by kernel_rfl)
theorem trust_checkWriter.ok : FnOK Tryz.prog 125 trust_checkWriter.fn :=
 FnOK.of (L := lkL [([0, 1, 0, 1, 1], trust_checkWriter.e0)]) (root := trust_checkWriter.root) trust_checkWriter.hC (enters_of (c := trust_checkWriter.root) Tryz.func125 (by kernel_rfl) (by kernel_rfl)) Tryz.func125 (by kernel_rfl) (rs := [.tmp 2]) (by kernel_rfl) (by kernel_rfl) trust_checkWriter.h0 (fun x => by kernel_rfl)
noncomputable def trust_CheckWriters.s0 (v0_0 : (List (ByteArray × (ByteArray × ((List ByteArray) × (Int × Int)))))) (v0_9 : (List (ByteArray × (ByteArray × ((List ByteArray) × (Int × Int)))))) (v0_10 : Int) (x0_11 : Int) : Option (Int ⊕ (Int ⊕ Unit)) :=
 (cb (decide (x0_11 < v0_10)) (ck (0 ≤ x0_11 ∧ x0_11 < ((List.length v0_9 : Nat) : Int)) (let y6 : (ByteArray × (ByteArray × ((List ByteArray) × (Int × Int)))) := (rd (ByteArray.empty, (ByteArray.empty, (([] : (List ByteArray)), ((0 : Int), (0 : Int))))) v0_9 x0_11); (ob (trust_checkWriter.f y6) fun r7 => (cb (!decide (r7 = (0 : Int))) (some (.inr (.inl r7))) (cb (decide ((0 : Int) < x0_11)) (ck (InR (x0_11 - (1 : Int))) (ck (0 ≤ (x0_11 - (1 : Int)) ∧ (x0_11 - (1 : Int)) < ((List.length v0_0 : Nat) : Int)) (let y8 : ByteArray := (rd (ByteArray.empty, (ByteArray.empty, (([] : (List ByteArray)), ((0 : Int), (0 : Int))))) v0_0 (x0_11 - (1 : Int))).1; (cb (bless y6.1 y8 || decide (y6.1 = y8)) (some (.inr (.inl (8 : Int)))) (ck (InR (x0_11 + (1 : Int))) (some (.inl (x0_11 + (1 : Int))))))))) (ck (InR (x0_11 + (1 : Int))) (some (.inl (x0_11 + (1 : Int)))))))))) (some (.inr (.inr ()))))
noncomputable def trust_CheckWriters.l0 (v0_0 : (List (ByteArray × (ByteArray × ((List ByteArray) × (Int × Int)))))) (v0_9 : (List (ByteArray × (ByteArray × ((List ByteArray) × (Int × Int)))))) (v0_10 : Int) (x0_11 : Int) : Option (Int ⊕ Unit) :=
 loopX (fun (x : Int) => trust_CheckWriters.s0 v0_0 v0_9 v0_10 x) x0_11
noncomputable def trust_CheckWriters.e0 : Ent where
 pre := []
 inv := [(0, .val (.slice (.pair .str (.pair .str (.pair (.slice .str) (.pair (.int .i64) (.int .i64))))))), (9, .val (.slice (.pair .str (.pair .str (.pair (.slice .str) (.pair (.int .i64) (.int .i64))))))), (10, .val (.int .i64))]
 car := ⟨[(11, .val (.int .i64))], []⟩
 exits := [(.ret, ⟨[(2, .val (.int .i64))], []⟩), (.exit 0, ⟨[], []⟩)]
 step := fun iv x => trust_CheckWriters.s0 iv.1 iv.2.1 iv.2.2 x
noncomputable def trust_CheckWriters.f (a0 : (List (ByteArray × (ByteArray × ((List ByteArray) × (Int × Int)))))) : Option Int :=
 (let y1 : Int := ((List.length a0 : Nat) : Int); (cb (decide ((50 : Int) < y1)) (some (2 : Int)) (let y2 : Int := ((List.length a0 : Nat) : Int); (ob (trust_CheckWriters.l0 a0 a0 y2 (0 : Int)) fun r9 => (caseS r9 (fun a10 => (some a10)) (fun b11 => (some (0 : Int))))))))
noncomputable def trust_CheckWriters.fn : TFn := ⟨[(.slice (.pair .str (.pair .str (.pair (.slice .str) (.pair (.int .i64) (.int .i64))))))], [(.int .i64)], fun x => trust_CheckWriters.f x⟩
noncomputable def trust_CheckWriters.C : Cx := ⟨T, TYt, lkF [((125, [0]), trust_checkWriter.fn)], lkO [], lkD [(9, 11, [(0, true), (1, true), (2, true), (3, true), (4, true), (5, true), (6, true), (7, true), (8, true), (9, true), (10, true)], none)], lkP [], [4], [], false, [], [], lkS [], 35⟩
theorem trust_CheckWriters.hC : CxOK Tryz.prog trust_CheckWriters.C := ⟨tabOK, FsOK.cons trust_checkWriter.ok (FsOK.nil), OsOK.nil, mixed, (fun t h => by cases h), (fun t e h => by cases h), SsOK.nil⟩
noncomputable def trust_CheckWriters.root : Code := bodyOf Tryz.f75
theorem trust_CheckWriters.h0 : LsOK Tryz.prog trust_CheckWriters.C trust_CheckWriters.root (lkL [([0, 1, 0, 1, 1], trust_CheckWriters.e0)]) :=
 LsOK.cons trust_CheckWriters.hC (LsOK.nil) (by kernel_rfl) (fun iv x => by kernel_rfl)
theorem trust_CheckWriters.ok : FnOK Tryz.prog 75 trust_CheckWriters.fn :=
 FnOK.of (L := lkL [([0, 1, 0, 1, 1], trust_CheckWriters.e0)]) (root := trust_CheckWriters.root) trust_CheckWriters.hC (enters_of (c := trust_CheckWriters.root) Tryz.func75 (by kernel_rfl) (by kernel_rfl)) Tryz.func75 (by kernel_rfl) (rs := [.tmp 2]) (by kernel_rfl) (by kernel_rfl) trust_CheckWriters.h0 (fun x => by kernel_rfl)
noncomputable def trust_find_1.f (a0 : (ByteArray × (ByteArray × ((List ByteArray) × (Int × Int))))) (a1 : ByteArray) : Option Int :=
 (ob (strings_Compare.f a0.1 a1) fun r1 => (some r1))
noncomputable def trust_find_1.fn : TFn := ⟨[(.pair .str (.pair .str (.pair (.slice .str) (.pair (.int .i64) (.int .i64))))), .str], [(.int .i64)], fun x => trust_find_1.f x.1 x.2⟩
noncomputable def trust_find_1.C : Cx := ⟨T, TYt, lkF [((124, [0, 0]), strings_Compare.fn)], lkO [], lkD [], lkP [], [2], [], false, [], [], lkS [], 9⟩
theorem trust_find_1.hC : CxOK Tryz.prog trust_find_1.C := ⟨tabOK, FsOK.cons strings_Compare.ok (FsOK.nil), OsOK.nil, mixed, (fun t h => by cases h), (fun t e h => by cases h), SsOK.nil⟩
noncomputable def trust_find_1.root : Code := bodyOf Tryz.f123
theorem trust_find_1.ok : FnOK Tryz.prog 123 trust_find_1.fn :=
 FnOK.of (L := lkL []) (root := trust_find_1.root) trust_find_1.hC (enters_of (c := trust_find_1.root) Tryz.func123 (by kernel_rfl) (by kernel_rfl)) Tryz.func123 (by kernel_rfl) (rs := [.tmp 4]) (by kernel_rfl) (by kernel_rfl) LsOK.nil (fun x => by kernel_rfl)
noncomputable def slices_BinarySearchFunc_api_Writer_api_Writer_string_f123.s0 (v0_0 : (List (ByteArray × (ByteArray × ((List ByteArray) × (Int × Int)))))) (v0_1 : ByteArray) (x0_9 : Int) (x0_10 : Int) : Option ((Int × Int) ⊕ Int) :=
 (cb (decide (x0_9 < x0_10)) (ck (InR (x0_9 + x0_10)) (let y7 : Int := (IntKind.u64.wrap (x0_9 + x0_10)); (let y8 : Int := (Int.fdiv y7 (2 ^ min (Int.toNat (1 : Int)) (IntKind.bits .u64))); (ck (0 ≤ (IntKind.i64.wrap y8) ∧ (IntKind.i64.wrap y8) < ((List.length v0_0 : Nat) : Int)) (let y9 : (ByteArray × (ByteArray × ((List ByteArray) × (Int × Int)))) := (rd (ByteArray.empty, (ByteArray.empty, (([] : (List ByteArray)), ((0 : Int), (0 : Int))))) v0_0 (IntKind.i64.wrap y8)); (ob (trust_find_1.f y9 v0_1) fun r10 => (cb (decide (r10 < (0 : Int))) (ck (InR ((IntKind.i64.wrap y8) + (1 : Int))) (let y11 : Int := ((IntKind.i64.wrap y8) + (1 : Int)); (some (.inl (y11, x0_10))))) (some (.inl (x0_9, (IntKind.i64.wrap y8))))))))))) (some (.inr x0_9)))
noncomputable def slices_BinarySearchFunc_api_Writer_api_Writer_string_f123.l0 (v0_0 : (List (ByteArray × (ByteArray × ((List ByteArray) × (Int × Int)))))) (v0_1 : ByteArray) (x0_9 : Int) (x0_10 : Int) : Option Int :=
 loopX (fun (x : (Int × Int)) => slices_BinarySearchFunc_api_Writer_api_Writer_string_f123.s0 v0_0 v0_1 x.1 x.2) (x0_9, x0_10)
noncomputable def slices_BinarySearchFunc_api_Writer_api_Writer_string_f123.e0 : Ent where
 pre := []
 inv := [(0, .val (.slice (.pair .str (.pair .str (.pair (.slice .str) (.pair (.int .i64) (.int .i64))))))), (1, .val .str), (2, .fn 123), (8, .val (.int .i64))]
 car := ⟨[(9, .val (.int .i64)), (10, .val (.int .i64))], []⟩
 exits := [(.exit 0, ⟨[(9, .val (.int .i64))], []⟩)]
 step := fun iv x => slices_BinarySearchFunc_api_Writer_api_Writer_string_f123.s0 iv.1 iv.2.1 x.1 x.2
noncomputable def slices_BinarySearchFunc_api_Writer_api_Writer_string_f123.f (a0 : (List (ByteArray × (ByteArray × ((List ByteArray) × (Int × Int)))))) (a1 : ByteArray) (a2 : Unit) : Option (Int × Bool) :=
 (let y1 : Int := ((List.length a0 : Nat) : Int); (ob (slices_BinarySearchFunc_api_Writer_api_Writer_string_f123.l0 a0 a1 (0 : Int) y1) fun r12 => (cb (decide (r12 < y1)) (ck (0 ≤ r12 ∧ r12 < ((List.length a0 : Nat) : Int)) (let y13 : (ByteArray × (ByteArray × ((List ByteArray) × (Int × Int)))) := (rd (ByteArray.empty, (ByteArray.empty, (([] : (List ByteArray)), ((0 : Int), (0 : Int))))) a0 r12); (ob (trust_find_1.f y13 a1) fun r14 => (some (r12, (decide (r14 = (0 : Int)))))))) (some (r12, false)))))
noncomputable def slices_BinarySearchFunc_api_Writer_api_Writer_string_f123.fn : TFn := ⟨[(.slice (.pair .str (.pair .str (.pair (.slice .str) (.pair (.int .i64) (.int .i64)))))), .str, (.fnc 123)], [(.int .i64), .bool], fun x => slices_BinarySearchFunc_api_Writer_api_Writer_string_f123.f x.1 x.2.1 x.2.2⟩
noncomputable def slices_BinarySearchFunc_api_Writer_api_Writer_string_f123.C : Cx := ⟨T, TYt, lkF [((123, [0, 0]), trust_find_1.fn)], lkO [], lkD [], lkP [], [], [], false, [], [], lkS [], 49⟩
theorem slices_BinarySearchFunc_api_Writer_api_Writer_string_f123.hC : CxOK Tryz.prog slices_BinarySearchFunc_api_Writer_api_Writer_string_f123.C := ⟨tabOK, FsOK.cons trust_find_1.ok (FsOK.nil), OsOK.nil, mixed, (fun t h => by cases h), (fun t e h => by cases h), SsOK.nil⟩
noncomputable def slices_BinarySearchFunc_api_Writer_api_Writer_string_f123.root : Code := bodyOf Tryz.f122
theorem slices_BinarySearchFunc_api_Writer_api_Writer_string_f123.h0 : LsOK Tryz.prog slices_BinarySearchFunc_api_Writer_api_Writer_string_f123.C slices_BinarySearchFunc_api_Writer_api_Writer_string_f123.root (lkL [([0, 0, 1, 1, 1], slices_BinarySearchFunc_api_Writer_api_Writer_string_f123.e0)]) :=
 LsOK.cons slices_BinarySearchFunc_api_Writer_api_Writer_string_f123.hC (LsOK.nil) (by kernel_rfl) (fun iv x => by kernel_rfl)
theorem slices_BinarySearchFunc_api_Writer_api_Writer_string_f123.ok : FnOK Tryz.prog 122 slices_BinarySearchFunc_api_Writer_api_Writer_string_f123.fn :=
 FnOK.of (L := lkL [([0, 0, 1, 1, 1], slices_BinarySearchFunc_api_Writer_api_Writer_string_f123.e0)]) (root := slices_BinarySearchFunc_api_Writer_api_Writer_string_f123.root) slices_BinarySearchFunc_api_Writer_api_Writer_string_f123.hC (enters_of (c := slices_BinarySearchFunc_api_Writer_api_Writer_string_f123.root) Tryz.func122 (by kernel_rfl) (by kernel_rfl)) Tryz.func122 (by kernel_rfl) (rs := [.tmp 6, .tmp 7]) (by kernel_rfl) (by kernel_rfl) slices_BinarySearchFunc_api_Writer_api_Writer_string_f123.h0 (fun x => by kernel_rfl)
noncomputable def trust_find.f (a0 : (List (ByteArray × (ByteArray × ((List ByteArray) × (Int × Int)))))) (a1 : ByteArray) : Option ((ByteArray × (ByteArray × ((List ByteArray) × (Int × Int)))) × Bool) :=
 (ob (slices_BinarySearchFunc_api_Writer_api_Writer_string_f123.f a0 a1 ()) fun r1 => (cb (!r1.2) (some ((bs_, (bs_, (([] : List ByteArray), ((0 : Int), (0 : Int))))), false)) (ck (0 ≤ r1.1 ∧ r1.1 < ((List.length a0 : Nat) : Int)) (let y2 : (ByteArray × (ByteArray × ((List ByteArray) × (Int × Int)))) := (rd (ByteArray.empty, (ByteArray.empty, (([] : (List ByteArray)), ((0 : Int), (0 : Int))))) a0 r1.1); (some (y2, true))))))
noncomputable def trust_find.fn : TFn := ⟨[(.slice (.pair .str (.pair .str (.pair (.slice .str) (.pair (.int .i64) (.int .i64)))))), .str], [(.pair .str (.pair .str (.pair (.slice .str) (.pair (.int .i64) (.int .i64))))), .bool], fun x => trust_find.f x.1 x.2⟩
noncomputable def trust_find.C : Cx := ⟨T, TYt, lkF [((122, [0, 0, 125]), slices_BinarySearchFunc_api_Writer_api_Writer_string_f123.fn)], lkO [], lkD [], lkP [], [], [], false, [], [], lkS [], 21⟩
theorem trust_find.hC : CxOK Tryz.prog trust_find.C := ⟨tabOK, FsOK.cons slices_BinarySearchFunc_api_Writer_api_Writer_string_f123.ok (FsOK.nil), OsOK.nil, mixed, (fun t h => by cases h), (fun t e h => by cases h), SsOK.nil⟩
noncomputable def trust_find.root : Code := bodyOf Tryz.f72
theorem trust_find.ok : FnOK Tryz.prog 72 trust_find.fn :=
 FnOK.of (L := lkL []) (root := trust_find.root) trust_find.hC (enters_of (c := trust_find.root) Tryz.func72 (by kernel_rfl) (by kernel_rfl)) Tryz.func72 (by kernel_rfl) (rs := [.cell 4 91, .tmp 5]) (by kernel_rfl) (by kernel_rfl) LsOK.nil (fun x => by kernel_rfl)
noncomputable def trust_may_1.f (a0 : ByteArray) (a1 : ByteArray) : Option Bool :=
 (ob (strings_HasPrefix.f a1 a0) fun r1 => (some r1))
noncomputable def trust_may_1.fn : TFn := ⟨[.str, (.ref .str)], [.bool], fun x => trust_may_1.f x.1 x.2⟩
noncomputable def trust_may_1.C : Cx := ⟨T, TYt, lkF [((130, [0, 0]), strings_HasPrefix.fn)], lkO [], lkD [], lkP [], [], [], false, [], [], lkS [], 7⟩
theorem trust_may_1.hC : CxOK Tryz.prog trust_may_1.C := ⟨tabOK, FsOK.cons strings_HasPrefix.ok (FsOK.nil), OsOK.nil, mixed, (fun t h => by cases h), (fun t e h => by cases h), SsOK.nil⟩
noncomputable def trust_may_1.root : Code := bodyOf Tryz.f129
theorem trust_may_1.ok : FnOK Tryz.prog 129 trust_may_1.fn :=
 FnOK.of (L := lkL []) (root := trust_may_1.root) trust_may_1.hC (enters_of (c := trust_may_1.root) Tryz.func129 (by kernel_rfl) (by kernel_rfl)) Tryz.func129 (by kernel_rfl) (rs := [.tmp 3]) (by kernel_rfl) (by kernel_rfl) LsOK.nil (fun x => by kernel_rfl)
noncomputable def slices_IndexFunc_string_string_f129.s0 (v0_0 : (List ByteArray)) (v0_1 : ByteArray) (v0_7 : Int) (x0_8 : Int) : Option (Int ⊕ (Int ⊕ Unit)) :=
 (cb (decide (x0_8 < v0_7)) (ck (0 ≤ x0_8 ∧ x0_8 < ((List.length v0_0 : Nat) : Int)) (let y4 : ByteArray := (rd ByteArray.empty v0_0 x0_8); (ob (trust_may_1.f y4 v0_1) fun r5 => (cb r5 (some (.inr (.inl x0_8))) (ck (InR (x0_8 + (1 : Int))) (some (.inl (x0_8 + (1 : Int))))))))) (some (.inr (.inr ()))))
noncomputable def slices_IndexFunc_string_string_f129.l0 (v0_0 : (List ByteArray)) (v0_1 : ByteArray) (v0_7 : Int) (x0_8 : Int) : Option (Int ⊕ Unit) :=
 loopX (fun (x : Int) => slices_IndexFunc_string_string_f129.s0 v0_0 v0_1 v0_7 x) x0_8
noncomputable def slices_IndexFunc_string_string_f129.e0 : Ent where
 pre := []
 inv := [(0, .val (.slice .str)), (1, .val (.clo 129 (.ref .str))), (7, .val (.int .i64))]
 car := ⟨[(8, .val (.int .i64))], []⟩
 exits := [(.ret, ⟨[(4, .val (.int .i64))], []⟩), (.exit 0, ⟨[], []⟩)]
 step := fun iv x => slices_IndexFunc_string_string_f129.s0 iv.1 iv.2.1 iv.2.2 x
noncomputable def slices_IndexFunc_string_string_f129.f (a0 : (List ByteArray)) (a1 : ByteArray) : Option Int :=
 (let y1 : Int := ((List.length a0 : Nat) : Int); (ob (slices_IndexFunc_string_string_f129.l0 a0 a1 y1 (0 : Int)) fun r6 => (caseS r6 (fun a7 => (some a7)) (fun b8 => (some (-1 : Int))))))
noncomputable def slices_IndexFunc_string_string_f129.fn : TFn := ⟨[(.slice .str), (.clo 129 (.ref .str))], [(.int .i64)], fun x => slices_IndexFunc_string_string_f129.f x.1 x.2⟩
noncomputable def slices_IndexFunc_string_string_f129.C : Cx := ⟨T, TYt, lkF [((129, [0]), trust_may_1.fn)], lkO [], lkD [], lkP [], [], [], false, [], [], lkS [], 19⟩
theorem slices_IndexFunc_string_string_f129.hC : CxOK Tryz.prog slices_IndexFunc_string_string_f129.C := ⟨tabOK, FsOK.cons trust_may_1.ok (FsOK.nil), OsOK.nil, mixed, (fun t h => by cases h), (fun t e h => by cases h), SsOK.nil⟩
noncomputable def slices_IndexFunc_string_string_f129.root : Code := bodyOf Tryz.f182
theorem slices_IndexFunc_string_string_f129.h0 : LsOK Tryz.prog slices_IndexFunc_string_string_f129.C slices_IndexFunc_string_string_f129.root (lkL [([0, 1, 0, 1], slices_IndexFunc_string_string_f129.e0)]) :=
 LsOK.cons slices_IndexFunc_string_string_f129.hC (LsOK.nil) (by kernel_rfl) (fun iv x => by kernel_rfl)
theorem slices_IndexFunc_string_string_f129.ok : FnOK Tryz.prog 182 slices_IndexFunc_string_string_f129.fn :=
 FnOK.of (L := lkL [([0, 1, 0, 1], slices_IndexFunc_string_string_f129.e0)]) (root := slices_IndexFunc_string_string_f129.root) slices_IndexFunc_string_string_f129.hC (enters_of (c := slices_IndexFunc_string_string_f129.root) Tryz.func182 (by kernel_rfl) (by kernel_rfl)) Tryz.func182 (by kernel_rfl) (rs := [.tmp 4]) (by kernel_rfl) (by kernel_rfl) slices_IndexFunc_string_string_f129.h0 (fun x => by kernel_rfl)
noncomputable def slices_ContainsFunc_string_string_f129.f (a0 : (List ByteArray)) (a1 : ByteArray) : Option Bool :=
 (ob (slices_IndexFunc_string_string_f129.f a0 a1) fun r1 => (some (decide ((0 : Int) ≤ r1))))
noncomputable def slices_ContainsFunc_string_string_f129.fn : TFn := ⟨[(.slice .str), (.clo 129 (.ref .str))], [.bool], fun x => slices_ContainsFunc_string_string_f129.f x.1 x.2⟩
noncomputable def slices_ContainsFunc_string_string_f129.C : Cx := ⟨T, TYt, lkF [((182, [0, 131]), slices_IndexFunc_string_string_f129.fn)], lkO [], lkD [], lkP [], [], [], false, [], [], lkS [], 9⟩
theorem slices_ContainsFunc_string_string_f129.hC : CxOK Tryz.prog slices_ContainsFunc_string_string_f129.C := ⟨tabOK, FsOK.cons slices_IndexFunc_string_string_f129.ok (FsOK.nil), OsOK.nil, mixed, (fun t h => by cases h), (fun t e h => by cases h), SsOK.nil⟩
noncomputable def slices_ContainsFunc_string_string_f129.root : Code := bodyOf Tryz.f128
theorem slices_ContainsFunc_string_string_f129.ok : FnOK Tryz.prog 128 slices_ContainsFunc_string_string_f129.fn :=
 FnOK.of (L := lkL []) (root := slices_ContainsFunc_string_string_f129.root) slices_ContainsFunc_string_string_f129.hC (enters_of (c := slices_ContainsFunc_string_string_f129.root) Tryz.func128 (by kernel_rfl) (by kernel_rfl)) Tryz.func128 (by kernel_rfl) (rs := [.tmp 4]) (by kernel_rfl) (by kernel_rfl) LsOK.nil (fun x => by kernel_rfl)
noncomputable def trust_may.f (a0 : (ByteArray × (ByteArray × ((List ByteArray) × (Int × Int))))) (a1 : ByteArray) (a2 : Int) : Option Bool :=
 (cb (decide (a0.2.2.2.1 ≤ a2)) (cb (decide (a2 < a0.2.2.2.2)) (ob (slices_ContainsFunc_string_string_f129.f a0.2.2.1 a1) fun r1 => (some r1)) (some false)) (some false))
noncomputable def trust_may.fn : TFn := ⟨[(.pair .str (.pair .str (.pair (.slice .str) (.pair (.int .i64) (.int .i64))))), .str, (.int .i64)], [.bool], fun x => trust_may.f x.1 x.2.1 x.2.2⟩
noncomputable def trust_may.C : Cx := ⟨T, TYt, lkF [((128, [0, 131]), slices_ContainsFunc_string_string_f129.fn)], lkO [], lkD [], lkP [], [3], [], false, [], [], lkS [], 23⟩
theorem trust_may.hC : CxOK Tryz.prog trust_may.C := ⟨tabOK, FsOK.cons slices_ContainsFunc_string_string_f129.ok (FsOK.nil), OsOK.nil, mixed, (fun t h => by cases h), (fun t e h => by cases h), SsOK.nil⟩
noncomputable def trust_may.root : Code := bodyOf Tryz.f78
theorem trust_may.ok : FnOK Tryz.prog 78 trust_may.fn :=
 FnOK.of (L := lkL []) (root := trust_may.root) trust_may.hC (enters_of (c := trust_may.root) Tryz.func78 (by kernel_rfl) (by kernel_rfl)) Tryz.func78 (by kernel_rfl) (rs := [.tmp 6]) (by kernel_rfl) (by kernel_rfl) LsOK.nil (fun x => by kernel_rfl)
noncomputable def trust_May.f (a0 : (List (ByteArray × (ByteArray × ((List ByteArray) × (Int × Int)))))) (a1 : ByteArray) (a2 : ByteArray) (a3 : Int) : Option (Bool × Int) :=
 (ob (trust_CheckWriters.f a0) fun r1 => (cb (!decide (r1 = (0 : Int))) (some (false, r1)) (ob (config_IsWord.f a1) fun r2 => (cb (!r2) (some (false, (5 : Int))) (ob (script_IsWhole.f a2) fun r3 => (cb (!r3) (some (false, (10 : Int))) (ob (trust_within.f a3 (0 : Int) (1000000000 : Int)) fun r4 => (cb (!r4) (some (false, (1 : Int))) (ob (trust_find.f a0 a1) fun r5 => (cb r5.2 (ob (trust_may.f r5.1 a2 a3) fun r6 => (some (r6, (0 : Int)))) (some (false, (0 : Int)))))))))))))
noncomputable def trust_May.fn : TFn := ⟨[(.slice (.pair .str (.pair .str (.pair (.slice .str) (.pair (.int .i64) (.int .i64)))))), .str, .str, (.int .i64)], [.bool, (.int .i64)], fun x => trust_May.f x.1 x.2.1 x.2.2.1 x.2.2.2⟩
noncomputable def trust_May.C : Cx := ⟨T, TYt, lkF [((70, [0, 0, 0]), trust_within.fn), ((72, [0, 0]), trust_find.fn), ((75, [0]), trust_CheckWriters.fn), ((76, [0]), config_IsWord.fn), ((77, [0]), script_IsWhole.fn), ((78, [0, 0, 0]), trust_may.fn)], lkO [], lkD [], lkP [], [11], [], false, [], [], lkS [], 43⟩
theorem trust_May.hC : CxOK Tryz.prog trust_May.C := ⟨tabOK, FsOK.cons trust_within.ok (FsOK.cons trust_find.ok (FsOK.cons trust_CheckWriters.ok (FsOK.cons config_IsWord.ok (FsOK.cons script_IsWhole.ok (FsOK.cons trust_may.ok (FsOK.nil)))))), OsOK.nil, mixed, (fun t h => by cases h), (fun t e h => by cases h), SsOK.nil⟩
noncomputable def trust_May.root : Code := bodyOf Tryz.f23
theorem trust_May.ok : FnOK Tryz.prog 23 trust_May.fn :=
 FnOK.of (L := lkL []) (root := trust_May.root) trust_May.hC (enters_of (c := trust_May.root) Tryz.func23 (by kernel_rfl) (by kernel_rfl)) Tryz.func23 (by kernel_rfl) (rs := [.tmp 8, .tmp 9]) (by kernel_rfl) (by kernel_rfl) LsOK.nil (fun x => by kernel_rfl)
noncomputable def law11_awake.f : Option Bool :=
 (ob (trust_May.f ([(bs_97, (bs_115, (([bs_47_47_97_112_112] : List ByteArray), ((0 : Int), (5 : Int)))))] : List (ByteArray × (ByteArray × ((List ByteArray) × (Int × Int))))) bs_97 bs_47_47_97_112_112_108_101_58_120 (4 : Int)) fun r1 => (ob (trust_May.f ([(bs_97, (bs_115, (([bs_47_47_97_112_112] : List ByteArray), ((0 : Int), (5 : Int)))))] : List (ByteArray × (ByteArray × ((List ByteArray) × (Int × Int))))) bs_97 bs_47_47_97_112_112_108_101_58_120 (5 : Int)) fun r2 => (cb (decide (r1.2 = (0 : Int))) (cb (decide (r2.2 = (0 : Int))) (cb r1.1 (some (!r2.1)) (some false)) (some false)) (some false))))
noncomputable def law11_awake.fn : TFn := ⟨[], [.bool], fun x => law11_awake.f⟩
noncomputable def law11_awake.C : Cx := ⟨T, TYt, lkF [((23, [0, 0, 0, 0]), trust_May.fn)], lkO [], lkD [], lkP [], [], [], false, [], [], lkS [], 32⟩
theorem law11_awake.hC : CxOK Tryz.prog law11_awake.C := ⟨tabOK, FsOK.cons trust_May.ok (FsOK.nil), OsOK.nil, mixed, (fun t h => by cases h), (fun t e h => by cases h), SsOK.nil⟩
noncomputable def law11_awake.root : Code := bodyOf Tryz.f20
theorem law11_awake.ok : FnOK Tryz.prog 20 law11_awake.fn :=
 FnOK.of (L := lkL []) (root := law11_awake.root) law11_awake.hC (enters_of (c := law11_awake.root) Tryz.func20 (by kernel_rfl) (by kernel_rfl)) Tryz.func20 (by kernel_rfl) (rs := [.tmp 0]) (by kernel_rfl) (by kernel_rfl) LsOK.nil (fun x => by kernel_rfl)
noncomputable def slices_Index_int_int.s0 (v0_0 : (List Int)) (v0_1 : Int) (v0_7 : Int) (x0_8 : Int) : Option (Int ⊕ (Int ⊕ Unit)) :=
 (cb (decide (x0_8 < v0_7)) (ck (0 ≤ x0_8 ∧ x0_8 < ((List.length v0_0 : Nat) : Int)) (cb (decide (v0_1 = (rd (0 : Int) v0_0 x0_8))) (some (.inr (.inl x0_8))) (ck (InR (x0_8 + (1 : Int))) (some (.inl (x0_8 + (1 : Int))))))) (some (.inr (.inr ()))))
noncomputable def slices_Index_int_int.l0 (v0_0 : (List Int)) (v0_1 : Int) (v0_7 : Int) (x0_8 : Int) : Option (Int ⊕ Unit) :=
 loopX (fun (x : Int) => slices_Index_int_int.s0 v0_0 v0_1 v0_7 x) x0_8
noncomputable def slices_Index_int_int.e0 : Ent where
 pre := []
 inv := [(0, .val (.slice (.int .i64))), (1, .val (.int .i64)), (7, .val (.int .i64))]
 car := ⟨[(8, .val (.int .i64))], []⟩
 exits := [(.ret, ⟨[(4, .val (.int .i64))], []⟩), (.exit 0, ⟨[], []⟩)]
 step := fun iv x => slices_Index_int_int.s0 iv.1 iv.2.1 iv.2.2 x
noncomputable def slices_Index_int_int.f (a0 : (List Int)) (a1 : Int) : Option Int :=
 (let y1 : Int := ((List.length a0 : Nat) : Int); (ob (slices_Index_int_int.l0 a0 a1 y1 (0 : Int)) fun r2 => (caseS r2 (fun a3 => (some a3)) (fun b4 => (some (-1 : Int))))))
noncomputable def slices_Index_int_int.fn : TFn := ⟨[(.slice (.int .i64)), (.int .i64)], [(.int .i64)], fun x => slices_Index_int_int.f x.1 x.2⟩
noncomputable def slices_Index_int_int.C : Cx := ⟨T, TYt, lkF [], lkO [], lkD [], lkP [], [], [], false, [], [], lkS [], 19⟩
theorem slices_Index_int_int.hC : CxOK Tryz.prog slices_Index_int_int.C := ⟨tabOK, FsOK.nil, OsOK.nil, mixed, (fun t h => by cases h), (fun t e h => by cases h), SsOK.nil⟩
noncomputable def slices_Index_int_int.root : Code := bodyOf Tryz.f94
theorem slices_Index_int_int.h0 : LsOK Tryz.prog slices_Index_int_int.C slices_Index_int_int.root (lkL [([0, 1, 0, 1], slices_Index_int_int.e0)]) :=
 LsOK.cons slices_Index_int_int.hC (LsOK.nil) (by kernel_rfl) (fun iv x => by kernel_rfl)
theorem slices_Index_int_int.ok : FnOK Tryz.prog 94 slices_Index_int_int.fn :=
 FnOK.of (L := lkL [([0, 1, 0, 1], slices_Index_int_int.e0)]) (root := slices_Index_int_int.root) slices_Index_int_int.hC (enters_of (c := slices_Index_int_int.root) Tryz.func94 (by kernel_rfl) (by kernel_rfl)) Tryz.func94 (by kernel_rfl) (rs := [.tmp 4]) (by kernel_rfl) (by kernel_rfl) slices_Index_int_int.h0 (fun x => by kernel_rfl)
noncomputable def slices_Contains_int_int.f (a0 : (List Int)) (a1 : Int) : Option Bool :=
 (ob (slices_Index_int_int.f a0 a1) fun r1 => (some (decide ((0 : Int) ≤ r1))))
noncomputable def slices_Contains_int_int.fn : TFn := ⟨[(.slice (.int .i64)), (.int .i64)], [.bool], fun x => slices_Contains_int_int.f x.1 x.2⟩
noncomputable def slices_Contains_int_int.C : Cx := ⟨T, TYt, lkF [((94, [0, 0]), slices_Index_int_int.fn)], lkO [], lkD [], lkP [], [], [], false, [], [], lkS [], 9⟩
theorem slices_Contains_int_int.hC : CxOK Tryz.prog slices_Contains_int_int.C := ⟨tabOK, FsOK.cons slices_Index_int_int.ok (FsOK.nil), OsOK.nil, mixed, (fun t h => by cases h), (fun t e h => by cases h), SsOK.nil⟩
noncomputable def slices_Contains_int_int.root : Code := bodyOf Tryz.f43
theorem slices_Contains_int_int.ok : FnOK Tryz.prog 43 slices_Contains_int_int.fn :=
 FnOK.of (L := lkL []) (root := slices_Contains_int_int.root) slices_Contains_int_int.hC (enters_of (c := slices_Contains_int_int.root) Tryz.func43 (by kernel_rfl) (by kernel_rfl)) Tryz.func43 (by kernel_rfl) (rs := [.tmp 4]) (by kernel_rfl) (by kernel_rfl) LsOK.nil (fun x => by kernel_rfl)
noncomputable def slices_Equal_string_string.s0 (v0_0 : (List ByteArray)) (v0_1 : (List ByteArray)) (v0_12 : Int) (x0_13 : Int) : Option (Int ⊕ (Bool ⊕ Unit)) :=
 (cb (decide (x0_13 < v0_12)) (ck (0 ≤ x0_13 ∧ x0_13 < ((List.length v0_0 : Nat) : Int)) (let y6 : ByteArray := (rd ByteArray.empty v0_0 x0_13); (ck (0 ≤ x0_13 ∧ x0_13 < ((List.length v0_1 : Nat) : Int)) (let y7 : ByteArray := (rd ByteArray.empty v0_1 x0_13); (cb (!decide (y6 = y7)) (some (.inr (.inl false))) (ck (InR (x0_13 + (1 : Int))) (some (.inl (x0_13 + (1 : Int)))))))))) (some (.inr (.inr ()))))
noncomputable def slices_Equal_string_string.l0 (v0_0 : (List ByteArray)) (v0_1 : (List ByteArray)) (v0_12 : Int) (x0_13 : Int) : Option (Bool ⊕ Unit) :=
 loopX (fun (x : Int) => slices_Equal_string_string.s0 v0_0 v0_1 v0_12 x) x0_13
noncomputable def slices_Equal_string_string.e0 : Ent where
 pre := []
 inv := [(0, .val (.slice .str)), (1, .val (.slice .str)), (12, .val (.int .i64))]
 car := ⟨[(13, .val (.int .i64))], []⟩
 exits := [(.ret, ⟨[(4, .val .bool)], []⟩), (.exit 0, ⟨[], []⟩)]
 step := fun iv x => slices_Equal_string_string.s0 iv.1 iv.2.1 iv.2.2 x
noncomputable def slices_Equal_string_string.f (a0 : (List ByteArray)) (a1 : (List ByteArray)) : Option Bool :=
 (let y1 : Int := ((List.length a0 : Nat) : Int); (let y2 : Int := ((List.length a1 : Nat) : Int); (cb (!decide (y1 = y2)) (some false) (let y3 : Int := ((List.length a0 : Nat) : Int); (ob (slices_Equal_string_string.l0 a0 a1 y3 (0 : Int)) fun r8 => (caseS r8 (fun a9 => (some a9)) (fun b10 => (some true))))))))
noncomputable def slices_Equal_string_string.fn : TFn := ⟨[(.slice .str), (.slice .str)], [.bool], fun x => slices_Equal_string_string.f x.1 x.2⟩
noncomputable def slices_Equal_string_string.C : Cx := ⟨T, TYt, lkF [], lkO [], lkD [(6, 8, [(0, true), (1, true), (2, true), (3, true), (4, true), (5, true), (6, true), (7, true)], none)], lkP [], [], [], false, [], [], lkS [], 26⟩
theorem slices_Equal_string_string.hC : CxOK Tryz.prog slices_Equal_string_string.C := ⟨tabOK, FsOK.nil, OsOK.nil, mixed, (fun t h => by cases h), (fun t e h => by cases h), SsOK.nil⟩
noncomputable def slices_Equal_string_string.root : Code := bodyOf Tryz.f38
theorem slices_Equal_string_string.h0 : LsOK Tryz.prog slices_Equal_string_string.C slices_Equal_string_string.root (lkL [([0, 1, 0, 1, 1], slices_Equal_string_string.e0)]) :=
 LsOK.cons slices_Equal_string_string.hC (LsOK.nil) (by kernel_rfl) (fun iv x => by kernel_rfl)
theorem slices_Equal_string_string.ok : FnOK Tryz.prog 38 slices_Equal_string_string.fn :=
 FnOK.of (L := lkL [([0, 1, 0, 1, 1], slices_Equal_string_string.e0)]) (root := slices_Equal_string_string.root) slices_Equal_string_string.hC (enters_of (c := slices_Equal_string_string.root) Tryz.func38 (by kernel_rfl) (by kernel_rfl)) Tryz.func38 (by kernel_rfl) (rs := [.tmp 4]) (by kernel_rfl) (by kernel_rfl) slices_Equal_string_string.h0 (fun x => by kernel_rfl)
noncomputable def law11_TrustWrongIsTainted.s0 (v0_0 : (List (ByteArray × (ByteArray × (ByteArray × (ByteArray × (Int × ((List ByteArray) × ByteArray)))))))) (v0_7 : (List Int)) (v0_53 : (List Int)) (v0_54 : Int) (x0_55 : Int) (o0_0 : (List ByteArray)) : Option ((Int × (List ByteArray)) ⊕ (Bool ⊕ (List ByteArray))) :=
 (cb (decide (x0_55 < v0_54)) (ck (0 ≤ x0_55 ∧ x0_55 < ((List.length v0_53 : Nat) : Int)) (let y12 : Int := (rd (0 : Int) v0_53 x0_55); (ob (slices_Contains_int_int.f v0_7 y12) fun r13 => (cb (!r13) (some (.inr (.inl false))) (cb (decide (y12 < (0 : Int))) (some (.inr (.inl false))) (let y14 : Int := ((List.length v0_0 : Nat) : Int); (cb (decide (y14 ≤ y12)) (some (.inr (.inl false))) (ck (0 ≤ y12 ∧ y12 < ((List.length v0_0 : Nat) : Int)) (let y15 : ByteArray := (rd (ByteArray.empty, (ByteArray.empty, (ByteArray.empty, (ByteArray.empty, ((0 : Int), (([] : (List ByteArray)), ByteArray.empty)))))) v0_0 y12).2.2.2.1; (ck ((List.length o0_0 + List.length ([y15] : List ByteArray)) * 16 ≤ 140737488355328) (ck (InR (x0_55 + (1 : Int))) (some (.inl ((x0_55 + (1 : Int)), (o0_0 ++ ([y15] : List ByteArray)))))))))))))))) (some (.inr (.inr o0_0))))
noncomputable def law11_TrustWrongIsTainted.l0 (v0_0 : (List (ByteArray × (ByteArray × (ByteArray × (ByteArray × (Int × ((List ByteArray) × ByteArray)))))))) (v0_7 : (List Int)) (v0_53 : (List Int)) (v0_54 : Int) (x0_55 : Int) (o0_0 : (List ByteArray)) : Option (Bool ⊕ (List ByteArray)) :=
 loopX (fun (x : (Int × (List ByteArray))) => law11_TrustWrongIsTainted.s0 v0_0 v0_7 v0_53 v0_54 x.1 x.2) (x0_55, o0_0)
noncomputable def law11_TrustWrongIsTainted.e0 : Ent where
 pre := [.nil 11 9 .str]
 inv := [(0, .val (.slice (.pair .str (.pair .str (.pair .str (.pair .str (.pair (.int .i64) (.pair (.slice .str) .str)))))))), (5, .val (.slice (.int .i64))), (7, .val (.slice (.int .i64))), (9, .val (.slice .str)), (53, .val (.slice (.int .i64))), (54, .val (.int .i64))]
 car := ⟨[(11, .own 0 1), (55, .val (.int .i64))], [.row 9 .str]⟩
 exits := [(.ret, ⟨[(4, .val .bool)], []⟩), (.exit 0, ⟨[(11, .own 0 1)], [.row 9 .str]⟩)]
 step := fun iv x => law11_TrustWrongIsTainted.s0 iv.1 iv.2.2.1 iv.2.2.2.2.1 iv.2.2.2.2.2 x.1 x.2
noncomputable def law11_TrustWrongIsTainted.f (a0 : (List (ByteArray × (ByteArray × (ByteArray × (ByteArray × (Int × ((List ByteArray) × ByteArray)))))))) (a1 : (List (Int × (ByteArray × Int)))) : Option Bool :=
 (ob (trust_Wrong.f a0 a1) fun r1 => (ob (trust_Tainted.f a0 a1) fun r2 => (ob (trust_Suspected.f a0 a1) fun r3 => (cb (!decide (r1.2 = (0 : Int))) (cb (decide (r1.2 = r2.2)) (cb (decide (r2.2 = r3.2)) (ob (law11_awake.f) fun r4 => (some r4)) (some false)) (some false)) (cb (!decide (r2.2 = (0 : Int))) (cb (decide (r1.2 = r2.2)) (cb (decide (r2.2 = r3.2)) (ob (law11_awake.f) fun r5 => (some r5)) (some false)) (some false)) (cb (!decide (r3.2 = (0 : Int))) (cb (decide (r1.2 = r2.2)) (cb (decide (r2.2 = r3.2)) (ob (law11_awake.f) fun r6 => (some r6)) (some false)) (some false)) (let y7 : Int := ((List.length r1.1 : Nat) : Int); (ob (law11_TrustWrongIsTainted.l0 a0 r2.1 r1.1 y7 (0 : Int) ([] : List ByteArray)) fun r16 => (caseS r16 (fun a17 => (some a17)) (fun b18 => (ck (Option.isSome (srt_47_1000000_run b18) = true) (ck (Option.isSome (srt_48_1000000_run (Option.getD (srt_47_1000000_run b18) [])) = true) (ob (slices_Equal_string_string.f (List.take (List.length (compB (Option.getD (srt_47_1000000_run b18) []))) (Option.getD (srt_48_1000000_run (Option.getD (srt_47_1000000_run b18) [])) [])) r3.1) fun r19 => (cb r19 (let y20 : Int := ((List.length r1.1 : Nat) : Int); (cb (decide ((0 : Int) < y20)) (ob (law11_awake.f) fun r21 => (some r21)) (let y22 : Int := ((List.length r2.1 : Nat) : Int); (cb (decide (y22 = (0 : Int))) (ob (law11_awake.f) fun r23 => (some r23)) (some false))))) (some false)))))))))))))))
noncomputable def law11_TrustWrongIsTainted.fn : TFn := ⟨[(.slice (.pair .str (.pair .str (.pair .str (.pair .str (.pair (.int .i64) (.pair (.slice .str) .str))))))), (.slice (.pair (.int .i64) (.pair .str (.int .i64))))], [.bool], fun x => law11_TrustWrongIsTainted.f x.1 x.2⟩
noncomputable def law11_TrustWrongIsTainted.C : Cx := ⟨T, TYt, lkF [((20, []), law11_awake.fn), ((38, [0, 0]), slices_Equal_string_string.fn), ((42, [0, 0]), trust_Tainted.fn), ((43, [0, 0]), slices_Contains_int_int.fn), ((45, [0, 0]), trust_Wrong.fn), ((46, [0, 0]), trust_Suspected.fn)], lkO [], lkD [], lkP [], [], [], false, [], [], lkS [((47, 1000000), srt_47_1000000), ((48, 1000000), srt_48_1000000)], 101⟩
theorem law11_TrustWrongIsTainted.hC : CxOK Tryz.prog law11_TrustWrongIsTainted.C := ⟨tabOK, FsOK.cons law11_awake.ok (FsOK.cons slices_Equal_string_string.ok (FsOK.cons trust_Tainted.ok (FsOK.cons slices_Contains_int_int.ok (FsOK.cons trust_Wrong.ok (FsOK.cons trust_Suspected.ok (FsOK.nil)))))), OsOK.nil, mixed, (fun t h => by cases h), (fun t e h => by cases h), (SsOK.cons srt_47_1000000_ok ((SsOK.cons srt_48_1000000_ok (SsOK.nil))))⟩
noncomputable def law11_TrustWrongIsTainted.root : Code := bodyOf Tryz.f10
theorem law11_TrustWrongIsTainted.h0 : LsOK Tryz.prog law11_TrustWrongIsTainted.C law11_TrustWrongIsTainted.root (lkL [([0, 1, 0, 1, 1, 1, 1, 1, 1], law11_TrustWrongIsTainted.e0)]) :=
 LsOK.cons law11_TrustWrongIsTainted.hC (LsOK.nil) (by kernel_rfl) (fun iv x => by kernel_rfl)
theorem law11_TrustWrongIsTainted.ok : FnOK Tryz.prog 10 law11_TrustWrongIsTainted.fn :=
 FnOK.of (L := lkL [([0, 1, 0, 1, 1, 1, 1, 1, 1], law11_TrustWrongIsTainted.e0)]) (root := law11_TrustWrongIsTainted.root) law11_TrustWrongIsTainted.hC (enters_of (c := law11_TrustWrongIsTainted.root) Tryz.func10 (by kernel_rfl) (by kernel_rfl)) Tryz.func10 (by kernel_rfl) (rs := [.tmp 4]) (by kernel_rfl) (by kernel_rfl) law11_TrustWrongIsTainted.h0 (fun x => by kernel_rfl)
noncomputable def trust_checkBoth.f (a0 : (List (ByteArray × (ByteArray × ((List ByteArray) × (Int × Int)))))) (a1 : (ByteArray × (ByteArray × (ByteArray × (ByteArray × (Int × ((List ByteArray) × ByteArray))))))) : Option Int :=
 (ob (trust_CheckWriters.f a0) fun r1 => (cb (!decide (r1 = (0 : Int))) (some r1) (ob (trust_checkClaimed.f a1) fun r2 => (some r2))))
noncomputable def trust_checkBoth.fn : TFn := ⟨[(.slice (.pair .str (.pair .str (.pair (.slice .str) (.pair (.int .i64) (.int .i64)))))), (.pair .str (.pair .str (.pair .str (.pair .str (.pair (.int .i64) (.pair (.slice .str) .str))))))], [(.int .i64)], fun x => trust_checkBoth.f x.1 x.2⟩
noncomputable def trust_checkBoth.C : Cx := ⟨T, TYt, lkF [((75, [0]), trust_CheckWriters.fn), ((84, [0]), trust_checkClaimed.fn)], lkO [], lkD [], lkP [], [3], [], false, [], [], lkS [], 13⟩
theorem trust_checkBoth.hC : CxOK Tryz.prog trust_checkBoth.C := ⟨tabOK, FsOK.cons trust_CheckWriters.ok (FsOK.cons trust_checkClaimed.ok (FsOK.nil)), OsOK.nil, mixed, (fun t h => by cases h), (fun t e h => by cases h), SsOK.nil⟩
noncomputable def trust_checkBoth.root : Code := bodyOf Tryz.f71
theorem trust_checkBoth.ok : FnOK Tryz.prog 71 trust_checkBoth.fn :=
 FnOK.of (L := lkL []) (root := trust_checkBoth.root) trust_checkBoth.hC (enters_of (c := trust_checkBoth.root) Tryz.func71 (by kernel_rfl) (by kernel_rfl)) Tryz.func71 (by kernel_rfl) (rs := [.tmp 4]) (by kernel_rfl) (by kernel_rfl) LsOK.nil (fun x => by kernel_rfl)
end Go.Proofs.YtahlodpolggeiaaGreatDoor
