/-
  The functions of the trust package and of its laws, printed, each with its proof that the code computes it. No condition.
-/
import Derived.Test.YtahlodpolggeiaaGreatDoorTypes
noncomputable section
set_option linter.unusedVariables false
set_option maxRecDepth 100000
namespace Go.Proofs.YtahlodpolggeiaaGreatDoor
open Go Go.Proofs.YtahlodpolggeiaaGreatDoor.Eng
def bs_ : ByteArray := ⟨#[]⟩
def Q32 : ByteArray := ⟨#[115]⟩
def Q2y : ByteArray := ⟨#[32]⟩
def Q33 : ByteArray := ⟨#[46]⟩
def Q31 : ByteArray := ⟨#[46, 46]⟩
def Q20 : ByteArray := ⟨#[46, 95, 45, 43]⟩
def Q2z : ByteArray := ⟨#[47]⟩
def Q1i : ByteArray := ⟨#[47, 47]⟩
def Q2i : ByteArray := ⟨#[47, 47, 97, 112, 112]⟩
def Q1h : ByteArray := ⟨#[47, 47, 97, 112, 112, 108, 101, 58, 120]⟩
def Qf : ByteArray := ⟨#[48, 49, 50, 51, 52, 53, 54, 55, 56, 57, 97, 98, 99, 100, 101, 102]⟩
def Q2x : ByteArray := ⟨#[58]⟩
def Q30 : ByteArray := ⟨#[97]⟩
def Q17 : ByteArray := ⟨#[97, 98, 99, 100, 101, 102, 103, 104, 105, 106, 107, 108, 109, 110, 111, 112, 113, 114, 115, 116, 117, 118, 119, 120, 121, 122, 48, 49, 50, 51, 52, 53, 54, 55, 56, 57, 95, 45]⟩
def Q1t.f (a0 : ByteArray) : Option Bool :=
 (let y1 : Int := ((ByteArray.size a0 : Nat) : Int); (cb (decide (y1 = (16 : Int))) (ob (Q2g.f a0 Qf) fun r2 => (some (decide (r2 = bs_)))) (some false)))
def Q1t.fn : TFn := ⟨[.str], [.bool], fun x => Q1t.f x⟩
def Q1t.C : Cx := ⟨T, TYt, lkF [((121, [0, 0]), Q2g.fn)], lkO [], lkD [], lkP [], [], [], false, [], [], lkS [], 11⟩
theorem Q1t.hC : CxOK Tryz.prog Q1t.C := ⟨tabOK, FsOK.cons Q2g.ok (FsOK.nil), OsOK.nil, mixed, (fun t h => by cases h), (fun t e h => by cases h), SsOK.nil⟩
def Q1t.root : Code := bodyOf Tryz.f69
theorem Q1t.ok : FnOK Tryz.prog 69 Q1t.fn :=
 FnOK.of (L := lkL []) (root := Q1t.root) Q1t.hC (enters_of (c := Q1t.root) Tryz.func69 (by kernel_rfl) (by kernel_rfl)) Tryz.func69 (by kernel_rfl) (rs := [.tmp 2]) (by kernel_rfl) (by kernel_rfl) LsOK.nil (fun x => by kernel_rfl)
def Q11.f (a0 : ByteArray) : Option Int :=
 none
def Q11.fn : TFn := ⟨[.str], [(.int .i64)], fun x => Q11.f x⟩
def Q11.C : Cx := ⟨T, TYt, lkF [], lkO [], lkD [], lkP [], [], [], false, [], [], lkS [], 10⟩
theorem Q11.hC : CxOK Tryz.prog Q11.C := ⟨tabOK, FsOK.nil, OsOK.nil, mixed, (fun t h => by cases h), (fun t e h => by cases h), SsOK.nil⟩
def Q11.root : Code := bodyOf Tryz.f250
theorem Q11.ok : FnOK Tryz.prog 250 Q11.fn :=
 FnOK.of (L := lkL []) (root := Q11.root) Q11.hC (enters_of (c := Q11.root) Tryz.func250 (by kernel_rfl) (by kernel_rfl)) Tryz.func250 (by kernel_rfl) (rs := [.tmp 2]) (by kernel_rfl) (by kernel_rfl) LsOK.nil (fun x => by kernel_rfl)
def Qq.f (a0 : ByteArray) : Option (Int × Int) :=
 (let y1 : Int := ((ByteArray.size a0 : Nat) : Int); (cb (decide (y1 < (1 : Int))) (some ((65533 : Int), (0 : Int))) (ck (0 ≤ (0 : Int) ∧ (0 : Int) < ((ByteArray.size a0 : Nat) : Int)) none)))
def Qq.fn : TFn := ⟨[.str], [(.int .i32), (.int .i64)], fun x => Qq.f x⟩
def Qq.C : Cx := ⟨T, TYt, lkF [], lkO [], lkD [], lkP [], [9], [], false, [], [], lkS [], 117⟩
theorem Qq.hC : CxOK Tryz.prog Qq.C := ⟨tabOK, FsOK.nil, OsOK.nil, mixed, (fun t h => by cases h), (fun t e h => by cases h), SsOK.nil⟩
def Qq.root : Code := bodyOf Tryz.f239
theorem Qq.ok : FnOK Tryz.prog 239 Qq.fn :=
 FnOK.of (L := lkL []) (root := Qq.root) Qq.hC (enters_of (c := Qq.root) Tryz.func239 (by kernel_rfl) (by kernel_rfl)) Tryz.func239 (by kernel_rfl) (rs := [.tmp 2, .tmp 3]) (by kernel_rfl) (by kernel_rfl) LsOK.nil (fun x => by kernel_rfl)
def Qz.f (a0 : ByteArray) : Option (Int × Int) :=
 (cb (!decide (a0 = bs_)) (ck (0 ≤ (0 : Int) ∧ (0 : Int) < ((ByteArray.size a0 : Nat) : Int)) (cb (decide (((UInt8.toNat (bt a0 (0 : Int)) : Nat) : Int) < (128 : Int))) (ck (0 ≤ (0 : Int) ∧ (0 : Int) < ((ByteArray.size a0 : Nat) : Int)) (let y1 : Int := (IntKind.i32.wrap ((UInt8.toNat (bt a0 (0 : Int)) : Nat) : Int)); (some (y1, (1 : Int))))) (ob (Qq.f a0) fun r2 => (some (r2.1, r2.2))))) (ob (Qq.f a0) fun r3 => (some (r3.1, r3.2))))
def Qz.fn : TFn := ⟨[.str], [(.int .i32), (.int .i64)], fun x => Qz.f x⟩
def Qz.C : Cx := ⟨T, TYt, lkF [((239, [0]), Qq.fn)], lkO [], lkD [], lkP [], [], [], false, [], [], lkS [], 19⟩
theorem Qz.hC : CxOK Tryz.prog Qz.C := ⟨tabOK, FsOK.cons Qq.ok (FsOK.nil), OsOK.nil, mixed, (fun t h => by cases h), (fun t e h => by cases h), SsOK.nil⟩
def Qz.root : Code := bodyOf Tryz.f206
theorem Qz.ok : FnOK Tryz.prog 206 Qz.fn :=
 FnOK.of (L := lkL []) (root := Qz.root) Qz.hC (enters_of (c := Qz.root) Tryz.func206 (by kernel_rfl) (by kernel_rfl)) Tryz.func206 (by kernel_rfl) (rs := [.tmp 2, .tmp 3]) (by kernel_rfl) (by kernel_rfl) LsOK.nil (fun x => by kernel_rfl)
def Q10.s0 (v0_1 : Int) (x0_0 : ByteArray) (x0_7 : Int) (o0_0 : (List ByteArray)) : Option ((ByteArray × (Int × (List ByteArray))) ⊕ (ByteArray × (List ByteArray))) :=
 (ck (InR (v0_1 - (1 : Int))) (cb (decide (x0_7 < (v0_1 - (1 : Int)))) (ob (Qz.f x0_0) fun r5 => (ck (0 ≤ r5.2 ∧ r5.2 ≤ ((ByteArray.size x0_0 : Nat) : Int)) (let y6 : ByteArray := (ByteArray.extract x0_0 0 (Int.toNat r5.2)); (ck (0 ≤ x0_7 ∧ x0_7 < ((List.length o0_0 : Nat) : Int)) (ck ((Int.toNat x0_7) < List.length o0_0) (ck (0 ≤ r5.2 ∧ r5.2 ≤ ((ByteArray.size x0_0 : Nat) : Int)) (let y7 : ByteArray := (ByteArray.extract x0_0 (Int.toNat r5.2) (ByteArray.size x0_0)); (ck (InR (x0_7 + (1 : Int))) (some (.inl (y7, (x0_7 + (1 : Int)), (List.set o0_0 (Int.toNat x0_7) y6)))))))))))) (some (.inr (x0_0, o0_0)))))
def Q10.l0 (v0_1 : Int) (x0_0 : ByteArray) (x0_7 : Int) (o0_0 : (List ByteArray)) : Option (ByteArray × (List ByteArray)) :=
 loopX (fun (x : (ByteArray × (Int × (List ByteArray)))) => Q10.s0 v0_1 x.1 x.2.1 x.2.2) (x0_0, x0_7, o0_0)
def Q10.e0 : Ent where
 pre := []
 inv := [(1, .val (.int .i64))]
 car := ⟨[(0, .val .str), (6, .own 0 1), (7, .val (.int .i64))], [.row 9 .str]⟩
 exits := [(.exit 0, ⟨[(0, .val .str), (6, .own 0 1)], [.row 9 .str]⟩)]
 step := fun iv x => Q10.s0 iv x.1 x.2.1 x.2.2
def Q10.f (a0 : ByteArray) (a1 : Int) : Option (List ByteArray) :=
 (ob (Q11.f a0) fun r1 => (cb (decide (a1 < (0 : Int))) (ck (0 ≤ r1 ∧ r1 * (16 : Int) ≤ 140737488355328) (ob (Q10.l0 r1 a0 (0 : Int) (List.replicate (Int.toNat r1) ByteArray.empty)) fun r8 => (cb (decide ((0 : Int) < r1)) (ck (InR (r1 - (1 : Int))) (ck (0 ≤ (r1 - (1 : Int)) ∧ (r1 - (1 : Int)) < ((List.length r8.2 : Nat) : Int)) (ck ((Int.toNat (r1 - (1 : Int))) < List.length r8.2) (some (List.set r8.2 (Int.toNat (r1 - (1 : Int))) r8.1))))) (some r8.2)))) (cb (decide (r1 < a1)) (ck (0 ≤ r1 ∧ r1 * (16 : Int) ≤ 140737488355328) (ob (Q10.l0 r1 a0 (0 : Int) (List.replicate (Int.toNat r1) ByteArray.empty)) fun r9 => (cb (decide ((0 : Int) < r1)) (ck (InR (r1 - (1 : Int))) (ck (0 ≤ (r1 - (1 : Int)) ∧ (r1 - (1 : Int)) < ((List.length r9.2 : Nat) : Int)) (ck ((Int.toNat (r1 - (1 : Int))) < List.length r9.2) (some (List.set r9.2 (Int.toNat (r1 - (1 : Int))) r9.1))))) (some r9.2)))) (ck (0 ≤ a1 ∧ a1 * (16 : Int) ≤ 140737488355328) (ob (Q10.l0 a1 a0 (0 : Int) (List.replicate (Int.toNat a1) ByteArray.empty)) fun r10 => (cb (decide ((0 : Int) < a1)) (ck (InR (a1 - (1 : Int))) (ck (0 ≤ (a1 - (1 : Int)) ∧ (a1 - (1 : Int)) < ((List.length r10.2 : Nat) : Int)) (ck ((Int.toNat (a1 - (1 : Int))) < List.length r10.2) (some (List.set r10.2 (Int.toNat (a1 - (1 : Int))) r10.1))))) (some r10.2)))))))
def Q10.fn : TFn := ⟨[.str, (.int .i64)], [(.slice .str)], fun x => Q10.f x.1 x.2⟩
def Q10.C : Cx := ⟨T, TYt, lkF [((206, [0]), Qz.fn), ((250, [0]), Q11.fn)], lkO [], lkD [], lkP [], [], [], false, [], [], lkS [], 50⟩
theorem Q10.hC : CxOK Tryz.prog Q10.C := ⟨tabOK, FsOK.cons Qz.ok (FsOK.cons Q11.ok (FsOK.nil)), OsOK.nil, mixed, (fun t h => by cases h), (fun t e h => by cases h), SsOK.nil⟩
def Q10.root : Code := bodyOf Tryz.f230
theorem Q10.h0 : LsOK Tryz.prog Q10.C Q10.root (lkL [([0, 1, 0, 1, 1, 1, 1], Q10.e0)]) :=
 LsOK.cons Q10.hC (LsOK.nil) (by kernel_rfl) (fun iv x => by kernel_rfl)
theorem Q10.ok : FnOK Tryz.prog 230 Q10.fn :=
 FnOK.of (L := lkL [([0, 1, 0, 1, 1, 1, 1], Q10.e0)]) (root := Q10.root) Q10.hC (enters_of (c := Q10.root) Tryz.func230 (by kernel_rfl) (by kernel_rfl)) Tryz.func230 (by kernel_rfl) (rs := [.tmp 4]) (by kernel_rfl) (by kernel_rfl) Q10.h0 (fun x => by kernel_rfl)
def Q2c.f (a0 : ByteArray) (a1 : ByteArray) : Option Int :=
 (ob (Q1r.f a0 a1) fun r1 => (some r1))
def Q2c.fn : TFn := ⟨[.str, .str], [(.int .i64)], fun x => Q2c.f x.1 x.2⟩
def Q2c.C : Cx := ⟨T, TYt, lkF [((198, [0, 0]), Q1r.fn)], lkO [], lkD [], lkP [], [], [], false, [], [], lkS [], 8⟩
theorem Q2c.hC : CxOK Tryz.prog Q2c.C := ⟨tabOK, FsOK.cons Q1r.ok (FsOK.nil), OsOK.nil, mixed, (fun t h => by cases h), (fun t e h => by cases h), SsOK.nil⟩
def Q2c.root : Code := bodyOf Tryz.f232
theorem Q2c.ok : FnOK Tryz.prog 232 Q2c.fn :=
 FnOK.of (L := lkL []) (root := Q2c.root) Q2c.hC (enters_of (c := Q2c.root) Tryz.func232 (by kernel_rfl) (by kernel_rfl)) Tryz.func232 (by kernel_rfl) (rs := [.tmp 4]) (by kernel_rfl) (by kernel_rfl) LsOK.nil (fun x => by kernel_rfl)
def Qn.s0 (v0_1 : ByteArray) (v0_2 : Int) (v0_3 : Int) (x0_0 : ByteArray) (x0_10 : Int) (o0_0 : (List ByteArray)) : Option ((ByteArray × (Int × (List ByteArray))) ⊕ (ByteArray × (Int × (List ByteArray)))) :=
 (cb (decide (x0_10 < v0_3)) (ob (Q2c.f x0_0 v0_1) fun r9 => (cb (decide (r9 < (0 : Int))) (some (.inr (x0_0, x0_10, o0_0))) (ck (InR (r9 + v0_2)) (ck (0 ≤ (r9 + v0_2) ∧ (r9 + v0_2) ≤ ((ByteArray.size x0_0 : Nat) : Int)) (let y10 : ByteArray := (ByteArray.extract x0_0 0 (Int.toNat (r9 + v0_2))); (ck (0 ≤ x0_10 ∧ x0_10 < ((List.length o0_0 : Nat) : Int)) (ck ((Int.toNat x0_10) < List.length o0_0) (let y11 : Int := ((ByteArray.size v0_1 : Nat) : Int); (ck (InR (r9 + y11)) (ck (0 ≤ (r9 + y11) ∧ (r9 + y11) ≤ ((ByteArray.size x0_0 : Nat) : Int)) (let y12 : ByteArray := (ByteArray.extract x0_0 (Int.toNat (r9 + y11)) (ByteArray.size x0_0)); (ck (InR (x0_10 + (1 : Int))) (some (.inl (y12, (x0_10 + (1 : Int)), (List.set o0_0 (Int.toNat x0_10) y10)))))))))))))))) (some (.inr (x0_0, x0_10, o0_0))))
def Qn.l0 (v0_1 : ByteArray) (v0_2 : Int) (v0_3 : Int) (x0_0 : ByteArray) (x0_10 : Int) (o0_0 : (List ByteArray)) : Option (ByteArray × (Int × (List ByteArray))) :=
 loopX (fun (x : (ByteArray × (Int × (List ByteArray)))) => Qn.s0 v0_1 v0_2 v0_3 x.1 x.2.1 x.2.2) (x0_0, x0_10, o0_0)
def Qn.e0 : Ent where
 pre := []
 inv := [(1, .val .str), (2, .val (.int .i64)), (3, .val (.int .i64))]
 car := ⟨[(0, .val .str), (9, .own 0 1), (10, .val (.int .i64))], [.row 9 .str]⟩
 exits := [(.exit 0, ⟨[(0, .val .str), (9, .own 0 1), (10, .val (.int .i64))], [.row 9 .str]⟩)]
 step := fun iv x => Qn.s0 iv.1 iv.2.1 iv.2.2 x.1 x.2.1 x.2.2
def Qn.f (a0 : ByteArray) (a1 : ByteArray) (a2 : Int) (a3 : Int) : Option (List ByteArray) :=
 (cb (decide (a3 = (0 : Int))) (some ([] : List ByteArray)) (cb (decide (a1 = bs_)) (ob (Q10.f a0 a3) fun r1 => (some r1)) (cb (decide (a3 < (0 : Int))) (ob (Q2v.f a0 a1) fun r2 => (ck (InR (r2 + (1 : Int))) (let y3 : Int := ((ByteArray.size a0 : Nat) : Int); (ck (InR (y3 + (1 : Int))) (let y4 : Int := (min (r2 + (1 : Int)) (y3 + (1 : Int))); (ck (0 ≤ y4 ∧ y4 * (16 : Int) ≤ 140737488355328) (ck (InR (y4 - (1 : Int))) (ob (Qn.l0 a1 a2 (y4 - (1 : Int)) a0 (0 : Int) (List.replicate (Int.toNat y4) ByteArray.empty)) fun r13 => (ck (0 ≤ r13.2.1 ∧ r13.2.1 < ((List.length r13.2.2 : Nat) : Int)) (ck ((Int.toNat r13.2.1) < List.length r13.2.2) (ck (InR (r13.2.1 + (1 : Int))) (ck (0 ≤ (r13.2.1 + (1 : Int)) ∧ (r13.2.1 + (1 : Int)) ≤ ((List.length (List.set r13.2.2 (Int.toNat r13.2.1) r13.1) : Nat) : Int)) (some (List.take (Int.toNat (r13.2.1 + (1 : Int))) (List.drop 0 (List.set r13.2.2 (Int.toNat r13.2.1) r13.1)))))))))))))))) (let y14 : Int := ((ByteArray.size a0 : Nat) : Int); (ck (InR (y14 + (1 : Int))) (let y15 : Int := (min a3 (y14 + (1 : Int))); (ck (0 ≤ y15 ∧ y15 * (16 : Int) ≤ 140737488355328) (ck (InR (y15 - (1 : Int))) (ob (Qn.l0 a1 a2 (y15 - (1 : Int)) a0 (0 : Int) (List.replicate (Int.toNat y15) ByteArray.empty)) fun r16 => (ck (0 ≤ r16.2.1 ∧ r16.2.1 < ((List.length r16.2.2 : Nat) : Int)) (ck ((Int.toNat r16.2.1) < List.length r16.2.2) (ck (InR (r16.2.1 + (1 : Int))) (ck (0 ≤ (r16.2.1 + (1 : Int)) ∧ (r16.2.1 + (1 : Int)) ≤ ((List.length (List.set r16.2.2 (Int.toNat r16.2.1) r16.1) : Nat) : Int)) (some (List.take (Int.toNat (r16.2.1 + (1 : Int))) (List.drop 0 (List.set r16.2.2 (Int.toNat r16.2.1) r16.1)))))))))))))))))
def Qn.fn : TFn := ⟨[.str, .str, (.int .i64), (.int .i64)], [(.slice .str)], fun x => Qn.f x.1 x.2.1 x.2.2.1 x.2.2.2⟩
def Qn.C : Cx := ⟨T, TYt, lkF [((230, [0, 0]), Q10.fn), ((231, [0, 0]), Q2v.fn), ((232, [0, 0]), Q2c.fn)], lkO [], lkD [], lkP [], [], [], false, [], [], lkS [], 66⟩
theorem Qn.hC : CxOK Tryz.prog Qn.C := ⟨tabOK, FsOK.cons Q10.ok (FsOK.cons Q2v.ok (FsOK.cons Q2c.ok (FsOK.nil))), OsOK.nil, mixed, (fun t h => by cases h), (fun t e h => by cases h), SsOK.nil⟩
def Qn.root : Code := bodyOf Tryz.f199
theorem Qn.h0 : LsOK Tryz.prog Qn.C Qn.root (lkL [([0, 0, 1, 1, 1, 1, 1, 1, 1, 1], Qn.e0)]) :=
 LsOK.cons Qn.hC (LsOK.nil) (by kernel_rfl) (fun iv x => by kernel_rfl)
theorem Qn.ok : FnOK Tryz.prog 199 Qn.fn :=
 FnOK.of (L := lkL [([0, 0, 1, 1, 1, 1, 1, 1, 1, 1], Qn.e0)]) (root := Qn.root) Qn.hC (enters_of (c := Qn.root) Tryz.func199 (by kernel_rfl) (by kernel_rfl)) Tryz.func199 (by kernel_rfl) (rs := [.tmp 8]) (by kernel_rfl) (by kernel_rfl) Qn.h0 (fun x => by kernel_rfl)
def Q1s.f (a0 : ByteArray) (a1 : ByteArray) : Option (List ByteArray) :=
 (ob (Qn.f a0 a1 (0 : Int) (-1 : Int)) fun r1 => (some r1))
def Q1s.fn : TFn := ⟨[.str, .str], [(.slice .str)], fun x => Q1s.f x.1 x.2⟩
def Q1s.C : Cx := ⟨T, TYt, lkF [((199, [0, 0, 0, 0]), Qn.fn)], lkO [], lkD [], lkP [], [], [], false, [], [], lkS [], 8⟩
theorem Q1s.hC : CxOK Tryz.prog Q1s.C := ⟨tabOK, FsOK.cons Qn.ok (FsOK.nil), OsOK.nil, mixed, (fun t h => by cases h), (fun t e h => by cases h), SsOK.nil⟩
def Q1s.root : Code := bodyOf Tryz.f160
theorem Q1s.ok : FnOK Tryz.prog 160 Q1s.fn :=
 FnOK.of (L := lkL []) (root := Q1s.root) Q1s.hC (enters_of (c := Q1s.root) Tryz.func160 (by kernel_rfl) (by kernel_rfl)) Tryz.func160 (by kernel_rfl) (rs := [.tmp 4]) (by kernel_rfl) (by kernel_rfl) LsOK.nil (fun x => by kernel_rfl)
def Qm.f (a0 : ByteArray) (a1 : UInt8) : Option Int :=
 (ob (Q23.f a0 a1) fun r1 => (some r1))
def Qm.fn : TFn := ⟨[.str, .byte], [(.int .i64)], fun x => Qm.f x.1 x.2⟩
def Qm.C : Cx := ⟨T, TYt, lkF [((226, [0, 0]), Q23.fn)], lkO [], lkD [], lkP [], [], [], false, [], [], lkS [], 8⟩
theorem Qm.hC : CxOK Tryz.prog Qm.C := ⟨tabOK, FsOK.cons Q23.ok (FsOK.nil), OsOK.nil, mixed, (fun t h => by cases h), (fun t e h => by cases h), SsOK.nil⟩
def Qm.root : Code := bodyOf Tryz.f256
theorem Qm.ok : FnOK Tryz.prog 256 Qm.fn :=
 FnOK.of (L := lkL []) (root := Qm.root) Qm.hC (enters_of (c := Qm.root) Tryz.func256 (by kernel_rfl) (by kernel_rfl)) Tryz.func256 (by kernel_rfl) (rs := [.tmp 4]) (by kernel_rfl) (by kernel_rfl) LsOK.nil (fun x => by kernel_rfl)
def Q2m.f (a0 : UInt8) : Option Bool :=
 (cb (decide ((97 : Int) ≤ ((UInt8.toNat a0 : Nat) : Int))) (cb (decide (((UInt8.toNat a0 : Nat) : Int) ≤ (122 : Int))) (some true) (cb (decide ((65 : Int) ≤ ((UInt8.toNat a0 : Nat) : Int))) (cb (decide (((UInt8.toNat a0 : Nat) : Int) ≤ (90 : Int))) (some true) (cb (decide ((48 : Int) ≤ ((UInt8.toNat a0 : Nat) : Int))) (cb (decide (((UInt8.toNat a0 : Nat) : Int) ≤ (57 : Int))) (some true) (ob (Qm.f Q20 a0) fun r1 => (some (decide ((0 : Int) ≤ r1))))) (ob (Qm.f Q20 a0) fun r2 => (some (decide ((0 : Int) ≤ r2)))))) (cb (decide ((48 : Int) ≤ ((UInt8.toNat a0 : Nat) : Int))) (cb (decide (((UInt8.toNat a0 : Nat) : Int) ≤ (57 : Int))) (some true) (ob (Qm.f Q20 a0) fun r3 => (some (decide ((0 : Int) ≤ r3))))) (ob (Qm.f Q20 a0) fun r4 => (some (decide ((0 : Int) ≤ r4))))))) (cb (decide ((65 : Int) ≤ ((UInt8.toNat a0 : Nat) : Int))) (cb (decide (((UInt8.toNat a0 : Nat) : Int) ≤ (90 : Int))) (some true) (cb (decide ((48 : Int) ≤ ((UInt8.toNat a0 : Nat) : Int))) (cb (decide (((UInt8.toNat a0 : Nat) : Int) ≤ (57 : Int))) (some true) (ob (Qm.f Q20 a0) fun r5 => (some (decide ((0 : Int) ≤ r5))))) (ob (Qm.f Q20 a0) fun r6 => (some (decide ((0 : Int) ≤ r6)))))) (cb (decide ((48 : Int) ≤ ((UInt8.toNat a0 : Nat) : Int))) (cb (decide (((UInt8.toNat a0 : Nat) : Int) ≤ (57 : Int))) (some true) (ob (Qm.f Q20 a0) fun r7 => (some (decide ((0 : Int) ≤ r7))))) (ob (Qm.f Q20 a0) fun r8 => (some (decide ((0 : Int) ≤ r8)))))))
def Q2m.fn : TFn := ⟨[.byte], [.bool], fun x => Q2m.f x⟩
def Q2m.C : Cx := ⟨T, TYt, lkF [((256, [0, 0]), Qm.fn)], lkO [], lkD [], lkP [], [], [], false, [], [], lkS [], 30⟩
theorem Q2m.hC : CxOK Tryz.prog Q2m.C := ⟨tabOK, FsOK.cons Qm.ok (FsOK.nil), OsOK.nil, mixed, (fun t h => by cases h), (fun t e h => by cases h), SsOK.nil⟩
def Q2m.root : Code := bodyOf Tryz.f242
theorem Q2m.ok : FnOK Tryz.prog 242 Q2m.fn :=
 FnOK.of (L := lkL []) (root := Q2m.root) Q2m.hC (enters_of (c := Q2m.root) Tryz.func242 (by kernel_rfl) (by kernel_rfl)) Tryz.func242 (by kernel_rfl) (rs := [.tmp 2]) (by kernel_rfl) (by kernel_rfl) LsOK.nil (fun x => by kernel_rfl)
def Q1c.s0 (v0_0 : ByteArray) (v0_5 : Int) (x0_6 : Int) : Option (Int ⊕ (Bool ⊕ Unit)) :=
 (cb (decide (x0_6 < v0_5)) (ck (0 ≤ x0_6 ∧ x0_6 < ((ByteArray.size v0_0 : Nat) : Int)) (ob (Q2m.f (bt v0_0 x0_6)) fun r3 => (cb (!r3) (some (.inr (.inl false))) (ck (InR (x0_6 + (1 : Int))) (some (.inl (x0_6 + (1 : Int)))))))) (some (.inr (.inr ()))))
def Q1c.l0 (v0_0 : ByteArray) (v0_5 : Int) (x0_6 : Int) : Option (Bool ⊕ Unit) :=
 loopX (fun (x : Int) => Q1c.s0 v0_0 v0_5 x) x0_6
def Q1c.e0 : Ent where
 pre := []
 inv := [(0, .val .str), (5, .val (.int .i64))]
 car := ⟨[(6, .val (.int .i64))], []⟩
 exits := [(.ret, ⟨[(2, .val .bool)], []⟩), (.exit 0, ⟨[], []⟩)]
 step := fun iv x => Q1c.s0 iv.1 iv.2 x
def Q1c.f (a0 : ByteArray) : Option Bool :=
 (let y1 : Int := ((ByteArray.size a0 : Nat) : Int); (ob (Q1c.l0 a0 y1 (0 : Int)) fun r4 => (caseS r4 (fun a5 => (some a5)) (fun b6 => (cb (!decide (a0 = bs_)) (cb (!decide (a0 = Q33)) (some (!decide (a0 = Q31))) (some false)) (some false))))))
def Q1c.fn : TFn := ⟨[.str], [.bool], fun x => Q1c.f x⟩
def Q1c.C : Cx := ⟨T, TYt, lkF [((242, [0]), Q2m.fn)], lkO [], lkD [], lkP [], [], [], false, [], [], lkS [], 25⟩
theorem Q1c.hC : CxOK Tryz.prog Q1c.C := ⟨tabOK, FsOK.cons Q2m.ok (FsOK.nil), OsOK.nil, mixed, (fun t h => by cases h), (fun t e h => by cases h), SsOK.nil⟩
def Q1c.root : Code := bodyOf Tryz.f210
theorem Q1c.h0 : LsOK Tryz.prog Q1c.C Q1c.root (lkL [([0, 1, 0, 1], Q1c.e0)]) :=
 LsOK.cons Q1c.hC (LsOK.nil) (by kernel_rfl) (fun iv x => by kernel_rfl)
theorem Q1c.ok : FnOK Tryz.prog 210 Q1c.fn :=
 FnOK.of (L := lkL [([0, 1, 0, 1], Q1c.e0)]) (root := Q1c.root) Q1c.hC (enters_of (c := Q1c.root) Tryz.func210 (by kernel_rfl) (by kernel_rfl)) Tryz.func210 (by kernel_rfl) (rs := [.tmp 2]) (by kernel_rfl) (by kernel_rfl) Q1c.h0 (fun x => by kernel_rfl)
def Q13.s0 (v0_14 : (List ByteArray)) (v0_15 : Int) (x0_16 : Int) : Option (Int ⊕ (Bool ⊕ Unit)) :=
 (cb (decide (x0_16 < v0_15)) (ck (0 ≤ x0_16 ∧ x0_16 < ((List.length v0_14 : Nat) : Int)) (let y7 : ByteArray := (rd ByteArray.empty v0_14 x0_16); (ob (Q1c.f y7) fun r8 => (cb (!r8) (some (.inr (.inl false))) (ck (InR (x0_16 + (1 : Int))) (some (.inl (x0_16 + (1 : Int))))))))) (some (.inr (.inr ()))))
def Q13.l0 (v0_14 : (List ByteArray)) (v0_15 : Int) (x0_16 : Int) : Option (Bool ⊕ Unit) :=
 loopX (fun (x : Int) => Q13.s0 v0_14 v0_15 x) x0_16
def Q13.e0 : Ent where
 pre := []
 inv := [(14, .val (.slice .str)), (15, .val (.int .i64))]
 car := ⟨[(16, .val (.int .i64))], []⟩
 exits := [(.ret, ⟨[(2, .val .bool)], []⟩), (.exit 0, ⟨[], []⟩)]
 step := fun iv x => Q13.s0 iv.1 iv.2 x
def Q13.f (a0 : ByteArray) : Option Bool :=
 (let y1 : Int := ((ByteArray.size a0 : Nat) : Int); (cb (decide (y1 < (1 : Int))) (some false) (let y2 : Int := ((ByteArray.size a0 : Nat) : Int); (cb (decide ((200 : Int) < y2)) (some false) (ob (Q1s.f a0 Q2z) fun r3 => (let y4 : Int := ((List.length r3 : Nat) : Int); (ob (Q13.l0 r3 y4 (0 : Int)) fun r9 => (caseS r9 (fun a10 => (some a10)) (fun b11 => (some true))))))))))
def Q13.fn : TFn := ⟨[.str], [.bool], fun x => Q13.f x⟩
def Q13.C : Cx := ⟨T, TYt, lkF [((160, [0, 0]), Q1s.fn), ((210, [0]), Q1c.fn)], lkO [], lkD [], lkP [], [], [], false, [], [], lkS [], 24⟩
theorem Q13.hC : CxOK Tryz.prog Q13.C := ⟨tabOK, FsOK.cons Q1s.ok (FsOK.cons Q1c.ok (FsOK.nil)), OsOK.nil, mixed, (fun t h => by cases h), (fun t e h => by cases h), SsOK.nil⟩
def Q13.root : Code := bodyOf Tryz.f178
theorem Q13.h0 : LsOK Tryz.prog Q13.C Q13.root (lkL [([0, 1, 0, 1, 1], Q13.e0)]) :=
 LsOK.cons Q13.hC (LsOK.nil) (by kernel_rfl) (fun iv x => by kernel_rfl)
theorem Q13.ok : FnOK Tryz.prog 178 Q13.fn :=
 FnOK.of (L := lkL [([0, 1, 0, 1, 1], Q13.e0)]) (root := Q13.root) Q13.hC (enters_of (c := Q13.root) Tryz.func178 (by kernel_rfl) (by kernel_rfl)) Tryz.func178 (by kernel_rfl) (rs := [.tmp 2]) (by kernel_rfl) (by kernel_rfl) Q13.h0 (fun x => by kernel_rfl)
def Ql.f (a0 : ByteArray) (a1 : ByteArray) : Option Bool :=
 (let y1 : Int := ((ByteArray.size a0 : Nat) : Int); (let y2 : Int := ((ByteArray.size a1 : Nat) : Int); (cb (decide (y2 ≤ y1)) (let y3 : Int := ((ByteArray.size a1 : Nat) : Int); (ck (0 ≤ y3 ∧ y3 ≤ ((ByteArray.size a0 : Nat) : Int)) (let y4 : ByteArray := (ByteArray.extract a0 0 (Int.toNat y3)); (some (decide (y4 = a1)))))) (some false))))
def Ql.fn : TFn := ⟨[.str, .str], [.bool], fun x => Ql.f x.1 x.2⟩
def Ql.C : Cx := ⟨T, TYt, lkF [], lkO [], lkD [], lkP [], [], [], false, [], [], lkS [], 18⟩
theorem Ql.hC : CxOK Tryz.prog Ql.C := ⟨tabOK, FsOK.nil, OsOK.nil, mixed, (fun t h => by cases h), (fun t e h => by cases h), SsOK.nil⟩
def Ql.root : Code := bodyOf Tryz.f183
theorem Ql.ok : FnOK Tryz.prog 183 Ql.fn :=
 FnOK.of (L := lkL []) (root := Ql.root) Ql.hC (enters_of (c := Ql.root) Tryz.func183 (by kernel_rfl) (by kernel_rfl)) Tryz.func183 (by kernel_rfl) (rs := [.tmp 4]) (by kernel_rfl) (by kernel_rfl) LsOK.nil (fun x => by kernel_rfl)
def Qy.f (a0 : ByteArray) (a1 : ByteArray) : Option (ByteArray × Bool) :=
 (ob (Ql.f a0 a1) fun r1 => (cb (!r1) (some (a0, false)) (let y2 : Int := ((ByteArray.size a1 : Nat) : Int); (ck (0 ≤ y2 ∧ y2 ≤ ((ByteArray.size a0 : Nat) : Int)) (let y3 : ByteArray := (ByteArray.extract a0 (Int.toNat y2) (ByteArray.size a0)); (some (y3, true)))))))
def Qy.fn : TFn := ⟨[.str, .str], [.str, .bool], fun x => Qy.f x.1 x.2⟩
def Qy.C : Cx := ⟨T, TYt, lkF [((183, [0, 0]), Ql.fn)], lkO [], lkD [], lkP [], [], [], false, [], [], lkS [], 15⟩
theorem Qy.hC : CxOK Tryz.prog Qy.C := ⟨tabOK, FsOK.cons Ql.ok (FsOK.nil), OsOK.nil, mixed, (fun t h => by cases h), (fun t e h => by cases h), SsOK.nil⟩
def Qy.root : Code := bodyOf Tryz.f211
theorem Qy.ok : FnOK Tryz.prog 211 Qy.fn :=
 FnOK.of (L := lkL []) (root := Qy.root) Qy.hC (enters_of (c := Qy.root) Tryz.func211 (by kernel_rfl) (by kernel_rfl)) Tryz.func211 (by kernel_rfl) (rs := [.tmp 4, .tmp 5]) (by kernel_rfl) (by kernel_rfl) LsOK.nil (fun x => by kernel_rfl)
def Q1b.f (a0 : ByteArray) (a1 : ByteArray) : Option (ByteArray × Bool) :=
 (ob (Qy.f a0 a1) fun r1 => (some (r1.1, r1.2)))
def Q1b.fn : TFn := ⟨[.str, .str], [.str, .bool], fun x => Q1b.f x.1 x.2⟩
def Q1b.C : Cx := ⟨T, TYt, lkF [((211, [0, 0]), Qy.fn)], lkO [], lkD [], lkP [], [], [], false, [], [], lkS [], 11⟩
theorem Q1b.hC : CxOK Tryz.prog Q1b.C := ⟨tabOK, FsOK.cons Qy.ok (FsOK.nil), OsOK.nil, mixed, (fun t h => by cases h), (fun t e h => by cases h), SsOK.nil⟩
def Q1b.root : Code := bodyOf Tryz.f179
theorem Q1b.ok : FnOK Tryz.prog 179 Q1b.fn :=
 FnOK.of (L := lkL []) (root := Q1b.root) Q1b.hC (enters_of (c := Q1b.root) Tryz.func179 (by kernel_rfl) (by kernel_rfl)) Tryz.func179 (by kernel_rfl) (rs := [.tmp 4, .tmp 5]) (by kernel_rfl) (by kernel_rfl) LsOK.nil (fun x => by kernel_rfl)
def Q1f.f (a0 : ByteArray) (a1 : ByteArray) : Option (ByteArray × (ByteArray × Bool)) :=
 (ob (Q1r.f a0 a1) fun r1 => (cb (decide ((0 : Int) ≤ r1)) (ck (0 ≤ r1 ∧ r1 ≤ ((ByteArray.size a0 : Nat) : Int)) (let y2 : ByteArray := (ByteArray.extract a0 0 (Int.toNat r1)); (let y3 : Int := ((ByteArray.size a1 : Nat) : Int); (ck (InR (r1 + y3)) (ck (0 ≤ (r1 + y3) ∧ (r1 + y3) ≤ ((ByteArray.size a0 : Nat) : Int)) (let y4 : ByteArray := (ByteArray.extract a0 (Int.toNat (r1 + y3)) (ByteArray.size a0)); (some (y2, y4, true)))))))) (some (a0, bs_, false))))
def Q1f.fn : TFn := ⟨[.str, .str], [.str, .str, .bool], fun x => Q1f.f x.1 x.2⟩
def Q1f.C : Cx := ⟨T, TYt, lkF [((198, [0, 0]), Q1r.fn)], lkO [], lkD [(3, 10, [(0, true), (1, true), (2, true), (3, true), (4, true), (5, true), (6, true), (7, true), (8, true), (9, true)], none)], lkP [], [], [], false, [], [], lkS [], 23⟩
theorem Q1f.hC : CxOK Tryz.prog Q1f.C := ⟨tabOK, FsOK.cons Q1r.ok (FsOK.nil), OsOK.nil, mixed, (fun t h => by cases h), (fun t e h => by cases h), SsOK.nil⟩
def Q1f.root : Code := bodyOf Tryz.f159
theorem Q1f.ok : FnOK Tryz.prog 159 Q1f.fn :=
 FnOK.of (L := lkL []) (root := Q1f.root) Q1f.hC (enters_of (c := Q1f.root) Tryz.func159 (by kernel_rfl) (by kernel_rfl)) Tryz.func159 (by kernel_rfl) (rs := [.tmp 4, .tmp 5, .tmp 6]) (by kernel_rfl) (by kernel_rfl) LsOK.nil (fun x => by kernel_rfl)
def Q26.f (a0 : ByteArray) (a1 : ByteArray) : Option (ByteArray × (ByteArray × Bool)) :=
 (ob (Q1f.f a0 a1) fun r1 => (some (r1.1, r1.2.1, r1.2.2)))
def Q26.fn : TFn := ⟨[.str, .str], [.str, .str, .bool], fun x => Q26.f x.1 x.2⟩
def Q26.C : Cx := ⟨T, TYt, lkF [((159, [0, 0]), Q1f.fn)], lkO [], lkD [], lkP [], [], [], false, [], [], lkS [], 13⟩
theorem Q26.hC : CxOK Tryz.prog Q26.C := ⟨tabOK, FsOK.cons Q1f.ok (FsOK.nil), OsOK.nil, mixed, (fun t h => by cases h), (fun t e h => by cases h), SsOK.nil⟩
def Q26.root : Code := bodyOf Tryz.f104
theorem Q26.ok : FnOK Tryz.prog 104 Q26.fn :=
 FnOK.of (L := lkL []) (root := Q26.root) Q26.hC (enters_of (c := Q26.root) Tryz.func104 (by kernel_rfl) (by kernel_rfl)) Tryz.func104 (by kernel_rfl) (rs := [.tmp 4, .tmp 5, .tmp 6]) (by kernel_rfl) (by kernel_rfl) LsOK.nil (fun x => by kernel_rfl)
def Q2.s0 (v0_0 : ByteArray) (v0_1 : UInt8) (x0_5 : Int) : Option (Int ⊕ (Int ⊕ Unit)) :=
 (cb (decide ((0 : Int) ≤ x0_5)) (ck (0 ≤ x0_5 ∧ x0_5 < ((ByteArray.size v0_0 : Nat) : Int)) (cb (decide (((UInt8.toNat (bt v0_0 x0_5) : Nat) : Int) = ((UInt8.toNat v0_1 : Nat) : Int))) (some (.inr (.inl x0_5))) (ck (InR (x0_5 - (1 : Int))) (some (.inl (x0_5 - (1 : Int))))))) (some (.inr (.inr ()))))
def Q2.l0 (v0_0 : ByteArray) (v0_1 : UInt8) (x0_5 : Int) : Option (Int ⊕ Unit) :=
 loopX (fun (x : Int) => Q2.s0 v0_0 v0_1 x) x0_5
def Q2.e0 : Ent where
 pre := []
 inv := [(0, .val .str), (1, .val .byte)]
 car := ⟨[(5, .val (.int .i64))], []⟩
 exits := [(.ret, ⟨[(4, .val (.int .i64))], []⟩), (.exit 0, ⟨[], []⟩)]
 step := fun iv x => Q2.s0 iv.1 iv.2 x
def Q2.f (a0 : ByteArray) (a1 : UInt8) : Option Int :=
 (let y1 : Int := ((ByteArray.size a0 : Nat) : Int); (ck (InR (y1 - (1 : Int))) (ob (Q2.l0 a0 a1 (y1 - (1 : Int))) fun r2 => (caseS r2 (fun a3 => (some a3)) (fun b4 => (some (-1 : Int)))))))
def Q2.fn : TFn := ⟨[.str, .byte], [(.int .i64)], fun x => Q2.f x.1 x.2⟩
def Q2.C : Cx := ⟨T, TYt, lkF [], lkO [], lkD [], lkP [], [], [], false, [], [], lkS [], 19⟩
theorem Q2.hC : CxOK Tryz.prog Q2.C := ⟨tabOK, FsOK.nil, OsOK.nil, mixed, (fun t h => by cases h), (fun t e h => by cases h), SsOK.nil⟩
def Q2.root : Code := bodyOf Tryz.f243
theorem Q2.h0 : LsOK Tryz.prog Q2.C Q2.root (lkL [([0, 1, 0, 1], Q2.e0)]) :=
 LsOK.cons Q2.hC (LsOK.nil) (by kernel_rfl) (fun iv x => by kernel_rfl)
theorem Q2.ok : FnOK Tryz.prog 243 Q2.fn :=
 FnOK.of (L := lkL [([0, 1, 0, 1], Q2.e0)]) (root := Q2.root) Q2.hC (enters_of (c := Q2.root) Tryz.func243 (by kernel_rfl) (by kernel_rfl)) Tryz.func243 (by kernel_rfl) (rs := [.tmp 4]) (by kernel_rfl) (by kernel_rfl) Q2.h0 (fun x => by kernel_rfl)
def Q1a.f (a0 : ByteArray) (a1 : UInt8) : Option Int :=
 (ob (Q2.f a0 a1) fun r1 => (some r1))
def Q1a.fn : TFn := ⟨[.str, .byte], [(.int .i64)], fun x => Q1a.f x.1 x.2⟩
def Q1a.C : Cx := ⟨T, TYt, lkF [((243, [0, 0]), Q2.fn)], lkO [], lkD [], lkP [], [], [], false, [], [], lkS [], 8⟩
theorem Q1a.hC : CxOK Tryz.prog Q1a.C := ⟨tabOK, FsOK.cons Q2.ok (FsOK.nil), OsOK.nil, mixed, (fun t h => by cases h), (fun t e h => by cases h), SsOK.nil⟩
def Q1a.root : Code := bodyOf Tryz.f212
theorem Q1a.ok : FnOK Tryz.prog 212 Q1a.fn :=
 FnOK.of (L := lkL []) (root := Q1a.root) Q1a.hC (enters_of (c := Q1a.root) Tryz.func212 (by kernel_rfl) (by kernel_rfl)) Tryz.func212 (by kernel_rfl) (rs := [.tmp 4]) (by kernel_rfl) (by kernel_rfl) LsOK.nil (fun x => by kernel_rfl)
def Q2b.f (a0 : ByteArray) : Option ByteArray :=
 (ob (Q1a.f a0 (UInt8.ofInt (47 : Int))) fun r1 => (ck (InR (r1 + (1 : Int))) (ck (0 ≤ (r1 + (1 : Int)) ∧ (r1 + (1 : Int)) ≤ ((ByteArray.size a0 : Nat) : Int)) (let y2 : ByteArray := (ByteArray.extract a0 (Int.toNat (r1 + (1 : Int))) (ByteArray.size a0)); (some y2)))))
def Q2b.fn : TFn := ⟨[.str], [.str], fun x => Q2b.f x⟩
def Q2b.C : Cx := ⟨T, TYt, lkF [((212, [0, 0]), Q1a.fn)], lkO [], lkD [], lkP [], [], [], false, [], [], lkS [], 8⟩
theorem Q2b.hC : CxOK Tryz.prog Q2b.C := ⟨tabOK, FsOK.cons Q1a.ok (FsOK.nil), OsOK.nil, mixed, (fun t h => by cases h), (fun t e h => by cases h), SsOK.nil⟩
def Q2b.root : Code := bodyOf Tryz.f180
theorem Q2b.ok : FnOK Tryz.prog 180 Q2b.fn :=
 FnOK.of (L := lkL []) (root := Q2b.root) Q2b.hC (enters_of (c := Q2b.root) Tryz.func180 (by kernel_rfl) (by kernel_rfl)) Tryz.func180 (by kernel_rfl) (rs := [.tmp 2]) (by kernel_rfl) (by kernel_rfl) LsOK.nil (fun x => by kernel_rfl)
def Q14.f (a0 : (ByteArray × ByteArray)) : Option Int :=
 (cb (!decide (a0.1 = bs_)) (ob (Q13.f a0.1) fun r1 => (cb (!r1) (some (3 : Int)) (ob (Q13.f a0.2) fun r2 => (cb (!r2) (some (3 : Int)) (some (0 : Int)))))) (ob (Q13.f a0.2) fun r3 => (cb (!r3) (some (3 : Int)) (some (0 : Int)))))
def Q14.fn : TFn := ⟨[(.pair .str .str)], [(.int .i64)], fun x => Q14.f x⟩
def Q14.C : Cx := ⟨T, TYt, lkF [((178, [0]), Q13.fn)], lkO [], lkD [], lkP [], [1], [], false, [], [], lkS [], 18⟩
theorem Q14.hC : CxOK Tryz.prog Q14.C := ⟨tabOK, FsOK.cons Q13.ok (FsOK.nil), OsOK.nil, mixed, (fun t h => by cases h), (fun t e h => by cases h), SsOK.nil⟩
def Q14.root : Code := bodyOf Tryz.f181
theorem Q14.ok : FnOK Tryz.prog 181 Q14.fn :=
 FnOK.of (L := lkL []) (root := Q14.root) Q14.hC (enters_of (c := Q14.root) Tryz.func181 (by kernel_rfl) (by kernel_rfl)) Tryz.func181 (by kernel_rfl) (rs := [.tmp 2]) (by kernel_rfl) (by kernel_rfl) LsOK.nil (fun x => by kernel_rfl)
def Q22.f (a0 : ByteArray) (a1 : ByteArray) : Option ((ByteArray × ByteArray) × Int) :=
 (cb (!decide (a1 = bs_)) (ob (Q13.f a1) fun r1 => (cb (!r1) (some ((bs_, bs_), (3 : Int))) (ob (Q1b.f a0 Q1i) fun r2 => (ob (Q1b.f a0 Q2x) fun r3 => (cb r2.2 (ob (Q26.f r2.1 Q2x) fun r4 => (cb (!r4.2.2) (ob (Q2b.f r4.1) fun r5 => (ob (Q14.f (r4.1, r5)) fun r6 => (cb (!decide (r6 = (0 : Int))) (some ((bs_, bs_), (10 : Int))) (some ((r4.1, r5), (0 : Int)))))) (ob (Q14.f (r4.1, r4.2.1)) fun r7 => (cb (!decide (r7 = (0 : Int))) (some ((bs_, bs_), (10 : Int))) (some ((r4.1, r4.2.1), (0 : Int))))))) (cb r3.2 (ob (Q14.f (a1, r3.1)) fun r8 => (cb (!decide (r8 = (0 : Int))) (some ((bs_, bs_), (10 : Int))) (some ((a1, r3.1), (0 : Int))))) (ob (Q14.f (bs_, bs_)) fun r9 => (cb (!decide (r9 = (0 : Int))) (some ((bs_, bs_), (10 : Int))) (some ((bs_, bs_), (0 : Int))))))))))) (ob (Q1b.f a0 Q1i) fun r10 => (ob (Q1b.f a0 Q2x) fun r11 => (cb r10.2 (ob (Q26.f r10.1 Q2x) fun r12 => (cb (!r12.2.2) (ob (Q2b.f r12.1) fun r13 => (ob (Q14.f (r12.1, r13)) fun r14 => (cb (!decide (r14 = (0 : Int))) (some ((bs_, bs_), (10 : Int))) (some ((r12.1, r13), (0 : Int)))))) (ob (Q14.f (r12.1, r12.2.1)) fun r15 => (cb (!decide (r15 = (0 : Int))) (some ((bs_, bs_), (10 : Int))) (some ((r12.1, r12.2.1), (0 : Int))))))) (cb r11.2 (ob (Q14.f (a1, r11.1)) fun r16 => (cb (!decide (r16 = (0 : Int))) (some ((bs_, bs_), (10 : Int))) (some ((a1, r11.1), (0 : Int))))) (ob (Q14.f (bs_, bs_)) fun r17 => (cb (!decide (r17 = (0 : Int))) (some ((bs_, bs_), (10 : Int))) (some ((bs_, bs_), (0 : Int))))))))))
def Q22.fn : TFn := ⟨[.str, .str], [(.pair .str .str), (.int .i64)], fun x => Q22.f x.1 x.2⟩
def Q22.C : Cx := ⟨T, TYt, lkF [((104, [0, 0]), Q26.fn), ((178, [0]), Q13.fn), ((179, [0, 0]), Q1b.fn), ((180, [0]), Q2b.fn), ((181, [0]), Q14.fn)], lkO [], lkD [], lkP [], [], [], false, [], [], lkS [], 56⟩
theorem Q22.hC : CxOK Tryz.prog Q22.C := ⟨tabOK, FsOK.cons Q26.ok (FsOK.cons Q13.ok (FsOK.cons Q1b.ok (FsOK.cons Q2b.ok (FsOK.cons Q14.ok (FsOK.nil))))), OsOK.nil, mixed, (fun t h => by cases h), (fun t e h => by cases h), SsOK.nil⟩
def Q22.root : Code := bodyOf Tryz.f126
theorem Q22.ok : FnOK Tryz.prog 126 Q22.fn :=
 FnOK.of (L := lkL []) (root := Q22.root) Q22.hC (enters_of (c := Q22.root) Tryz.func126 (by kernel_rfl) (by kernel_rfl)) Tryz.func126 (by kernel_rfl) (rs := [.cell 4 154, .tmp 5]) (by kernel_rfl) (by kernel_rfl) LsOK.nil (fun x => by kernel_rfl)
def Q2a.f (a0 : (ByteArray × ByteArray)) : Option ByteArray :=
 (ck (((ByteArray.size Q1i + ByteArray.size a0.1 : Nat) : Int) ≤ 9223372036854775807) (ck (((ByteArray.size (Q1i ++ a0.1) + ByteArray.size Q2x : Nat) : Int) ≤ 9223372036854775807) (let y1 : ByteArray := ((Q1i ++ a0.1) ++ Q2x); (ck (((ByteArray.size y1 + ByteArray.size a0.2 : Nat) : Int) ≤ 9223372036854775807) (some (y1 ++ a0.2))))))
def Q2a.fn : TFn := ⟨[(.pair .str .str)], [.str], fun x => Q2a.f x⟩
def Q2a.C : Cx := ⟨T, TYt, lkF [], lkO [], lkD [], lkP [], [1], [], false, [], [], lkS [], 10⟩
theorem Q2a.hC : CxOK Tryz.prog Q2a.C := ⟨tabOK, FsOK.nil, OsOK.nil, mixed, (fun t h => by cases h), (fun t e h => by cases h), SsOK.nil⟩
def Q2a.root : Code := bodyOf Tryz.f127
theorem Q2a.ok : FnOK Tryz.prog 127 Q2a.fn :=
 FnOK.of (L := lkL []) (root := Q2a.root) Q2a.hC (enters_of (c := Q2a.root) Tryz.func127 (by kernel_rfl) (by kernel_rfl)) Tryz.func127 (by kernel_rfl) (rs := [.tmp 2]) (by kernel_rfl) (by kernel_rfl) LsOK.nil (fun x => by kernel_rfl)
def Q1n.f (a0 : ByteArray) : Option Bool :=
 (ob (Q22.f a0 bs_) fun r1 => (cb (decide (r1.2 = (0 : Int))) (ob (Q2a.f r1.1) fun r2 => (some (decide (r2 = a0)))) (some false)))
def Q1n.fn : TFn := ⟨[.str], [.bool], fun x => Q1n.f x⟩
def Q1n.C : Cx := ⟨T, TYt, lkF [((126, [0, 0]), Q22.fn), ((127, [0]), Q2a.fn)], lkO [], lkD [], lkP [], [3], [], false, [], [], lkS [], 18⟩
theorem Q1n.hC : CxOK Tryz.prog Q1n.C := ⟨tabOK, FsOK.cons Q22.ok (FsOK.cons Q2a.ok (FsOK.nil)), OsOK.nil, mixed, (fun t h => by cases h), (fun t e h => by cases h), SsOK.nil⟩
def Q1n.root : Code := bodyOf Tryz.f77
theorem Q1n.ok : FnOK Tryz.prog 77 Q1n.fn :=
 FnOK.of (L := lkL []) (root := Q1n.root) Q1n.hC (enters_of (c := Q1n.root) Tryz.func77 (by kernel_rfl) (by kernel_rfl)) Tryz.func77 (by kernel_rfl) (rs := [.tmp 2]) (by kernel_rfl) (by kernel_rfl) LsOK.nil (fun x => by kernel_rfl)
def Q1u.f (a0 : ByteArray) : Option Bool :=
 (let y1 : Int := ((ByteArray.size a0 : Nat) : Int); (cb (decide (y1 < (1 : Int))) (some false) (let y2 : Int := ((ByteArray.size a0 : Nat) : Int); (cb (decide ((40 : Int) < y2)) (some false) (ck (0 ≤ (0 : Int) ∧ (0 : Int) < ((ByteArray.size a0 : Nat) : Int)) (cb (decide (((UInt8.toNat (bt a0 (0 : Int)) : Nat) : Int) < (97 : Int))) (some false) (ck (0 ≤ (0 : Int) ∧ (0 : Int) < ((ByteArray.size a0 : Nat) : Int)) (cb (decide ((122 : Int) < ((UInt8.toNat (bt a0 (0 : Int)) : Nat) : Int))) (some false) (ob (Q2g.f a0 Q17) fun r3 => (some (decide (r3 = bs_))))))))))))
def Q1u.fn : TFn := ⟨[.str], [.bool], fun x => Q1u.f x⟩
def Q1u.C : Cx := ⟨T, TYt, lkF [((121, [0, 0]), Q2g.fn)], lkO [], lkD [], lkP [], [], [], false, [], [], lkS [], 24⟩
theorem Q1u.hC : CxOK Tryz.prog Q1u.C := ⟨tabOK, FsOK.cons Q2g.ok (FsOK.nil), OsOK.nil, mixed, (fun t h => by cases h), (fun t e h => by cases h), SsOK.nil⟩
def Q1u.root : Code := bodyOf Tryz.f76
theorem Q1u.ok : FnOK Tryz.prog 76 Q1u.fn :=
 FnOK.of (L := lkL []) (root := Q1u.root) Q1u.hC (enters_of (c := Q1u.root) Tryz.func76 (by kernel_rfl) (by kernel_rfl)) Tryz.func76 (by kernel_rfl) (rs := [.tmp 2]) (by kernel_rfl) (by kernel_rfl) LsOK.nil (fun x => by kernel_rfl)
def Q1e.f (a0 : Int) (a1 : Int) (a2 : Int) : Option Bool :=
 (cb (decide (a1 ≤ a0)) (some (decide (a0 ≤ a2))) (some false))
def Q1e.fn : TFn := ⟨[(.int .i64), (.int .i64), (.int .i64)], [.bool], fun x => Q1e.f x.1 x.2.1 x.2.2⟩
def Q1e.C : Cx := ⟨T, TYt, lkF [], lkO [], lkD [], lkP [], [], [], false, [], [], lkS [], 15⟩
theorem Q1e.hC : CxOK Tryz.prog Q1e.C := ⟨tabOK, FsOK.nil, OsOK.nil, mixed, (fun t h => by cases h), (fun t e h => by cases h), SsOK.nil⟩
def Q1e.root : Code := bodyOf Tryz.f70
theorem Q1e.ok : FnOK Tryz.prog 70 Q1e.fn :=
 FnOK.of (L := lkL []) (root := Q1e.root) Q1e.hC (enters_of (c := Q1e.root) Tryz.func70 (by kernel_rfl) (by kernel_rfl)) Tryz.func70 (by kernel_rfl) (rs := [.tmp 6]) (by kernel_rfl) (by kernel_rfl) LsOK.nil (fun x => by kernel_rfl)
def Qb.s0 (v0_1 : (ByteArray × (ByteArray × (ByteArray × (ByteArray × (Int × ((List ByteArray) × ByteArray))))))) (v0_36 : (List ByteArray)) (v0_37 : Int) (x0_38 : Int) : Option (Int ⊕ (Int ⊕ Unit)) :=
 (cb (decide (x0_38 < v0_37)) (ck (0 ≤ x0_38 ∧ x0_38 < ((List.length v0_36 : Nat) : Int)) (let y11 : ByteArray := (rd ByteArray.empty v0_36 x0_38); (ob (Q1t.f y11) fun r12 => (cb (!r12) (some (.inr (.inl (3 : Int)))) (cb (decide ((0 : Int) < x0_38)) (ck (InR (x0_38 - (1 : Int))) (ck (0 ≤ (x0_38 - (1 : Int)) ∧ (x0_38 - (1 : Int)) < ((List.length v0_1.2.2.2.2.2.1 : Nat) : Int)) (let y13 : ByteArray := (rd ByteArray.empty v0_1.2.2.2.2.2.1 (x0_38 - (1 : Int))); (cb (bless y11 y13 || decide (y11 = y13)) (some (.inr (.inl (8 : Int)))) (ck (InR (x0_38 + (1 : Int))) (some (.inl (x0_38 + (1 : Int))))))))) (ck (InR (x0_38 + (1 : Int))) (some (.inl (x0_38 + (1 : Int)))))))))) (some (.inr (.inr ()))))
def Qb.l0 (v0_1 : (ByteArray × (ByteArray × (ByteArray × (ByteArray × (Int × ((List ByteArray) × ByteArray))))))) (v0_36 : (List ByteArray)) (v0_37 : Int) (x0_38 : Int) : Option (Int ⊕ Unit) :=
 loopX (fun (x : Int) => Qb.s0 v0_1 v0_36 v0_37 x) x0_38
def Qb.e0 : Ent where
 pre := []
 inv := [(1, .rp (.pair .str (.pair .str (.pair .str (.pair .str (.pair (.int .i64) (.pair (.slice .str) .str))))))), (36, .val (.slice .str)), (37, .val (.int .i64))]
 car := ⟨[(38, .val (.int .i64))], []⟩
 exits := [(.ret, ⟨[(2, .val (.int .i64))], []⟩), (.exit 1, ⟨[], []⟩)]
 step := fun iv x => Qb.s0 iv.1 iv.2.1 iv.2.2 x
def Qb.f (a0 : (ByteArray × (ByteArray × (ByteArray × (ByteArray × (Int × ((List ByteArray) × ByteArray))))))) : Option Int :=
 (ob (Q1t.f a0.1) fun r1 => (cb (!r1) (some (3 : Int)) (ob (Q1n.f a0.2.1) fun r2 => (cb (!r2) (some (10 : Int)) (ob (Q1t.f a0.2.2.1) fun r3 => (cb (!r3) (some (3 : Int)) (ob (Q1u.f a0.2.2.2.1) fun r4 => (cb (!r4) (some (5 : Int)) (ob (Q1e.f a0.2.2.2.2.1 (0 : Int) (1000000000 : Int)) fun r5 => (cb (!r5) (some (1 : Int)) (let y6 : Int := ((List.length a0.2.2.2.2.2.1 : Nat) : Int); (cb (decide ((50 : Int) < y6)) (some (2 : Int)) (let y7 : Int := ((List.length a0.2.2.2.2.2.1 : Nat) : Int); (ob (Qb.l0 a0 a0.2.2.2.2.2.1 y7 (0 : Int)) fun r14 => (caseS r14 (fun a15 => (some a15)) (fun b16 => (cb (!decide (a0.2.2.2.2.2.2 = bs_)) (ob (Q1t.f a0.2.2.2.2.2.2) fun r17 => (cb (!r17) (some (3 : Int)) (some (0 : Int)))) (some (0 : Int)))))))))))))))))))
def Qb.fn : TFn := ⟨[(.pair .str (.pair .str (.pair .str (.pair .str (.pair (.int .i64) (.pair (.slice .str) .str))))))], [(.int .i64)], fun x => Qb.f x⟩
def Qb.C : Cx := ⟨T, TYt, lkF [((69, [0]), Q1t.fn), ((70, [0, 0, 0]), Q1e.fn), ((76, [0]), Q1u.fn), ((77, [0]), Q1n.fn)], lkO [], lkD [], lkP [], [1], [], false, [], [], lkS [], 68⟩
theorem Qb.hC : CxOK Tryz.prog Qb.C := ⟨tabOK, FsOK.cons Q1t.ok (FsOK.cons Q1e.ok (FsOK.cons Q1u.ok (FsOK.cons Q1n.ok (FsOK.nil)))), OsOK.nil, mixed, (fun t h => by cases h), (fun t e h => by cases h), SsOK.nil⟩
def Qb.root : Code := bodyOf Tryz.f84
theorem Qb.h0 : LsOK Tryz.prog Qb.C Qb.root (lkL [([0, 1, 0, 1, 1], Qb.e0)]) :=
 LsOK.cons Qb.hC (LsOK.nil) (by kernel_rfl) (fun iv x => by kernel_rfl)
theorem Qb.ok : FnOK Tryz.prog 84 Qb.fn :=
 FnOK.of (L := lkL [([0, 1, 0, 1, 1], Qb.e0)]) (root := Qb.root) Qb.hC (enters_of (c := Qb.root) Tryz.func84 (by kernel_rfl) (by kernel_rfl)) Tryz.func84 (by kernel_rfl) (rs := [.tmp 2]) (by kernel_rfl) (by kernel_rfl) Qb.h0 (fun x => by kernel_rfl)
def Qk.s0 (v0_0 : (List (ByteArray × (ByteArray × (ByteArray × (ByteArray × (Int × ((List ByteArray) × ByteArray)))))))) (v0_9 : (List (ByteArray × (ByteArray × (ByteArray × (ByteArray × (Int × ((List ByteArray) × ByteArray)))))))) (v0_10 : Int) (x0_11 : Int) : Option (Int ⊕ (Int ⊕ Unit)) :=
 (cb (decide (x0_11 < v0_10)) (ck (0 ≤ x0_11 ∧ x0_11 < ((List.length v0_9 : Nat) : Int)) (let y6 : (ByteArray × (ByteArray × (ByteArray × (ByteArray × (Int × ((List ByteArray) × ByteArray)))))) := (rd (ByteArray.empty, (ByteArray.empty, (ByteArray.empty, (ByteArray.empty, ((0 : Int), (([] : (List ByteArray)), ByteArray.empty)))))) v0_9 x0_11); (ob (Qb.f y6) fun r7 => (cb (!decide (r7 = (0 : Int))) (some (.inr (.inl r7))) (cb (decide (y6.2.2.2.2.2.2 = bs_)) (some (.inr (.inl (3 : Int)))) (cb (decide ((0 : Int) < x0_11)) (ck (InR (x0_11 - (1 : Int))) (ck (0 ≤ (x0_11 - (1 : Int)) ∧ (x0_11 - (1 : Int)) < ((List.length v0_0 : Nat) : Int)) (let y8 : Int := (rd (ByteArray.empty, (ByteArray.empty, (ByteArray.empty, (ByteArray.empty, ((0 : Int), (([] : (List ByteArray)), ByteArray.empty)))))) v0_0 (x0_11 - (1 : Int))).2.2.2.2.1; (cb (decide (y6.2.2.2.2.1 < y8)) (some (.inr (.inl (8 : Int)))) (ck (InR (x0_11 + (1 : Int))) (some (.inl (x0_11 + (1 : Int))))))))) (ck (InR (x0_11 + (1 : Int))) (some (.inl (x0_11 + (1 : Int))))))))))) (some (.inr (.inr ()))))
def Qk.l0 (v0_0 : (List (ByteArray × (ByteArray × (ByteArray × (ByteArray × (Int × ((List ByteArray) × ByteArray)))))))) (v0_9 : (List (ByteArray × (ByteArray × (ByteArray × (ByteArray × (Int × ((List ByteArray) × ByteArray)))))))) (v0_10 : Int) (x0_11 : Int) : Option (Int ⊕ Unit) :=
 loopX (fun (x : Int) => Qk.s0 v0_0 v0_9 v0_10 x) x0_11
def Qk.e0 : Ent where
 pre := []
 inv := [(0, .val (.slice (.pair .str (.pair .str (.pair .str (.pair .str (.pair (.int .i64) (.pair (.slice .str) .str)))))))), (9, .val (.slice (.pair .str (.pair .str (.pair .str (.pair .str (.pair (.int .i64) (.pair (.slice .str) .str)))))))), (10, .val (.int .i64))]
 car := ⟨[(11, .val (.int .i64))], []⟩
 exits := [(.ret, ⟨[(2, .val (.int .i64))], []⟩), (.exit 0, ⟨[], []⟩)]
 step := fun iv x => Qk.s0 iv.1 iv.2.1 iv.2.2 x
def Qk.f (a0 : (List (ByteArray × (ByteArray × (ByteArray × (ByteArray × (Int × ((List ByteArray) × ByteArray)))))))) : Option Int :=
 (let y1 : Int := ((List.length a0 : Nat) : Int); (cb (decide ((1000 : Int) < y1)) (some (2 : Int)) (let y2 : Int := ((List.length a0 : Nat) : Int); (ob (Qk.l0 a0 a0 y2 (0 : Int)) fun r9 => (caseS r9 (fun a10 => (some a10)) (fun b11 => (some (0 : Int))))))))
def Qk.fn : TFn := ⟨[(.slice (.pair .str (.pair .str (.pair .str (.pair .str (.pair (.int .i64) (.pair (.slice .str) .str)))))))], [(.int .i64)], fun x => Qk.f x⟩
def Qk.C : Cx := ⟨T, TYt, lkF [((84, [0]), Qb.fn)], lkO [], lkD [(11, 11, [(0, true), (1, true), (2, true), (3, true), (4, true), (5, true), (6, true), (7, true), (8, true), (9, true), (10, true)], none)], lkP [], [4], [], false, [], [], lkS [], 38⟩
theorem Qk.hC : CxOK Tryz.prog Qk.C := ⟨tabOK, FsOK.cons Qb.ok (FsOK.nil), OsOK.nil, mixed, (fun t h => by cases h), (fun t e h => by cases h), SsOK.nil⟩
def Qk.root : Code := bodyOf Tryz.f36
theorem Qk.h0 : LsOK Tryz.prog Qk.C Qk.root (lkL [([0, 1, 0, 1, 1], Qk.e0)]) :=
 LsOK.cons Qk.hC (LsOK.nil) (by kernel_rfl) (fun iv x => by kernel_rfl)
theorem Qk.ok : FnOK Tryz.prog 36 Qk.fn :=
 FnOK.of (L := lkL [([0, 1, 0, 1, 1], Qk.e0)]) (root := Qk.root) Qk.hC (enters_of (c := Qk.root) Tryz.func36 (by kernel_rfl) (by kernel_rfl)) Tryz.func36 (by kernel_rfl) (rs := [.tmp 2]) (by kernel_rfl) (by kernel_rfl) Qk.h0 (fun x => by kernel_rfl)
def Qd.s0 (v0_0 : (List (ByteArray × (ByteArray × (ByteArray × (ByteArray × (Int × ((List ByteArray) × ByteArray)))))))) (v0_1 : (List (Int × (ByteArray × Int)))) (v0_16 : (List (Int × (ByteArray × Int)))) (v0_17 : Int) (x0_18 : Int) : Option (Int ⊕ (Int ⊕ Unit)) :=
 (cb (decide (x0_18 < v0_17)) (ck (0 ≤ x0_18 ∧ x0_18 < ((List.length v0_16 : Nat) : Int)) (let y11 : (Int × (ByteArray × Int)) := (rd ((0 : Int), (ByteArray.empty, (0 : Int))) v0_16 x0_18); (let y12 : Int := ((List.length v0_0 : Nat) : Int); (ck (InR (y12 - (1 : Int))) (ob (Q1e.f y11.1 (0 : Int) (y12 - (1 : Int))) fun r13 => (cb (!r13) (some (.inr (.inl (9 : Int)))) (ob (Q1t.f y11.2.1) fun r14 => (cb (!r14) (some (.inr (.inl (3 : Int)))) (ck (0 ≤ y11.1 ∧ y11.1 < ((List.length v0_0 : Nat) : Int)) (let y15 : Int := (rd (ByteArray.empty, (ByteArray.empty, (ByteArray.empty, (ByteArray.empty, ((0 : Int), (([] : (List ByteArray)), ByteArray.empty)))))) v0_0 y11.1).2.2.2.2.1; (ob (Q1e.f y11.2.2 y15 (1000000000 : Int)) fun r16 => (cb (!r16) (some (.inr (.inl (1 : Int)))) (cb (decide ((0 : Int) < x0_18)) (ck (InR (x0_18 - (1 : Int))) (ck (0 ≤ (x0_18 - (1 : Int)) ∧ (x0_18 - (1 : Int)) < ((List.length v0_1 : Nat) : Int)) (let y17 : Int := (rd ((0 : Int), (ByteArray.empty, (0 : Int))) v0_1 (x0_18 - (1 : Int))).2.2; (cb (decide (y11.2.2 < y17)) (some (.inr (.inl (8 : Int)))) (ck (InR (x0_18 + (1 : Int))) (some (.inl (x0_18 + (1 : Int))))))))) (ck (InR (x0_18 + (1 : Int))) (some (.inl (x0_18 + (1 : Int)))))))))))))))))) (some (.inr (.inr ()))))
def Qd.l0 (v0_0 : (List (ByteArray × (ByteArray × (ByteArray × (ByteArray × (Int × ((List ByteArray) × ByteArray)))))))) (v0_1 : (List (Int × (ByteArray × Int)))) (v0_16 : (List (Int × (ByteArray × Int)))) (v0_17 : Int) (x0_18 : Int) : Option (Int ⊕ Unit) :=
 loopX (fun (x : Int) => Qd.s0 v0_0 v0_1 v0_16 v0_17 x) x0_18
def Qd.e0 : Ent where
 pre := []
 inv := [(0, .val (.slice (.pair .str (.pair .str (.pair .str (.pair .str (.pair (.int .i64) (.pair (.slice .str) .str)))))))), (1, .val (.slice (.pair (.int .i64) (.pair .str (.int .i64))))), (16, .val (.slice (.pair (.int .i64) (.pair .str (.int .i64))))), (17, .val (.int .i64))]
 car := ⟨[(18, .val (.int .i64))], []⟩
 exits := [(.ret, ⟨[(4, .val (.int .i64))], []⟩), (.exit 0, ⟨[], []⟩)]
 step := fun iv x => Qd.s0 iv.1 iv.2.1 iv.2.2.1 iv.2.2.2 x
def Qd.f (a0 : (List (ByteArray × (ByteArray × (ByteArray × (ByteArray × (Int × ((List ByteArray) × ByteArray)))))))) (a1 : (List (Int × (ByteArray × Int)))) : Option Int :=
 (ob (Qk.f a0) fun r1 => (cb (!decide (r1 = (0 : Int))) (some r1) (let y2 : Int := ((List.length a1 : Nat) : Int); (cb (decide ((1000 : Int) < y2)) (some (2 : Int)) (let y3 : Int := ((List.length a1 : Nat) : Int); (ob (Qd.l0 a0 a1 a1 y3 (0 : Int)) fun r18 => (caseS r18 (fun a19 => (some a19)) (fun b20 => (some (0 : Int))))))))))
def Qd.fn : TFn := ⟨[(.slice (.pair .str (.pair .str (.pair .str (.pair .str (.pair (.int .i64) (.pair (.slice .str) .str))))))), (.slice (.pair (.int .i64) (.pair .str (.int .i64))))], [(.int .i64)], fun x => Qd.f x.1 x.2⟩
def Qd.C : Cx := ⟨T, TYt, lkF [((36, [0]), Qk.fn), ((69, [0]), Q1t.fn), ((70, [0, 0, 0]), Q1e.fn)], lkO [], lkD [(13, 8, [(0, true), (1, true), (2, true), (3, true), (4, true), (5, true), (6, true), (7, true)], none), (15, 11, [(0, true), (1, true), (2, true), (3, true), (4, true), (5, true), (6, true), (7, true), (8, true), (9, true), (10, true)], none)], lkP [], [7], [], false, [], [], lkS [], 62⟩
theorem Qd.hC : CxOK Tryz.prog Qd.C := ⟨tabOK, FsOK.cons Qk.ok (FsOK.cons Q1t.ok (FsOK.cons Q1e.ok (FsOK.nil))), OsOK.nil, mixed, (fun t h => by cases h), (fun t e h => by cases h), SsOK.nil⟩
def Qd.root : Code := bodyOf Tryz.f65
theorem Qd.h0 : LsOK Tryz.prog Qd.C Qd.root (lkL [([0, 1, 0, 1, 1, 1], Qd.e0)]) :=
 LsOK.cons Qd.hC (LsOK.nil) (by kernel_rfl) (fun iv x => by kernel_rfl)
theorem Qd.ok : FnOK Tryz.prog 65 Qd.fn :=
 FnOK.of (L := lkL [([0, 1, 0, 1, 1, 1], Qd.e0)]) (root := Qd.root) Qd.hC (enters_of (c := Qd.root) Tryz.func65 (by kernel_rfl) (by kernel_rfl)) Tryz.func65 (by kernel_rfl) (rs := [.tmp 4]) (by kernel_rfl) (by kernel_rfl) Qd.h0 (fun x => by kernel_rfl)
def Qr.s0 (v0_0 : (List (ByteArray × (ByteArray × (ByteArray × (ByteArray × (Int × ((List ByteArray) × ByteArray)))))))) (v0_16 : (List (Int × (ByteArray × Int)))) (v0_17 : Int) (x0_18 : Int) (o0_0_0 : (List Bool)) (o0_0_1 : (List Bool)) (o0_0_2 : (List (ByteArray × Bool))) (o0_1 : (List Bool)) (o0_2 : (List Bool)) (o0_3 : (List (ByteArray × Bool))) : Option ((Int × ((List Bool) × ((List Bool) × ((List (ByteArray × Bool)) × ((List Bool) × ((List Bool) × (List (ByteArray × Bool)))))))) ⊕ ((List Bool) × ((List Bool) × ((List (ByteArray × Bool)) × ((List Bool) × ((List Bool) × (List (ByteArray × Bool)))))))) :=
 (cb (decide (x0_18 < v0_17)) (ck (0 ≤ x0_18 ∧ x0_18 < ((List.length v0_16 : Nat) : Int)) (let y5 : (Int × (ByteArray × Int)) := (rd ((0 : Int), (ByteArray.empty, (0 : Int))) v0_16 x0_18); (ck (0 ≤ y5.1 ∧ y5.1 < ((List.length o0_1 : Nat) : Int)) (ck ((Int.toNat y5.1) < List.length o0_1) (ck (0 ≤ y5.1 ∧ y5.1 < ((List.length v0_0 : Nat) : Int)) (let y6 : ByteArray := (rd (ByteArray.empty, (ByteArray.empty, (ByteArray.empty, (ByteArray.empty, ((0 : Int), (([] : (List ByteArray)), ByteArray.empty)))))) v0_0 y5.1).2.2.1; (cb (!decide (y5.2.1 = y6)) (ck (0 ≤ y5.1 ∧ y5.1 < ((List.length o0_2 : Nat) : Int)) (ck ((Int.toNat y5.1) < List.length o0_2) (ck (0 ≤ y5.1 ∧ y5.1 < ((List.length v0_0 : Nat) : Int)) (let y7 : ByteArray := (rd (ByteArray.empty, (ByteArray.empty, (ByteArray.empty, (ByteArray.empty, ((0 : Int), (([] : (List ByteArray)), ByteArray.empty)))))) v0_0 y5.1).2.2.2.1; (ck (InR (x0_18 + (1 : Int))) (some (.inl ((x0_18 + (1 : Int)), o0_0_0, o0_0_1, o0_0_2, (List.set o0_1 (Int.toNat y5.1) true), (List.set o0_2 (Int.toNat y5.1) true), (mset y7 true o0_3))))))))) (ck (InR (x0_18 + (1 : Int))) (some (.inl ((x0_18 + (1 : Int)), o0_0_0, o0_0_1, o0_0_2, (List.set o0_1 (Int.toNat y5.1) true), o0_2, o0_3))))))))))) (some (.inr (o0_0_0, o0_0_1, o0_0_2, o0_1, o0_2, o0_3))))
def Qr.l0 (v0_0 : (List (ByteArray × (ByteArray × (ByteArray × (ByteArray × (Int × ((List ByteArray) × ByteArray)))))))) (v0_16 : (List (Int × (ByteArray × Int)))) (v0_17 : Int) (x0_18 : Int) (o0_0_0 : (List Bool)) (o0_0_1 : (List Bool)) (o0_0_2 : (List (ByteArray × Bool))) (o0_1 : (List Bool)) (o0_2 : (List Bool)) (o0_3 : (List (ByteArray × Bool))) : Option ((List Bool) × ((List Bool) × ((List (ByteArray × Bool)) × ((List Bool) × ((List Bool) × (List (ByteArray × Bool))))))) :=
 loopX (fun (x : (Int × ((List Bool) × ((List Bool) × ((List (ByteArray × Bool)) × ((List Bool) × ((List Bool) × (List (ByteArray × Bool))))))))) => Qr.s0 v0_0 v0_16 v0_17 x.1 x.2.1 x.2.2.1 x.2.2.2.1 x.2.2.2.2.1 x.2.2.2.2.2.1 x.2.2.2.2.2.2) (x0_18, o0_0_0, o0_0_1, o0_0_2, o0_1, o0_2, o0_3)
def Qr.e0 : Ent where
 pre := []
 inv := [(0, .val (.slice (.pair .str (.pair .str (.pair .str (.pair .str (.pair (.int .i64) (.pair (.slice .str) .str)))))))), (16, .val (.slice (.pair (.int .i64) (.pair .str (.int .i64))))), (17, .val (.int .i64))]
 car := ⟨[(4, .ptr 0 3), (5, .ptr 4 3), (18, .val (.int .i64))], [.box 112 [.val (.slice .bool), .val (.slice .bool), .val (.mp .bool)], .row 4 .bool, .row 4 .bool, .mapo .bool, .box 112 [.own 1 1, .own 2 1, .nm 3 []]]⟩
 exits := [(.exit 0, ⟨[(4, .ptr 0 3), (5, .ptr 4 3)], [.box 112 [.val (.slice .bool), .val (.slice .bool), .val (.mp .bool)], .row 4 .bool, .row 4 .bool, .mapo .bool, .box 112 [.own 1 1, .own 2 1, .nm 3 []]]⟩)]
 step := fun iv x => Qr.s0 iv.1 iv.2.1 iv.2.2 x.1 x.2.1 x.2.2.1 x.2.2.2.1 x.2.2.2.2.1 x.2.2.2.2.2.1 x.2.2.2.2.2.2
def Qr.f (a0 : (List (ByteArray × (ByteArray × (ByteArray × (ByteArray × (Int × ((List ByteArray) × ByteArray)))))))) (a1 : (List (Int × (ByteArray × Int)))) : Option ((List Bool) × ((List Bool) × (List (ByteArray × Bool)))) :=
 (both (ck (0 ≤ ((List.length a0 : Nat) : Int) ∧ ((List.length a0 : Nat) : Int) * (1 : Int) ≤ 140737488355328) (both (ck (0 ≤ ((List.length a0 : Nat) : Int) ∧ ((List.length a0 : Nat) : Int) * (1 : Int) ≤ 140737488355328) (mix (.node .leaf .leaf) (let y1 : Int := ((List.length a1 : Nat) : Int); (ob (Qr.l0 a0 a1 y1 (0 : Int) ([] : List Bool) ([] : List Bool) ([] : (List (ByteArray × Bool))) (List.replicate (Int.toNat ((List.length a0 : Nat) : Int)) false) (List.replicate (Int.toNat ((List.length a0 : Nat) : Int)) false) ([] : List (ByteArray × Bool))) fun r8 => (some r8.2.2.2))))) (mix (.node (.node .leaf .leaf) (.node .leaf .leaf)) (ck (0 ≤ ((List.length a0 : Nat) : Int) ∧ ((List.length a0 : Nat) : Int) * (1 : Int) ≤ 140737488355328) (let y1 : Int := ((List.length a1 : Nat) : Int); (ob (Qr.l0 a0 a1 y1 (0 : Int) ([] : List Bool) ([] : List Bool) ([] : (List (ByteArray × Bool))) (List.replicate (Int.toNat ((List.length a0 : Nat) : Int)) false) (List.replicate (Int.toNat ((List.length a0 : Nat) : Int)) false) ([] : List (ByteArray × Bool))) fun r2 => (some r2.2.2.2))))))) (both (ck (0 ≤ ((List.length a0 : Nat) : Int) ∧ ((List.length a0 : Nat) : Int) * (1 : Int) ≤ 140737488355328) (both (ck (0 ≤ ((List.length a0 : Nat) : Int) ∧ ((List.length a0 : Nat) : Int) * (1 : Int) ≤ 140737488355328) (mix (.node .leaf .leaf) (let y1 : Int := ((List.length a1 : Nat) : Int); (ob (Qr.l0 a0 a1 y1 (0 : Int) ([] : List Bool) ([] : List Bool) ([] : (List (ByteArray × Bool))) (List.replicate (Int.toNat ((List.length a0 : Nat) : Int)) false) (List.replicate (Int.toNat ((List.length a0 : Nat) : Int)) false) ([] : List (ByteArray × Bool))) fun r2 => (some r2.2.2.2))))) (mix (.node (.node .leaf .leaf) (.node .leaf .leaf)) (ck (0 ≤ ((List.length a0 : Nat) : Int) ∧ ((List.length a0 : Nat) : Int) * (1 : Int) ≤ 140737488355328) (let y1 : Int := ((List.length a1 : Nat) : Int); (ob (Qr.l0 a0 a1 y1 (0 : Int) ([] : List Bool) ([] : List Bool) ([] : (List (ByteArray × Bool))) (List.replicate (Int.toNat ((List.length a0 : Nat) : Int)) false) (List.replicate (Int.toNat ((List.length a0 : Nat) : Int)) false) ([] : List (ByteArray × Bool))) fun r2 => (some r2.2.2.2))))))) (mix (.node .leaf .leaf) (both (ck (0 ≤ ((List.length a0 : Nat) : Int) ∧ ((List.length a0 : Nat) : Int) * (1 : Int) ≤ 140737488355328) (mix (.node .leaf .leaf) (ck (0 ≤ ((List.length a0 : Nat) : Int) ∧ ((List.length a0 : Nat) : Int) * (1 : Int) ≤ 140737488355328) (let y1 : Int := ((List.length a1 : Nat) : Int); (ob (Qr.l0 a0 a1 y1 (0 : Int) ([] : List Bool) ([] : List Bool) ([] : (List (ByteArray × Bool))) (List.replicate (Int.toNat ((List.length a0 : Nat) : Int)) false) (List.replicate (Int.toNat ((List.length a0 : Nat) : Int)) false) ([] : List (ByteArray × Bool))) fun r2 => (some r2.2.2.2)))))) (both (ck (0 ≤ ((List.length a0 : Nat) : Int) ∧ ((List.length a0 : Nat) : Int) * (1 : Int) ≤ 140737488355328) (mix (.node .leaf .leaf) (ck (0 ≤ ((List.length a0 : Nat) : Int) ∧ ((List.length a0 : Nat) : Int) * (1 : Int) ≤ 140737488355328) (let y1 : Int := ((List.length a1 : Nat) : Int); (ob (Qr.l0 a0 a1 y1 (0 : Int) ([] : List Bool) ([] : List Bool) ([] : (List (ByteArray × Bool))) (List.replicate (Int.toNat ((List.length a0 : Nat) : Int)) false) (List.replicate (Int.toNat ((List.length a0 : Nat) : Int)) false) ([] : List (ByteArray × Bool))) fun r2 => (some r2.2.2.2)))))) (mix (.node .leaf .leaf) (ck (0 ≤ ((List.length a0 : Nat) : Int) ∧ ((List.length a0 : Nat) : Int) * (1 : Int) ≤ 140737488355328) (ck (0 ≤ ((List.length a0 : Nat) : Int) ∧ ((List.length a0 : Nat) : Int) * (1 : Int) ≤ 140737488355328) (let y1 : Int := ((List.length a1 : Nat) : Int); (ob (Qr.l0 a0 a1 y1 (0 : Int) ([] : List Bool) ([] : List Bool) ([] : (List (ByteArray × Bool))) (List.replicate (Int.toNat ((List.length a0 : Nat) : Int)) false) (List.replicate (Int.toNat ((List.length a0 : Nat) : Int)) false) ([] : List (ByteArray × Bool))) fun r2 => (some r2.2.2.2)))))))))))
def Qr.fn : TFn := ⟨[(.slice (.pair .str (.pair .str (.pair .str (.pair .str (.pair (.int .i64) (.pair (.slice .str) .str))))))), (.slice (.pair (.int .i64) (.pair .str (.int .i64))))], [(.pair (.slice .bool) (.pair (.slice .bool) (.mp .bool)))], fun x => Qr.f x.1 x.2⟩
def Qr.C : Cx := ⟨T, TYt, lkF [], lkO [], lkD [(6, 8, [(0, true), (1, true), (2, true), (3, true), (4, true), (5, true), (6, true), (7, true)], none), (8, 8, [(0, true), (1, true), (2, true), (3, true), (4, true), (5, true), (6, true), (7, true)], none)], lkP [(1, 9, (.take 0 (.take 1 (.take 3 (.take 4 (.alt 2 (.alt 5 (.alt 6 (.take 7 (.alt 8 .done .no)) (.alt 8 (.alt 6 (.take 7 (.swp 2 .done)) .no) .no)) (.alt 6 (.alt 5 (.take 7 (.alt 8 (.swp 3 .done) .no)) (.alt 8 (.alt 5 (.take 7 (.swp 2 (.swp 3 .done))) .no) .no)) (.alt 8 (.alt 5 (.alt 6 (.take 7 (.swp 3 (.swp 2 .done))) .no) (.alt 6 (.alt 5 (.take 7 (.swp 3 (.swp 2 (.swp 3 .done)))) .no) .no)) .no))) (.alt 5 (.alt 2 (.alt 6 (.take 7 (.alt 8 (.swp 4 .done) .no)) (.alt 8 (.alt 6 (.take 7 (.swp 4 (.swp 2 .done))) .no) .no)) (.alt 6 (.alt 2 (.take 7 (.alt 8 (.swp 3 (.swp 4 .done)) .no)) (.alt 8 (.alt 2 (.take 7 (.swp 2 (.swp 3 (.swp 4 .done)))) .no) .no)) (.alt 8 (.alt 2 (.alt 6 (.take 7 (.swp 3 (.swp 2 (.swp 4 .done)))) .no) (.alt 6 (.alt 2 (.take 7 (.swp 3 (.swp 2 (.swp 3 (.swp 4 .done))))) .no) .no)) .no))) (.alt 6 (.alt 2 (.alt 5 (.take 7 (.alt 8 (.swp 4 (.swp 3 .done)) .no)) (.alt 8 (.alt 5 (.take 7 (.swp 4 (.swp 2 (.swp 3 .done)))) .no) .no)) (.alt 5 (.alt 2 (.take 7 (.alt 8 (.swp 4 (.swp 3 (.swp 4 .done))) .no)) (.alt 8 (.alt 2 (.take 7 (.swp 4 (.swp 2 (.swp 3 (.swp 4 .done))))) .no) .no)) (.alt 8 (.alt 2 (.alt 5 (.take 7 (.swp 3 (.swp 2 (.swp 4 (.swp 3 .done))))) .no) (.alt 5 (.alt 2 (.take 7 (.swp 3 (.swp 2 (.swp 4 (.swp 3 (.swp 4 .done)))))) .no) .no)) .no))) (.alt 8 (.alt 2 (.alt 5 (.alt 6 (.take 7 (.swp 4 (.swp 3 (.swp 2 .done)))) .no) (.alt 6 (.alt 5 (.take 7 (.swp 4 (.swp 3 (.swp 2 (.swp 3 .done))))) .no) .no)) (.alt 5 (.alt 2 (.alt 6 (.take 7 (.swp 4 (.swp 3 (.swp 2 (.swp 4 .done))))) .no) (.alt 6 (.alt 2 (.take 7 (.swp 4 (.swp 3 (.swp 2 (.swp 3 (.swp 4 .done)))))) .no) .no)) (.alt 6 (.alt 2 (.alt 5 (.take 7 (.swp 4 (.swp 3 (.swp 2 (.swp 4 (.swp 3 .done)))))) .no) (.alt 5 (.alt 2 (.take 7 (.swp 4 (.swp 3 (.swp 2 (.swp 4 (.swp 3 (.swp 4 .done))))))) .no) .no)) .no))) .no)))))))))], [5, 7], [(103, 4)], false, [], [], lkS [], 51⟩
theorem Qr.hC : CxOK Tryz.prog Qr.C := ⟨tabOK, FsOK.nil, OsOK.nil, mixed, (fun t h => by cases h), (mps_of [(103, 4)] (by kernel_rfl)), SsOK.nil⟩
def Qr.root : Code := bodyOf Tryz.f95
theorem Qr.h0 : LsOK Tryz.prog Qr.C Qr.root (lkL [([0, 1, 0, 1, 1], Qr.e0)]) :=
 LsOK.cons Qr.hC (LsOK.nil) (by kernel_rfl) (fun iv x => by kernel_rfl)
theorem Qr.ok : FnOK Tryz.prog 95 Qr.fn :=
 FnOK.of (L := lkL [([0, 1, 0, 1, 1], Qr.e0)]) (root := Qr.root) Qr.hC (enters_of (c := Qr.root) Tryz.func95 (by kernel_rfl) (by kernel_rfl)) Tryz.func95 (by kernel_rfl) (rs := [.cell 4 112]) (by kernel_rfl) (by kernel_rfl) Qr.h0 (fun x => by kernel_rfl)
def Qv.s0 (v0_6 : (List Bool)) (v0_7 : Int) (x0_8 : Int) (o0_0 : (List Int)) : Option ((Int × (List Int)) ⊕ (List Int)) :=
 (cb (decide (x0_8 < v0_7)) (ck (0 ≤ x0_8 ∧ x0_8 < ((List.length v0_6 : Nat) : Int)) (cb (rd false v0_6 x0_8) (ck ((List.length o0_0 + List.length ([x0_8] : List Int)) * 8 ≤ 140737488355328) (ck (InR (x0_8 + (1 : Int))) (some (.inl ((x0_8 + (1 : Int)), (o0_0 ++ ([x0_8] : List Int))))))) (ck (InR (x0_8 + (1 : Int))) (some (.inl ((x0_8 + (1 : Int)), o0_0)))))) (some (.inr o0_0)))
def Qv.l0 (v0_6 : (List Bool)) (v0_7 : Int) (x0_8 : Int) (o0_0 : (List Int)) : Option (List Int) :=
 loopX (fun (x : (Int × (List Int))) => Qv.s0 v0_6 v0_7 x.1 x.2) (x0_8, o0_0)
def Qv.e0 : Ent where
 pre := [.nil 3 3 (.int .i64)]
 inv := [(6, .val (.slice .bool)), (7, .val (.int .i64))]
 car := ⟨[(3, .own 0 1), (8, .val (.int .i64))], [.row 3 (.int .i64)]⟩
 exits := [(.exit 0, ⟨[(3, .own 0 1)], [.row 3 (.int .i64)]⟩)]
 step := fun iv x => Qv.s0 iv.1 iv.2 x.1 x.2
def Qv.f (a0 : (List Bool)) : Option (List Int) :=
 (let y1 : Int := ((List.length a0 : Nat) : Int); (ob (Qv.l0 a0 y1 (0 : Int) ([] : List Int)) fun r2 => (some r2)))
def Qv.fn : TFn := ⟨[(.slice .bool)], [(.slice (.int .i64))], fun x => Qv.f x⟩
def Qv.C : Cx := ⟨T, TYt, lkF [], lkO [], lkD [], lkP [], [], [], false, [], [], lkS [], 20⟩
theorem Qv.hC : CxOK Tryz.prog Qv.C := ⟨tabOK, FsOK.nil, OsOK.nil, mixed, (fun t h => by cases h), (fun t e h => by cases h), SsOK.nil⟩
def Qv.root : Code := bodyOf Tryz.f93
theorem Qv.h0 : LsOK Tryz.prog Qv.C Qv.root (lkL [([0, 1, 0, 1, 1], Qv.e0)]) :=
 LsOK.cons Qv.hC (LsOK.nil) (by kernel_rfl) (fun iv x => by kernel_rfl)
theorem Qv.ok : FnOK Tryz.prog 93 Qv.fn :=
 FnOK.of (L := lkL [([0, 1, 0, 1, 1], Qv.e0)]) (root := Qv.root) Qv.hC (enters_of (c := Qv.root) Tryz.func93 (by kernel_rfl) (by kernel_rfl)) Tryz.func93 (by kernel_rfl) (rs := [.tmp 2]) (by kernel_rfl) (by kernel_rfl) Qv.h0 (fun x => by kernel_rfl)
def Q2n.f (a0 : (List (ByteArray × (ByteArray × (ByteArray × (ByteArray × (Int × ((List ByteArray) × ByteArray)))))))) (a1 : (List (Int × (ByteArray × Int)))) : Option ((List Int) × Int) :=
 (ob (Qd.f a0 a1) fun r1 => (cb (!decide (r1 = (0 : Int))) (some (([] : List Int), r1)) (ob (Qr.f a0 a1) fun r2 => (ob (Qv.f r2.2.1) fun r3 => (some (r3, (0 : Int)))))))
def Q2n.fn : TFn := ⟨[(.slice (.pair .str (.pair .str (.pair .str (.pair .str (.pair (.int .i64) (.pair (.slice .str) .str))))))), (.slice (.pair (.int .i64) (.pair .str (.int .i64))))], [(.slice (.int .i64)), (.int .i64)], fun x => Q2n.f x.1 x.2⟩
def Q2n.C : Cx := ⟨T, TYt, lkF [((65, [0, 0]), Qd.fn), ((93, [0]), Qv.fn), ((95, [0, 0]), Qr.fn)], lkO [], lkD [], lkP [], [], [], false, [], [], lkS [], 18⟩
theorem Q2n.hC : CxOK Tryz.prog Q2n.C := ⟨tabOK, FsOK.cons Qd.ok (FsOK.cons Qv.ok (FsOK.cons Qr.ok (FsOK.nil))), OsOK.nil, mixed, (fun t h => by cases h), (fun t e h => by cases h), SsOK.nil⟩
def Q2n.root : Code := bodyOf Tryz.f45
theorem Q2n.ok : FnOK Tryz.prog 45 Q2n.fn :=
 FnOK.of (L := lkL []) (root := Q2n.root) Q2n.hC (enters_of (c := Q2n.root) Tryz.func45 (by kernel_rfl) (by kernel_rfl)) Tryz.func45 (by kernel_rfl) (rs := [.tmp 4, .tmp 5]) (by kernel_rfl) (by kernel_rfl) LsOK.nil (fun x => by kernel_rfl)
def Q21.f (a0 : ByteArray) : Option Bool :=
 (ob (Q28.f a0 ()) fun r1 => (some (!r1)))
def Q21.fn : TFn := ⟨[.str], [.bool], fun x => Q21.f x⟩
def Q21.C : Cx := ⟨T, TYt, lkF [((185, [0, 188]), Q28.fn)], lkO [], lkD [], lkP [], [], [], false, [], [], lkS [], 6⟩
theorem Q21.hC : CxOK Tryz.prog Q21.C := ⟨tabOK, FsOK.cons Q28.ok (FsOK.nil), OsOK.nil, mixed, (fun t h => by cases h), (fun t e h => by cases h), SsOK.nil⟩
def Q21.root : Code := bodyOf Tryz.f133
theorem Q21.ok : FnOK Tryz.prog 133 Q21.fn :=
 FnOK.of (L := lkL []) (root := Q21.root) Q21.hC (enters_of (c := Q21.root) Tryz.func133 (by kernel_rfl) (by kernel_rfl)) Tryz.func133 (by kernel_rfl) (rs := [.tmp 2]) (by kernel_rfl) (by kernel_rfl) LsOK.nil (fun x => by kernel_rfl)
def Q24.f (a0 : ByteArray) : Option Bool :=
 (let y1 : Int := ((ByteArray.size a0 : Nat) : Int); (cb (decide ((1 : Int) ≤ y1)) (let y2 : Int := ((ByteArray.size a0 : Nat) : Int); (cb (decide (y2 ≤ (100 : Int))) (ob (Q21.f a0) fun r3 => (some r3)) (some false))) (some false)))
def Q24.fn : TFn := ⟨[.str], [.bool], fun x => Q24.f x⟩
def Q24.C : Cx := ⟨T, TYt, lkF [((133, [0]), Q21.fn)], lkO [], lkD [], lkP [], [], [], false, [], [], lkS [], 15⟩
theorem Q24.hC : CxOK Tryz.prog Q24.C := ⟨tabOK, FsOK.cons Q21.ok (FsOK.nil), OsOK.nil, mixed, (fun t h => by cases h), (fun t e h => by cases h), SsOK.nil⟩
def Q24.root : Code := bodyOf Tryz.f83
theorem Q24.ok : FnOK Tryz.prog 83 Q24.fn :=
 FnOK.of (L := lkL []) (root := Q24.root) Q24.hC (enters_of (c := Q24.root) Tryz.func83 (by kernel_rfl) (by kernel_rfl)) Tryz.func83 (by kernel_rfl) (rs := [.tmp 2]) (by kernel_rfl) (by kernel_rfl) LsOK.nil (fun x => by kernel_rfl)
def Q1l.f (a0 : ByteArray) (a1 : ByteArray) : Option Bool :=
 (ob (Ql.f a0 a1) fun r1 => (some r1))
def Q1l.fn : TFn := ⟨[.str, .str], [.bool], fun x => Q1l.f x.1 x.2⟩
def Q1l.C : Cx := ⟨T, TYt, lkF [((183, [0, 0]), Ql.fn)], lkO [], lkD [], lkP [], [], [], false, [], [], lkS [], 8⟩
theorem Q1l.hC : CxOK Tryz.prog Q1l.C := ⟨tabOK, FsOK.cons Ql.ok (FsOK.nil), OsOK.nil, mixed, (fun t h => by cases h), (fun t e h => by cases h), SsOK.nil⟩
def Q1l.root : Code := bodyOf Tryz.f130
theorem Q1l.ok : FnOK Tryz.prog 130 Q1l.fn :=
 FnOK.of (L := lkL []) (root := Q1l.root) Q1l.hC (enters_of (c := Q1l.root) Tryz.func130 (by kernel_rfl) (by kernel_rfl)) Tryz.func130 (by kernel_rfl) (rs := [.tmp 4]) (by kernel_rfl) (by kernel_rfl) LsOK.nil (fun x => by kernel_rfl)
def Qp.s0 (v0_1 : (ByteArray × (ByteArray × ((List ByteArray) × (Int × Int))))) (v0_21 : (List ByteArray)) (v0_22 : Int) (x0_23 : Int) : Option (Int ⊕ (Int ⊕ Unit)) :=
 (cb (decide (x0_23 < v0_22)) (ck (0 ≤ x0_23 ∧ x0_23 < ((List.length v0_21 : Nat) : Int)) (let y10 : ByteArray := (rd ByteArray.empty v0_21 x0_23); (ob (Q1l.f y10 Q1i) fun r11 => (cb (!r11) (some (.inr (.inl (3 : Int)))) (let y12 : Int := ((ByteArray.size y10 : Nat) : Int); (cb (decide ((1000 : Int) < y12)) (some (.inr (.inl (3 : Int)))) (ob (Q21.f y10) fun r13 => (cb (!r13) (some (.inr (.inl (3 : Int)))) (cb (decide ((0 : Int) < x0_23)) (ck (InR (x0_23 - (1 : Int))) (ck (0 ≤ (x0_23 - (1 : Int)) ∧ (x0_23 - (1 : Int)) < ((List.length v0_1.2.2.1 : Nat) : Int)) (let y14 : ByteArray := (rd ByteArray.empty v0_1.2.2.1 (x0_23 - (1 : Int))); (cb (bless y10 y14 || decide (y10 = y14)) (some (.inr (.inl (8 : Int)))) (ck (InR (x0_23 + (1 : Int))) (some (.inl (x0_23 + (1 : Int))))))))) (ck (InR (x0_23 + (1 : Int))) (some (.inl (x0_23 + (1 : Int)))))))))))))) (some (.inr (.inr ()))))
def Qp.l0 (v0_1 : (ByteArray × (ByteArray × ((List ByteArray) × (Int × Int))))) (v0_21 : (List ByteArray)) (v0_22 : Int) (x0_23 : Int) : Option (Int ⊕ Unit) :=
 loopX (fun (x : Int) => Qp.s0 v0_1 v0_21 v0_22 x) x0_23
def Qp.e0 : Ent where
 pre := []
 inv := [(1, .rp (.pair .str (.pair .str (.pair (.slice .str) (.pair (.int .i64) (.int .i64)))))), (21, .val (.slice .str)), (22, .val (.int .i64))]
 car := ⟨[(23, .val (.int .i64))], []⟩
 exits := [(.ret, ⟨[(2, .val (.int .i64))], []⟩), (.exit 1, ⟨[], []⟩)]
 step := fun iv x => Qp.s0 iv.1 iv.2.1 iv.2.2 x
def Qp.f (a0 : (ByteArray × (ByteArray × ((List ByteArray) × (Int × Int))))) : Option Int :=
 (ob (Q1u.f a0.1) fun r1 => (cb (!r1) (some (5 : Int)) (ob (Q24.f a0.2.1) fun r2 => (cb (!r2) (some (3 : Int)) (let y3 : Int := ((List.length a0.2.2.1 : Nat) : Int); (cb (decide ((30 : Int) < y3)) (some (2 : Int)) (let y4 : Int := ((List.length a0.2.2.1 : Nat) : Int); (ob (Qp.l0 a0 a0.2.2.1 y4 (0 : Int)) fun r15 => (caseS r15 (fun a16 => (some a16)) (fun b17 => (ob (Q1e.f a0.2.2.2.1 (0 : Int) (1000000000 : Int)) fun r18 => (cb (!r18) (some (1 : Int)) (ob (Q1e.f a0.2.2.2.2 (0 : Int) (1000000001 : Int)) fun r19 => (cb (!r19) (some (1 : Int)) (cb (decide (a0.2.2.2.2 ≤ a0.2.2.2.1)) (some (8 : Int)) (some (0 : Int)))))))))))))))))
def Qp.fn : TFn := ⟨[(.pair .str (.pair .str (.pair (.slice .str) (.pair (.int .i64) (.int .i64)))))], [(.int .i64)], fun x => Qp.f x⟩
def Qp.C : Cx := ⟨T, TYt, lkF [((70, [0, 0, 0]), Q1e.fn), ((76, [0]), Q1u.fn), ((83, [0]), Q24.fn), ((130, [0, 0]), Q1l.fn), ((133, [0]), Q21.fn)], lkO [], lkD [], lkP [], [1], [], false, [], [], lkS [], 69⟩
theorem Qp.hC : CxOK Tryz.prog Qp.C := ⟨tabOK, FsOK.cons Q1e.ok (FsOK.cons Q1u.ok (FsOK.cons Q24.ok (FsOK.cons Q1l.ok (FsOK.cons Q21.ok (FsOK.nil))))), OsOK.nil, mixed, (fun t h => by cases h), (fun t e h => by cases h), SsOK.nil⟩
def Qp.root : Code := bodyOf Tryz.f125
theorem Qp.h0 : LsOK Tryz.prog Qp.C Qp.root (lkL [([0, 1, 0, 1, 1], Qp.e0)]) :=
 LsOK.cons Qp.hC (LsOK.nil) (by kernel_rfl) (fun iv x => by kernel_rfl)
theorem Qp.ok : FnOK Tryz.prog 125 Qp.fn :=
 FnOK.of (L := lkL [([0, 1, 0, 1, 1], Qp.e0)]) (root := Qp.root) Qp.hC (enters_of (c := Qp.root) Tryz.func125 (by kernel_rfl) (by kernel_rfl)) Tryz.func125 (by kernel_rfl) (rs := [.tmp 2]) (by kernel_rfl) (by kernel_rfl) Qp.h0 (fun x => by kernel_rfl)
def Qi.s0 (v0_0 : (List (ByteArray × (ByteArray × ((List ByteArray) × (Int × Int)))))) (v0_9 : (List (ByteArray × (ByteArray × ((List ByteArray) × (Int × Int)))))) (v0_10 : Int) (x0_11 : Int) : Option (Int ⊕ (Int ⊕ Unit)) :=
 (cb (decide (x0_11 < v0_10)) (ck (0 ≤ x0_11 ∧ x0_11 < ((List.length v0_9 : Nat) : Int)) (let y6 : (ByteArray × (ByteArray × ((List ByteArray) × (Int × Int)))) := (rd (ByteArray.empty, (ByteArray.empty, (([] : (List ByteArray)), ((0 : Int), (0 : Int))))) v0_9 x0_11); (ob (Qp.f y6) fun r7 => (cb (!decide (r7 = (0 : Int))) (some (.inr (.inl r7))) (cb (decide ((0 : Int) < x0_11)) (ck (InR (x0_11 - (1 : Int))) (ck (0 ≤ (x0_11 - (1 : Int)) ∧ (x0_11 - (1 : Int)) < ((List.length v0_0 : Nat) : Int)) (let y8 : ByteArray := (rd (ByteArray.empty, (ByteArray.empty, (([] : (List ByteArray)), ((0 : Int), (0 : Int))))) v0_0 (x0_11 - (1 : Int))).1; (cb (bless y6.1 y8 || decide (y6.1 = y8)) (some (.inr (.inl (8 : Int)))) (ck (InR (x0_11 + (1 : Int))) (some (.inl (x0_11 + (1 : Int))))))))) (ck (InR (x0_11 + (1 : Int))) (some (.inl (x0_11 + (1 : Int)))))))))) (some (.inr (.inr ()))))
def Qi.l0 (v0_0 : (List (ByteArray × (ByteArray × ((List ByteArray) × (Int × Int)))))) (v0_9 : (List (ByteArray × (ByteArray × ((List ByteArray) × (Int × Int)))))) (v0_10 : Int) (x0_11 : Int) : Option (Int ⊕ Unit) :=
 loopX (fun (x : Int) => Qi.s0 v0_0 v0_9 v0_10 x) x0_11
def Qi.e0 : Ent where
 pre := []
 inv := [(0, .val (.slice (.pair .str (.pair .str (.pair (.slice .str) (.pair (.int .i64) (.int .i64))))))), (9, .val (.slice (.pair .str (.pair .str (.pair (.slice .str) (.pair (.int .i64) (.int .i64))))))), (10, .val (.int .i64))]
 car := ⟨[(11, .val (.int .i64))], []⟩
 exits := [(.ret, ⟨[(2, .val (.int .i64))], []⟩), (.exit 0, ⟨[], []⟩)]
 step := fun iv x => Qi.s0 iv.1 iv.2.1 iv.2.2 x
def Qi.f (a0 : (List (ByteArray × (ByteArray × ((List ByteArray) × (Int × Int)))))) : Option Int :=
 (let y1 : Int := ((List.length a0 : Nat) : Int); (cb (decide ((50 : Int) < y1)) (some (2 : Int)) (let y2 : Int := ((List.length a0 : Nat) : Int); (ob (Qi.l0 a0 a0 y2 (0 : Int)) fun r9 => (caseS r9 (fun a10 => (some a10)) (fun b11 => (some (0 : Int))))))))
def Qi.fn : TFn := ⟨[(.slice (.pair .str (.pair .str (.pair (.slice .str) (.pair (.int .i64) (.int .i64))))))], [(.int .i64)], fun x => Qi.f x⟩
def Qi.C : Cx := ⟨T, TYt, lkF [((125, [0]), Qp.fn)], lkO [], lkD [(9, 11, [(0, true), (1, true), (2, true), (3, true), (4, true), (5, true), (6, true), (7, true), (8, true), (9, true), (10, true)], none)], lkP [], [4], [], false, [], [], lkS [], 35⟩
theorem Qi.hC : CxOK Tryz.prog Qi.C := ⟨tabOK, FsOK.cons Qp.ok (FsOK.nil), OsOK.nil, mixed, (fun t h => by cases h), (fun t e h => by cases h), SsOK.nil⟩
def Qi.root : Code := bodyOf Tryz.f75
theorem Qi.h0 : LsOK Tryz.prog Qi.C Qi.root (lkL [([0, 1, 0, 1, 1], Qi.e0)]) :=
 LsOK.cons Qi.hC (LsOK.nil) (by kernel_rfl) (fun iv x => by kernel_rfl)
theorem Qi.ok : FnOK Tryz.prog 75 Qi.fn :=
 FnOK.of (L := lkL [([0, 1, 0, 1, 1], Qi.e0)]) (root := Qi.root) Qi.hC (enters_of (c := Qi.root) Tryz.func75 (by kernel_rfl) (by kernel_rfl)) Tryz.func75 (by kernel_rfl) (rs := [.tmp 2]) (by kernel_rfl) (by kernel_rfl) Qi.h0 (fun x => by kernel_rfl)
def Q2e.f (a0 : (ByteArray × (ByteArray × ((List ByteArray) × (Int × Int))))) (a1 : ByteArray) : Option Int :=
 (ob (Q2w.f a0.1 a1) fun r1 => (some r1))
def Q2e.fn : TFn := ⟨[(.pair .str (.pair .str (.pair (.slice .str) (.pair (.int .i64) (.int .i64))))), .str], [(.int .i64)], fun x => Q2e.f x.1 x.2⟩
def Q2e.C : Cx := ⟨T, TYt, lkF [((124, [0, 0]), Q2w.fn)], lkO [], lkD [], lkP [], [2], [], false, [], [], lkS [], 9⟩
theorem Q2e.hC : CxOK Tryz.prog Q2e.C := ⟨tabOK, FsOK.cons Q2w.ok (FsOK.nil), OsOK.nil, mixed, (fun t h => by cases h), (fun t e h => by cases h), SsOK.nil⟩
def Q2e.root : Code := bodyOf Tryz.f123
theorem Q2e.ok : FnOK Tryz.prog 123 Q2e.fn :=
 FnOK.of (L := lkL []) (root := Q2e.root) Q2e.hC (enters_of (c := Q2e.root) Tryz.func123 (by kernel_rfl) (by kernel_rfl)) Tryz.func123 (by kernel_rfl) (rs := [.tmp 4]) (by kernel_rfl) (by kernel_rfl) LsOK.nil (fun x => by kernel_rfl)
def Q0.s0 (v0_0 : (List (ByteArray × (ByteArray × ((List ByteArray) × (Int × Int)))))) (v0_1 : ByteArray) (x0_9 : Int) (x0_10 : Int) : Option ((Int × Int) ⊕ Int) :=
 (cb (decide (x0_9 < x0_10)) (ck (InR (x0_9 + x0_10)) (let y7 : Int := (IntKind.u64.wrap (x0_9 + x0_10)); (let y8 : Int := (Int.fdiv y7 (2 ^ min (Int.toNat (1 : Int)) (IntKind.bits .u64))); (ck (0 ≤ (IntKind.i64.wrap y8) ∧ (IntKind.i64.wrap y8) < ((List.length v0_0 : Nat) : Int)) (let y9 : (ByteArray × (ByteArray × ((List ByteArray) × (Int × Int)))) := (rd (ByteArray.empty, (ByteArray.empty, (([] : (List ByteArray)), ((0 : Int), (0 : Int))))) v0_0 (IntKind.i64.wrap y8)); (ob (Q2e.f y9 v0_1) fun r10 => (cb (decide (r10 < (0 : Int))) (ck (InR ((IntKind.i64.wrap y8) + (1 : Int))) (let y11 : Int := ((IntKind.i64.wrap y8) + (1 : Int)); (some (.inl (y11, x0_10))))) (some (.inl (x0_9, (IntKind.i64.wrap y8))))))))))) (some (.inr x0_9)))
def Q0.l0 (v0_0 : (List (ByteArray × (ByteArray × ((List ByteArray) × (Int × Int)))))) (v0_1 : ByteArray) (x0_9 : Int) (x0_10 : Int) : Option Int :=
 loopX (fun (x : (Int × Int)) => Q0.s0 v0_0 v0_1 x.1 x.2) (x0_9, x0_10)
def Q0.e0 : Ent where
 pre := []
 inv := [(0, .val (.slice (.pair .str (.pair .str (.pair (.slice .str) (.pair (.int .i64) (.int .i64))))))), (1, .val .str), (2, .fn 123), (8, .val (.int .i64))]
 car := ⟨[(9, .val (.int .i64)), (10, .val (.int .i64))], []⟩
 exits := [(.exit 0, ⟨[(9, .val (.int .i64))], []⟩)]
 step := fun iv x => Q0.s0 iv.1 iv.2.1 x.1 x.2
def Q0.f (a0 : (List (ByteArray × (ByteArray × ((List ByteArray) × (Int × Int)))))) (a1 : ByteArray) (a2 : Unit) : Option (Int × Bool) :=
 (let y1 : Int := ((List.length a0 : Nat) : Int); (ob (Q0.l0 a0 a1 (0 : Int) y1) fun r12 => (cb (decide (r12 < y1)) (ck (0 ≤ r12 ∧ r12 < ((List.length a0 : Nat) : Int)) (let y13 : (ByteArray × (ByteArray × ((List ByteArray) × (Int × Int)))) := (rd (ByteArray.empty, (ByteArray.empty, (([] : (List ByteArray)), ((0 : Int), (0 : Int))))) a0 r12); (ob (Q2e.f y13 a1) fun r14 => (some (r12, (decide (r14 = (0 : Int)))))))) (some (r12, false)))))
def Q0.fn : TFn := ⟨[(.slice (.pair .str (.pair .str (.pair (.slice .str) (.pair (.int .i64) (.int .i64)))))), .str, (.fnc 123)], [(.int .i64), .bool], fun x => Q0.f x.1 x.2.1 x.2.2⟩
def Q0.C : Cx := ⟨T, TYt, lkF [((123, [0, 0]), Q2e.fn)], lkO [], lkD [], lkP [], [], [], false, [], [], lkS [], 49⟩
theorem Q0.hC : CxOK Tryz.prog Q0.C := ⟨tabOK, FsOK.cons Q2e.ok (FsOK.nil), OsOK.nil, mixed, (fun t h => by cases h), (fun t e h => by cases h), SsOK.nil⟩
def Q0.root : Code := bodyOf Tryz.f122
theorem Q0.h0 : LsOK Tryz.prog Q0.C Q0.root (lkL [([0, 0, 1, 1, 1], Q0.e0)]) :=
 LsOK.cons Q0.hC (LsOK.nil) (by kernel_rfl) (fun iv x => by kernel_rfl)
theorem Q0.ok : FnOK Tryz.prog 122 Q0.fn :=
 FnOK.of (L := lkL [([0, 0, 1, 1, 1], Q0.e0)]) (root := Q0.root) Q0.hC (enters_of (c := Q0.root) Tryz.func122 (by kernel_rfl) (by kernel_rfl)) Tryz.func122 (by kernel_rfl) (rs := [.tmp 6, .tmp 7]) (by kernel_rfl) (by kernel_rfl) Q0.h0 (fun x => by kernel_rfl)
def Q2r.f (a0 : (List (ByteArray × (ByteArray × ((List ByteArray) × (Int × Int)))))) (a1 : ByteArray) : Option ((ByteArray × (ByteArray × ((List ByteArray) × (Int × Int)))) × Bool) :=
 (ob (Q0.f a0 a1 ()) fun r1 => (cb (!r1.2) (some ((bs_, (bs_, (([] : List ByteArray), ((0 : Int), (0 : Int))))), false)) (ck (0 ≤ r1.1 ∧ r1.1 < ((List.length a0 : Nat) : Int)) (let y2 : (ByteArray × (ByteArray × ((List ByteArray) × (Int × Int)))) := (rd (ByteArray.empty, (ByteArray.empty, (([] : (List ByteArray)), ((0 : Int), (0 : Int))))) a0 r1.1); (some (y2, true))))))
def Q2r.fn : TFn := ⟨[(.slice (.pair .str (.pair .str (.pair (.slice .str) (.pair (.int .i64) (.int .i64)))))), .str], [(.pair .str (.pair .str (.pair (.slice .str) (.pair (.int .i64) (.int .i64))))), .bool], fun x => Q2r.f x.1 x.2⟩
def Q2r.C : Cx := ⟨T, TYt, lkF [((122, [0, 0, 125]), Q0.fn)], lkO [], lkD [], lkP [], [], [], false, [], [], lkS [], 21⟩
theorem Q2r.hC : CxOK Tryz.prog Q2r.C := ⟨tabOK, FsOK.cons Q0.ok (FsOK.nil), OsOK.nil, mixed, (fun t h => by cases h), (fun t e h => by cases h), SsOK.nil⟩
def Q2r.root : Code := bodyOf Tryz.f72
theorem Q2r.ok : FnOK Tryz.prog 72 Q2r.fn :=
 FnOK.of (L := lkL []) (root := Q2r.root) Q2r.hC (enters_of (c := Q2r.root) Tryz.func72 (by kernel_rfl) (by kernel_rfl)) Tryz.func72 (by kernel_rfl) (rs := [.cell 4 91, .tmp 5]) (by kernel_rfl) (by kernel_rfl) LsOK.nil (fun x => by kernel_rfl)
def Q2l.f (a0 : ByteArray) (a1 : ByteArray) : Option Bool :=
 (ob (Q1l.f a1 a0) fun r1 => (some r1))
def Q2l.fn : TFn := ⟨[.str, (.ref .str)], [.bool], fun x => Q2l.f x.1 x.2⟩
def Q2l.C : Cx := ⟨T, TYt, lkF [((130, [0, 0]), Q1l.fn)], lkO [], lkD [], lkP [], [], [], false, [], [], lkS [], 7⟩
theorem Q2l.hC : CxOK Tryz.prog Q2l.C := ⟨tabOK, FsOK.cons Q1l.ok (FsOK.nil), OsOK.nil, mixed, (fun t h => by cases h), (fun t e h => by cases h), SsOK.nil⟩
def Q2l.root : Code := bodyOf Tryz.f129
theorem Q2l.ok : FnOK Tryz.prog 129 Q2l.fn :=
 FnOK.of (L := lkL []) (root := Q2l.root) Q2l.hC (enters_of (c := Q2l.root) Tryz.func129 (by kernel_rfl) (by kernel_rfl)) Tryz.func129 (by kernel_rfl) (rs := [.tmp 3]) (by kernel_rfl) (by kernel_rfl) LsOK.nil (fun x => by kernel_rfl)
def Q3.s0 (v0_0 : (List ByteArray)) (v0_1 : ByteArray) (v0_7 : Int) (x0_8 : Int) : Option (Int ⊕ (Int ⊕ Unit)) :=
 (cb (decide (x0_8 < v0_7)) (ck (0 ≤ x0_8 ∧ x0_8 < ((List.length v0_0 : Nat) : Int)) (let y4 : ByteArray := (rd ByteArray.empty v0_0 x0_8); (ob (Q2l.f y4 v0_1) fun r5 => (cb r5 (some (.inr (.inl x0_8))) (ck (InR (x0_8 + (1 : Int))) (some (.inl (x0_8 + (1 : Int))))))))) (some (.inr (.inr ()))))
def Q3.l0 (v0_0 : (List ByteArray)) (v0_1 : ByteArray) (v0_7 : Int) (x0_8 : Int) : Option (Int ⊕ Unit) :=
 loopX (fun (x : Int) => Q3.s0 v0_0 v0_1 v0_7 x) x0_8
def Q3.e0 : Ent where
 pre := []
 inv := [(0, .val (.slice .str)), (1, .val (.clo 129 (.ref .str))), (7, .val (.int .i64))]
 car := ⟨[(8, .val (.int .i64))], []⟩
 exits := [(.ret, ⟨[(4, .val (.int .i64))], []⟩), (.exit 0, ⟨[], []⟩)]
 step := fun iv x => Q3.s0 iv.1 iv.2.1 iv.2.2 x
def Q3.f (a0 : (List ByteArray)) (a1 : ByteArray) : Option Int :=
 (let y1 : Int := ((List.length a0 : Nat) : Int); (ob (Q3.l0 a0 a1 y1 (0 : Int)) fun r6 => (caseS r6 (fun a7 => (some a7)) (fun b8 => (some (-1 : Int))))))
def Q3.fn : TFn := ⟨[(.slice .str), (.clo 129 (.ref .str))], [(.int .i64)], fun x => Q3.f x.1 x.2⟩
def Q3.C : Cx := ⟨T, TYt, lkF [((129, [0]), Q2l.fn)], lkO [], lkD [], lkP [], [], [], false, [], [], lkS [], 19⟩
theorem Q3.hC : CxOK Tryz.prog Q3.C := ⟨tabOK, FsOK.cons Q2l.ok (FsOK.nil), OsOK.nil, mixed, (fun t h => by cases h), (fun t e h => by cases h), SsOK.nil⟩
def Q3.root : Code := bodyOf Tryz.f182
theorem Q3.h0 : LsOK Tryz.prog Q3.C Q3.root (lkL [([0, 1, 0, 1], Q3.e0)]) :=
 LsOK.cons Q3.hC (LsOK.nil) (by kernel_rfl) (fun iv x => by kernel_rfl)
theorem Q3.ok : FnOK Tryz.prog 182 Q3.fn :=
 FnOK.of (L := lkL [([0, 1, 0, 1], Q3.e0)]) (root := Q3.root) Q3.hC (enters_of (c := Q3.root) Tryz.func182 (by kernel_rfl) (by kernel_rfl)) Tryz.func182 (by kernel_rfl) (rs := [.tmp 4]) (by kernel_rfl) (by kernel_rfl) Q3.h0 (fun x => by kernel_rfl)
def Qj.f (a0 : (List ByteArray)) (a1 : ByteArray) : Option Bool :=
 (ob (Q3.f a0 a1) fun r1 => (some (decide ((0 : Int) ≤ r1))))
def Qj.fn : TFn := ⟨[(.slice .str), (.clo 129 (.ref .str))], [.bool], fun x => Qj.f x.1 x.2⟩
def Qj.C : Cx := ⟨T, TYt, lkF [((182, [0, 131]), Q3.fn)], lkO [], lkD [], lkP [], [], [], false, [], [], lkS [], 9⟩
theorem Qj.hC : CxOK Tryz.prog Qj.C := ⟨tabOK, FsOK.cons Q3.ok (FsOK.nil), OsOK.nil, mixed, (fun t h => by cases h), (fun t e h => by cases h), SsOK.nil⟩
def Qj.root : Code := bodyOf Tryz.f128
theorem Qj.ok : FnOK Tryz.prog 128 Qj.fn :=
 FnOK.of (L := lkL []) (root := Qj.root) Qj.hC (enters_of (c := Qj.root) Tryz.func128 (by kernel_rfl) (by kernel_rfl)) Tryz.func128 (by kernel_rfl) (rs := [.tmp 4]) (by kernel_rfl) (by kernel_rfl) LsOK.nil (fun x => by kernel_rfl)
def Q2u.f (a0 : (ByteArray × (ByteArray × ((List ByteArray) × (Int × Int))))) (a1 : ByteArray) (a2 : Int) : Option Bool :=
 (cb (decide (a0.2.2.2.1 ≤ a2)) (cb (decide (a2 < a0.2.2.2.2)) (ob (Qj.f a0.2.2.1 a1) fun r1 => (some r1)) (some false)) (some false))
def Q2u.fn : TFn := ⟨[(.pair .str (.pair .str (.pair (.slice .str) (.pair (.int .i64) (.int .i64))))), .str, (.int .i64)], [.bool], fun x => Q2u.f x.1 x.2.1 x.2.2⟩
def Q2u.C : Cx := ⟨T, TYt, lkF [((128, [0, 131]), Qj.fn)], lkO [], lkD [], lkP [], [3], [], false, [], [], lkS [], 23⟩
theorem Q2u.hC : CxOK Tryz.prog Q2u.C := ⟨tabOK, FsOK.cons Qj.ok (FsOK.nil), OsOK.nil, mixed, (fun t h => by cases h), (fun t e h => by cases h), SsOK.nil⟩
def Q2u.root : Code := bodyOf Tryz.f78
theorem Q2u.ok : FnOK Tryz.prog 78 Q2u.fn :=
 FnOK.of (L := lkL []) (root := Q2u.root) Q2u.hC (enters_of (c := Q2u.root) Tryz.func78 (by kernel_rfl) (by kernel_rfl)) Tryz.func78 (by kernel_rfl) (rs := [.tmp 6]) (by kernel_rfl) (by kernel_rfl) LsOK.nil (fun x => by kernel_rfl)
def Q2o.f (a0 : (List (ByteArray × (ByteArray × ((List ByteArray) × (Int × Int)))))) (a1 : ByteArray) (a2 : ByteArray) (a3 : Int) : Option (Bool × Int) :=
 (ob (Qi.f a0) fun r1 => (cb (!decide (r1 = (0 : Int))) (some (false, r1)) (ob (Q1u.f a1) fun r2 => (cb (!r2) (some (false, (5 : Int))) (ob (Q1n.f a2) fun r3 => (cb (!r3) (some (false, (10 : Int))) (ob (Q1e.f a3 (0 : Int) (1000000000 : Int)) fun r4 => (cb (!r4) (some (false, (1 : Int))) (ob (Q2r.f a0 a1) fun r5 => (cb r5.2 (ob (Q2u.f r5.1 a2 a3) fun r6 => (some (r6, (0 : Int)))) (some (false, (0 : Int)))))))))))))
def Q2o.fn : TFn := ⟨[(.slice (.pair .str (.pair .str (.pair (.slice .str) (.pair (.int .i64) (.int .i64)))))), .str, .str, (.int .i64)], [.bool, (.int .i64)], fun x => Q2o.f x.1 x.2.1 x.2.2.1 x.2.2.2⟩
def Q2o.C : Cx := ⟨T, TYt, lkF [((70, [0, 0, 0]), Q1e.fn), ((72, [0, 0]), Q2r.fn), ((75, [0]), Qi.fn), ((76, [0]), Q1u.fn), ((77, [0]), Q1n.fn), ((78, [0, 0, 0]), Q2u.fn)], lkO [], lkD [], lkP [], [11], [], false, [], [], lkS [], 43⟩
theorem Q2o.hC : CxOK Tryz.prog Q2o.C := ⟨tabOK, FsOK.cons Q1e.ok (FsOK.cons Q2r.ok (FsOK.cons Qi.ok (FsOK.cons Q1u.ok (FsOK.cons Q1n.ok (FsOK.cons Q2u.ok (FsOK.nil)))))), OsOK.nil, mixed, (fun t h => by cases h), (fun t e h => by cases h), SsOK.nil⟩
def Q2o.root : Code := bodyOf Tryz.f23
theorem Q2o.ok : FnOK Tryz.prog 23 Q2o.fn :=
 FnOK.of (L := lkL []) (root := Q2o.root) Q2o.hC (enters_of (c := Q2o.root) Tryz.func23 (by kernel_rfl) (by kernel_rfl)) Tryz.func23 (by kernel_rfl) (rs := [.tmp 8, .tmp 9]) (by kernel_rfl) (by kernel_rfl) LsOK.nil (fun x => by kernel_rfl)
def Q2k.f : Option Bool :=
 (ob (Q2o.f ([(Q30, (Q32, (([Q2i] : List ByteArray), ((0 : Int), (5 : Int)))))] : List (ByteArray × (ByteArray × ((List ByteArray) × (Int × Int))))) Q30 Q1h (4 : Int)) fun r1 => (ob (Q2o.f ([(Q30, (Q32, (([Q2i] : List ByteArray), ((0 : Int), (5 : Int)))))] : List (ByteArray × (ByteArray × ((List ByteArray) × (Int × Int))))) Q30 Q1h (5 : Int)) fun r2 => (cb (decide (r1.2 = (0 : Int))) (cb (decide (r2.2 = (0 : Int))) (cb r1.1 (some (!r2.1)) (some false)) (some false)) (some false))))
def Q2k.fn : TFn := ⟨[], [.bool], fun x => Q2k.f⟩
def Q2k.C : Cx := ⟨T, TYt, lkF [((23, [0, 0, 0, 0]), Q2o.fn)], lkO [], lkD [], lkP [], [], [], false, [], [], lkS [], 32⟩
theorem Q2k.hC : CxOK Tryz.prog Q2k.C := ⟨tabOK, FsOK.cons Q2o.ok (FsOK.nil), OsOK.nil, mixed, (fun t h => by cases h), (fun t e h => by cases h), SsOK.nil⟩
def Q2k.root : Code := bodyOf Tryz.f20
theorem Q2k.ok : FnOK Tryz.prog 20 Q2k.fn :=
 FnOK.of (L := lkL []) (root := Q2k.root) Q2k.hC (enters_of (c := Q2k.root) Tryz.func20 (by kernel_rfl) (by kernel_rfl)) Tryz.func20 (by kernel_rfl) (rs := [.tmp 0]) (by kernel_rfl) (by kernel_rfl) LsOK.nil (fun x => by kernel_rfl)
def Q8.s0 (v0_0 : (List ByteArray)) (v0_1 : (List ByteArray)) (v0_12 : Int) (x0_13 : Int) : Option (Int ⊕ (Bool ⊕ Unit)) :=
 (cb (decide (x0_13 < v0_12)) (ck (0 ≤ x0_13 ∧ x0_13 < ((List.length v0_0 : Nat) : Int)) (let y6 : ByteArray := (rd ByteArray.empty v0_0 x0_13); (ck (0 ≤ x0_13 ∧ x0_13 < ((List.length v0_1 : Nat) : Int)) (let y7 : ByteArray := (rd ByteArray.empty v0_1 x0_13); (cb (!decide (y6 = y7)) (some (.inr (.inl false))) (ck (InR (x0_13 + (1 : Int))) (some (.inl (x0_13 + (1 : Int)))))))))) (some (.inr (.inr ()))))
def Q8.l0 (v0_0 : (List ByteArray)) (v0_1 : (List ByteArray)) (v0_12 : Int) (x0_13 : Int) : Option (Bool ⊕ Unit) :=
 loopX (fun (x : Int) => Q8.s0 v0_0 v0_1 v0_12 x) x0_13
def Q8.e0 : Ent where
 pre := []
 inv := [(0, .val (.slice .str)), (1, .val (.slice .str)), (12, .val (.int .i64))]
 car := ⟨[(13, .val (.int .i64))], []⟩
 exits := [(.ret, ⟨[(4, .val .bool)], []⟩), (.exit 0, ⟨[], []⟩)]
 step := fun iv x => Q8.s0 iv.1 iv.2.1 iv.2.2 x
def Q8.f (a0 : (List ByteArray)) (a1 : (List ByteArray)) : Option Bool :=
 (let y1 : Int := ((List.length a0 : Nat) : Int); (let y2 : Int := ((List.length a1 : Nat) : Int); (cb (!decide (y1 = y2)) (some false) (let y3 : Int := ((List.length a0 : Nat) : Int); (ob (Q8.l0 a0 a1 y3 (0 : Int)) fun r8 => (caseS r8 (fun a9 => (some a9)) (fun b10 => (some true))))))))
def Q8.fn : TFn := ⟨[(.slice .str), (.slice .str)], [.bool], fun x => Q8.f x.1 x.2⟩
def Q8.C : Cx := ⟨T, TYt, lkF [], lkO [], lkD [(6, 8, [(0, true), (1, true), (2, true), (3, true), (4, true), (5, true), (6, true), (7, true)], none)], lkP [], [], [], false, [], [], lkS [], 26⟩
theorem Q8.hC : CxOK Tryz.prog Q8.C := ⟨tabOK, FsOK.nil, OsOK.nil, mixed, (fun t h => by cases h), (fun t e h => by cases h), SsOK.nil⟩
def Q8.root : Code := bodyOf Tryz.f38
theorem Q8.h0 : LsOK Tryz.prog Q8.C Q8.root (lkL [([0, 1, 0, 1, 1], Q8.e0)]) :=
 LsOK.cons Q8.hC (LsOK.nil) (by kernel_rfl) (fun iv x => by kernel_rfl)
theorem Q8.ok : FnOK Tryz.prog 38 Q8.fn :=
 FnOK.of (L := lkL [([0, 1, 0, 1, 1], Q8.e0)]) (root := Q8.root) Q8.hC (enters_of (c := Q8.root) Tryz.func38 (by kernel_rfl) (by kernel_rfl)) Tryz.func38 (by kernel_rfl) (rs := [.tmp 4]) (by kernel_rfl) (by kernel_rfl) Q8.h0 (fun x => by kernel_rfl)
def Q12.f (a0 : (List ByteArray)) : Option (List ByteArray) :=
 (nq (¬ a0 = ([] : List ByteArray)) (ck ((List.length ([] : List ByteArray) + List.length a0) * 16 ≤ 140737488355328) (some (([] : List ByteArray) ++ a0))) (some ([] : List ByteArray)))
def Q12.fn : TFn := ⟨[(.slice .str)], [(.slice .str)], fun x => Q12.f x⟩
def Q12.C : Cx := ⟨T, TYt, lkF [], lkO [], lkD [], lkP [], [], [], false, [], [], lkS [], 8⟩
theorem Q12.hC : CxOK Tryz.prog Q12.C := ⟨tabOK, FsOK.nil, OsOK.nil, mixed, (fun t h => by cases h), (fun t e h => by cases h), SsOK.nil⟩
def Q12.root : Code := bodyOf Tryz.f73
theorem Q12.ok : FnOK Tryz.prog 73 Q12.fn :=
 FnOK.of (L := lkL []) (root := Q12.root) Q12.hC (enters_of (c := Q12.root) Tryz.func73 (by kernel_rfl) (by kernel_rfl)) Tryz.func73 (by kernel_rfl) (rs := [.tmp 2]) (by kernel_rfl) (by kernel_rfl) LsOK.nil (fun x => by kernel_rfl)
def Q1y.f (a0 : (ByteArray × (ByteArray × (ByteArray × (ByteArray × (Int × ((List ByteArray) × ByteArray))))))) : Option (ByteArray × (ByteArray × (ByteArray × (ByteArray × (Int × ((List ByteArray) × ByteArray)))))) :=
 (ob (Q12.f a0.2.2.2.2.2.1) fun r1 => (some (a0.1, (a0.2.1, (a0.2.2.1, (a0.2.2.2.1, (a0.2.2.2.2.1, (r1, a0.2.2.2.2.2.2))))))))
def Q1y.fn : TFn := ⟨[(.pair .str (.pair .str (.pair .str (.pair .str (.pair (.int .i64) (.pair (.slice .str) .str))))))], [(.pair .str (.pair .str (.pair .str (.pair .str (.pair (.int .i64) (.pair (.slice .str) .str))))))], fun x => Q1y.f x⟩
def Q1y.C : Cx := ⟨T, TYt, lkF [((73, [0]), Q12.fn)], lkO [], lkD [], lkP [], [], [], false, [], [], lkS [], 8⟩
theorem Q1y.hC : CxOK Tryz.prog Q1y.C := ⟨tabOK, FsOK.cons Q12.ok (FsOK.nil), OsOK.nil, mixed, (fun t h => by cases h), (fun t e h => by cases h), SsOK.nil⟩
def Q1y.root : Code := bodyOf Tryz.f27
theorem Q1y.ok : FnOK Tryz.prog 27 Q1y.fn :=
 FnOK.of (L := lkL []) (root := Q1y.root) Q1y.hC (enters_of (c := Q1y.root) Tryz.func27 (by kernel_rfl) (by kernel_rfl)) Tryz.func27 (by kernel_rfl) (rs := [.cell 2 34]) (by kernel_rfl) (by kernel_rfl) LsOK.nil (fun x => by kernel_rfl)
def Q1p.s0 (v0_6 : (List (ByteArray × (ByteArray × (ByteArray × (ByteArray × (Int × ((List ByteArray) × ByteArray)))))))) (v0_7 : Int) (x0_8 : Int) (o0_0 : (List (ByteArray × (ByteArray × (ByteArray × (ByteArray × (Int × ((List ByteArray) × ByteArray)))))))) : Option ((Int × (List (ByteArray × (ByteArray × (ByteArray × (ByteArray × (Int × ((List ByteArray) × ByteArray)))))))) ⊕ (List (ByteArray × (ByteArray × (ByteArray × (ByteArray × (Int × ((List ByteArray) × ByteArray)))))))) :=
 (cb (decide (x0_8 < v0_7)) (ck (0 ≤ x0_8 ∧ x0_8 < ((List.length v0_6 : Nat) : Int)) (let y4 : (ByteArray × (ByteArray × (ByteArray × (ByteArray × (Int × ((List ByteArray) × ByteArray)))))) := (rd (ByteArray.empty, (ByteArray.empty, (ByteArray.empty, (ByteArray.empty, ((0 : Int), (([] : (List ByteArray)), ByteArray.empty)))))) v0_6 x0_8); (ob (Q1y.f y4) fun r5 => (ck ((List.length o0_0 + List.length ([r5] : List (ByteArray × (ByteArray × (ByteArray × (ByteArray × (Int × ((List ByteArray) × ByteArray)))))))) * 112 ≤ 140737488355328) (ck (InR (x0_8 + (1 : Int))) (some (.inl ((x0_8 + (1 : Int)), (o0_0 ++ ([r5] : List (ByteArray × (ByteArray × (ByteArray × (ByteArray × (Int × ((List ByteArray) × ByteArray)))))))))))))))) (some (.inr o0_0)))
def Q1p.l0 (v0_6 : (List (ByteArray × (ByteArray × (ByteArray × (ByteArray × (Int × ((List ByteArray) × ByteArray)))))))) (v0_7 : Int) (x0_8 : Int) (o0_0 : (List (ByteArray × (ByteArray × (ByteArray × (ByteArray × (Int × ((List ByteArray) × ByteArray)))))))) : Option (List (ByteArray × (ByteArray × (ByteArray × (ByteArray × (Int × ((List ByteArray) × ByteArray))))))) :=
 loopX (fun (x : (Int × (List (ByteArray × (ByteArray × (ByteArray × (ByteArray × (Int × ((List ByteArray) × ByteArray))))))))) => Q1p.s0 v0_6 v0_7 x.1 x.2) (x0_8, o0_0)
def Q1p.e0 : Ent where
 pre := [.nil 3 34 (.pair .str (.pair .str (.pair .str (.pair .str (.pair (.int .i64) (.pair (.slice .str) .str))))))]
 inv := [(6, .val (.slice (.pair .str (.pair .str (.pair .str (.pair .str (.pair (.int .i64) (.pair (.slice .str) .str)))))))), (7, .val (.int .i64))]
 car := ⟨[(3, .own 0 7), (8, .val (.int .i64))], [.row 34 (.pair .str (.pair .str (.pair .str (.pair .str (.pair (.int .i64) (.pair (.slice .str) .str))))))]⟩
 exits := [(.exit 0, ⟨[(3, .own 0 7)], [.row 34 (.pair .str (.pair .str (.pair .str (.pair .str (.pair (.int .i64) (.pair (.slice .str) .str))))))]⟩)]
 step := fun iv x => Q1p.s0 iv.1 iv.2 x.1 x.2
def Q1p.f (a0 : (List (ByteArray × (ByteArray × (ByteArray × (ByteArray × (Int × ((List ByteArray) × ByteArray)))))))) : Option (List (ByteArray × (ByteArray × (ByteArray × (ByteArray × (Int × ((List ByteArray) × ByteArray))))))) :=
 (let y1 : Int := ((List.length a0 : Nat) : Int); (ob (Q1p.l0 a0 y1 (0 : Int) ([] : List (ByteArray × (ByteArray × (ByteArray × (ByteArray × (Int × ((List ByteArray) × ByteArray)))))))) fun r6 => (some r6)))
def Q1p.fn : TFn := ⟨[(.slice (.pair .str (.pair .str (.pair .str (.pair .str (.pair (.int .i64) (.pair (.slice .str) .str)))))))], [(.slice (.pair .str (.pair .str (.pair .str (.pair .str (.pair (.int .i64) (.pair (.slice .str) .str)))))))], fun x => Q1p.f x⟩
def Q1p.C : Cx := ⟨T, TYt, lkF [((27, [0]), Q1y.fn)], lkO [], lkD [], lkP [], [5], [], false, [], [], lkS [], 19⟩
theorem Q1p.hC : CxOK Tryz.prog Q1p.C := ⟨tabOK, FsOK.cons Q1y.ok (FsOK.nil), OsOK.nil, mixed, (fun t h => by cases h), (fun t e h => by cases h), SsOK.nil⟩
def Q1p.root : Code := bodyOf Tryz.f34
theorem Q1p.h0 : LsOK Tryz.prog Q1p.C Q1p.root (lkL [([0, 1, 0, 1, 1], Q1p.e0)]) :=
 LsOK.cons Q1p.hC (LsOK.nil) (by kernel_rfl) (fun iv x => by kernel_rfl)
theorem Q1p.ok : FnOK Tryz.prog 34 Q1p.fn :=
 FnOK.of (L := lkL [([0, 1, 0, 1, 1], Q1p.e0)]) (root := Q1p.root) Q1p.hC (enters_of (c := Q1p.root) Tryz.func34 (by kernel_rfl) (by kernel_rfl)) Tryz.func34 (by kernel_rfl) (rs := [.tmp 2]) (by kernel_rfl) (by kernel_rfl) Q1p.h0 (fun x => by kernel_rfl)
def Qs.f (a0 : (List (Int × (ByteArray × Int)))) : Option (List (Int × (ByteArray × Int))) :=
 (nq (¬ a0 = ([] : List (Int × (ByteArray × Int)))) (ck ((List.length ([] : List (Int × (ByteArray × Int))) + List.length a0) * 32 ≤ 140737488355328) (some (([] : List (Int × (ByteArray × Int))) ++ a0))) (some ([] : List (Int × (ByteArray × Int)))))
def Qs.fn : TFn := ⟨[(.slice (.pair (.int .i64) (.pair .str (.int .i64))))], [(.slice (.pair (.int .i64) (.pair .str (.int .i64))))], fun x => Qs.f x⟩
def Qs.C : Cx := ⟨T, TYt, lkF [], lkO [], lkD [], lkP [], [], [], false, [], [], lkS [], 8⟩
theorem Qs.hC : CxOK Tryz.prog Qs.C := ⟨tabOK, FsOK.nil, OsOK.nil, mixed, (fun t h => by cases h), (fun t e h => by cases h), SsOK.nil⟩
def Qs.root : Code := bodyOf Tryz.f49
theorem Qs.ok : FnOK Tryz.prog 49 Qs.fn :=
 FnOK.of (L := lkL []) (root := Qs.root) Qs.hC (enters_of (c := Qs.root) Tryz.func49 (by kernel_rfl) (by kernel_rfl)) Tryz.func49 (by kernel_rfl) (rs := [.tmp 2]) (by kernel_rfl) (by kernel_rfl) LsOK.nil (fun x => by kernel_rfl)
def Qo.s0 (v0_8 : (List UInt8)) (v0_9 : Int) (x0_3 : Int) (x0_10 : Int) : Option ((Int × Int) ⊕ Int) :=
 (cb (decide (x0_10 < v0_9)) (ck (0 ≤ x0_10 ∧ x0_10 < ((List.length v0_8 : Nat) : Int)) (let y6 : UInt8 := (rd (0 : UInt8) v0_8 x0_10); (let y7 : Int := (IntKind.u64.wrap ((UInt8.toNat y6 : Nat) : Int)); (let y8 : Int := (IntKind.u64.wrap ((BitVec.toNat (BitVec.ofInt (IntKind.bits .u64) x0_3 ^^^ BitVec.ofInt (IntKind.bits .u64) y7) : Nat) : Int)); (let y9 : Int := (IntKind.u64.wrap (y8 * (1099511628211 : Int))); (ck (InR (x0_10 + (1 : Int))) (some (.inl (y9, (x0_10 + (1 : Int))))))))))) (some (.inr x0_3)))
def Qo.l0 (v0_8 : (List UInt8)) (v0_9 : Int) (x0_3 : Int) (x0_10 : Int) : Option Int :=
 loopX (fun (x : (Int × Int)) => Qo.s0 v0_8 v0_9 x.1 x.2) (x0_3, x0_10)
def Qo.e0 : Ent where
 pre := []
 inv := [(8, .val (.slice .byte)), (9, .val (.int .i64))]
 car := ⟨[(3, .val (.int .u64)), (10, .val (.int .i64))], []⟩
 exits := [(.exit 0, ⟨[(3, .val (.int .u64))], []⟩)]
 step := fun iv x => Qo.s0 iv.1 iv.2 x.1 x.2
def Qo.s1 (v1_22 : Int) (x1_3 : Int) (x1_23 : Int) (o1_0 : (List UInt8)) : Option ((Int × (Int × (List UInt8))) ⊕ (List UInt8)) :=
 (cb (decide (x1_23 < v1_22)) (ck (InR ((15 : Int) - x1_23)) (let y15 : Int := (IntKind.u64.wrap ((BitVec.toNat (BitVec.ofInt (IntKind.bits .u64) x1_3 &&& BitVec.ofInt (IntKind.bits .u64) (15 : Int)) : Nat) : Int)); (ck (0 ≤ y15 ∧ y15 < ((ByteArray.size Qf : Nat) : Int)) (let y16 : UInt8 := (bt Qf y15); (ck (0 ≤ ((15 : Int) - x1_23) ∧ ((15 : Int) - x1_23) < ((List.length o1_0 : Nat) : Int)) (ck ((Int.toNat ((15 : Int) - x1_23)) < List.length o1_0) (let y17 : Int := (Int.fdiv x1_3 (2 ^ min (Int.toNat (4 : Int)) (IntKind.bits .u64))); (ck (InR (x1_23 + (1 : Int))) (some (.inl (y17, (x1_23 + (1 : Int)), (List.set o1_0 (Int.toNat ((15 : Int) - x1_23)) y16)))))))))))) (some (.inr o1_0)))
def Qo.l1 (v1_22 : Int) (x1_3 : Int) (x1_23 : Int) (o1_0 : (List UInt8)) : Option (List UInt8) :=
 loopX (fun (x : (Int × (Int × (List UInt8)))) => Qo.s1 v1_22 x.1 x.2.1 x.2.2) (x1_3, x1_23, o1_0)
def Qo.e1 : Ent where
 pre := []
 inv := [(22, .val (.int .i64))]
 car := ⟨[(3, .val (.int .u64)), (6, .own 0 1), (23, .val (.int .i64))], [.row 5 .byte]⟩
 exits := [(.exit 2, ⟨[(6, .own 0 1)], [.row 5 .byte]⟩)]
 step := fun iv x => Qo.s1 iv x.1 x.2.1 x.2.2
def Qo.f (a0 : (List UInt8)) : Option ByteArray :=
 (let y1 : Int := ((List.length a0 : Nat) : Int); (ob (Qo.l0 a0 y1 (14695981039346656037 : Int) (0 : Int)) fun r10 => (ck (0 ≤ (16 : Int) ∧ (16 : Int) * (1 : Int) ≤ 140737488355328) (let y11 : Int := ((List.length (List.replicate (Int.toNat (16 : Int)) (0 : UInt8)) : Nat) : Int); (ob (Qo.l1 y11 r10 (0 : Int) (List.replicate (Int.toNat (16 : Int)) (0 : UInt8))) fun r18 => (some (bstr r18)))))))
def Qo.fn : TFn := ⟨[(.slice .byte)], [.str], fun x => Qo.f x⟩
def Qo.C : Cx := ⟨T, TYt, lkF [], lkO [], lkD [], lkP [], [], [], false, [], [], lkS [], 38⟩
theorem Qo.hC : CxOK Tryz.prog Qo.C := ⟨tabOK, FsOK.nil, OsOK.nil, mixed, (fun t h => by cases h), (fun t e h => by cases h), SsOK.nil⟩
def Qo.root : Code := bodyOf Tryz.f119
theorem Qo.h0 : LsOK Tryz.prog Qo.C Qo.root (lkL [([0, 1, 0, 1, 1], Qo.e0)]) :=
 LsOK.cons Qo.hC (LsOK.nil) (by kernel_rfl) (fun iv x => by kernel_rfl)
theorem Qo.h1 : LsOK Tryz.prog Qo.C Qo.root (lkL [([0, 1, 0, 1, 1, 1, 1], Qo.e1), ([0, 1, 0, 1, 1], Qo.e0)]) :=
 LsOK.cons Qo.hC (Qo.h0) (by kernel_rfl) (fun iv x => by kernel_rfl)
theorem Qo.ok : FnOK Tryz.prog 119 Qo.fn :=
 FnOK.of (L := lkL [([0, 1, 0, 1, 1, 1, 1], Qo.e1), ([0, 1, 0, 1, 1], Qo.e0)]) (root := Qo.root) Qo.hC (enters_of (c := Qo.root) Tryz.func119 (by kernel_rfl) (by kernel_rfl)) Tryz.func119 (by kernel_rfl) (rs := [.tmp 2]) (by kernel_rfl) (by kernel_rfl) Qo.h1 (fun x => by kernel_rfl)
def Qe.f (a0 : UInt8) : Option UInt8 :=
 (let y1 : UInt8 := (UInt8.ofInt (IntKind.u8.wrap ((BitVec.toNat (BitVec.ofInt (IntKind.bits .u8) ((UInt8.toNat a0 : Nat) : Int) ||| BitVec.ofInt (IntKind.bits .u8) (32 : Int)) : Nat) : Int))); (some y1))
def Qe.fn : TFn := ⟨[.byte], [.byte], fun x => Qe.f x⟩
def Qe.C : Cx := ⟨T, TYt, lkF [], lkO [], lkD [], lkP [], [], [], false, [], [], lkS [], 5⟩
theorem Qe.hC : CxOK Tryz.prog Qe.C := ⟨tabOK, FsOK.nil, OsOK.nil, mixed, (fun t h => by cases h), (fun t e h => by cases h), SsOK.nil⟩
def Qe.root : Code := bodyOf Tryz.f219
theorem Qe.ok : FnOK Tryz.prog 219 Qe.fn :=
 FnOK.of (L := lkL []) (root := Qe.root) Qe.hC (enters_of (c := Qe.root) Tryz.func219 (by kernel_rfl) (by kernel_rfl)) Tryz.func219 (by kernel_rfl) (rs := [.tmp 2]) (by kernel_rfl) (by kernel_rfl) LsOK.nil (fun x => by kernel_rfl)
def Q7.s0 (v0_0 : ByteArray) (v0_5 : Bool) (x0_3 : Int) (x0_4 : Int) : Option ((Int × Int) ⊕ (Bool ⊕ Int)) :=
 (let y11 : Int := ((ByteArray.size v0_0 : Nat) : Int); (cb (decide (x0_4 < y11)) (ck (0 ≤ x0_4 ∧ x0_4 < ((ByteArray.size v0_0 : Nat) : Int)) (cb (decide ((48 : Int) ≤ ((UInt8.toNat (bt v0_0 x0_4) : Nat) : Int))) (ck (0 ≤ x0_4 ∧ x0_4 < ((ByteArray.size v0_0 : Nat) : Int)) (cb (decide (((UInt8.toNat (bt v0_0 x0_4) : Nat) : Int) ≤ (57 : Int))) (ck (InR (x0_4 + (1 : Int))) (some (.inl ((48 : Int), (x0_4 + (1 : Int)))))) (cb v0_5 (ck (0 ≤ x0_4 ∧ x0_4 < ((ByteArray.size v0_0 : Nat) : Int)) (ob (Qe.f (bt v0_0 x0_4)) fun r12 => (cb (decide ((97 : Int) ≤ ((UInt8.toNat r12 : Nat) : Int))) (ck (0 ≤ x0_4 ∧ x0_4 < ((ByteArray.size v0_0 : Nat) : Int)) (ob (Qe.f (bt v0_0 x0_4)) fun r13 => (cb (decide (((UInt8.toNat r13 : Nat) : Int) ≤ (102 : Int))) (ck (InR (x0_4 + (1 : Int))) (some (.inl ((48 : Int), (x0_4 + (1 : Int)))))) (ck (0 ≤ x0_4 ∧ x0_4 < ((ByteArray.size v0_0 : Nat) : Int)) (cb (decide (((UInt8.toNat (bt v0_0 x0_4) : Nat) : Int) = (95 : Int))) (cb (!decide (x0_3 = (48 : Int))) (some (.inr (.inl false))) (ck (InR (x0_4 + (1 : Int))) (some (.inl ((95 : Int), (x0_4 + (1 : Int))))))) (cb (decide (x0_3 = (95 : Int))) (some (.inr (.inl false))) (ck (InR (x0_4 + (1 : Int))) (some (.inl ((33 : Int), (x0_4 + (1 : Int)))))))))))) (ck (0 ≤ x0_4 ∧ x0_4 < ((ByteArray.size v0_0 : Nat) : Int)) (cb (decide (((UInt8.toNat (bt v0_0 x0_4) : Nat) : Int) = (95 : Int))) (cb (!decide (x0_3 = (48 : Int))) (some (.inr (.inl false))) (ck (InR (x0_4 + (1 : Int))) (some (.inl ((95 : Int), (x0_4 + (1 : Int))))))) (cb (decide (x0_3 = (95 : Int))) (some (.inr (.inl false))) (ck (InR (x0_4 + (1 : Int))) (some (.inl ((33 : Int), (x0_4 + (1 : Int)))))))))))) (ck (0 ≤ x0_4 ∧ x0_4 < ((ByteArray.size v0_0 : Nat) : Int)) (cb (decide (((UInt8.toNat (bt v0_0 x0_4) : Nat) : Int) = (95 : Int))) (cb (!decide (x0_3 = (48 : Int))) (some (.inr (.inl false))) (ck (InR (x0_4 + (1 : Int))) (some (.inl ((95 : Int), (x0_4 + (1 : Int))))))) (cb (decide (x0_3 = (95 : Int))) (some (.inr (.inl false))) (ck (InR (x0_4 + (1 : Int))) (some (.inl ((33 : Int), (x0_4 + (1 : Int)))))))))))) (cb v0_5 (ck (0 ≤ x0_4 ∧ x0_4 < ((ByteArray.size v0_0 : Nat) : Int)) (ob (Qe.f (bt v0_0 x0_4)) fun r14 => (cb (decide ((97 : Int) ≤ ((UInt8.toNat r14 : Nat) : Int))) (ck (0 ≤ x0_4 ∧ x0_4 < ((ByteArray.size v0_0 : Nat) : Int)) (ob (Qe.f (bt v0_0 x0_4)) fun r15 => (cb (decide (((UInt8.toNat r15 : Nat) : Int) ≤ (102 : Int))) (ck (InR (x0_4 + (1 : Int))) (some (.inl ((48 : Int), (x0_4 + (1 : Int)))))) (ck (0 ≤ x0_4 ∧ x0_4 < ((ByteArray.size v0_0 : Nat) : Int)) (cb (decide (((UInt8.toNat (bt v0_0 x0_4) : Nat) : Int) = (95 : Int))) (cb (!decide (x0_3 = (48 : Int))) (some (.inr (.inl false))) (ck (InR (x0_4 + (1 : Int))) (some (.inl ((95 : Int), (x0_4 + (1 : Int))))))) (cb (decide (x0_3 = (95 : Int))) (some (.inr (.inl false))) (ck (InR (x0_4 + (1 : Int))) (some (.inl ((33 : Int), (x0_4 + (1 : Int)))))))))))) (ck (0 ≤ x0_4 ∧ x0_4 < ((ByteArray.size v0_0 : Nat) : Int)) (cb (decide (((UInt8.toNat (bt v0_0 x0_4) : Nat) : Int) = (95 : Int))) (cb (!decide (x0_3 = (48 : Int))) (some (.inr (.inl false))) (ck (InR (x0_4 + (1 : Int))) (some (.inl ((95 : Int), (x0_4 + (1 : Int))))))) (cb (decide (x0_3 = (95 : Int))) (some (.inr (.inl false))) (ck (InR (x0_4 + (1 : Int))) (some (.inl ((33 : Int), (x0_4 + (1 : Int)))))))))))) (ck (0 ≤ x0_4 ∧ x0_4 < ((ByteArray.size v0_0 : Nat) : Int)) (cb (decide (((UInt8.toNat (bt v0_0 x0_4) : Nat) : Int) = (95 : Int))) (cb (!decide (x0_3 = (48 : Int))) (some (.inr (.inl false))) (ck (InR (x0_4 + (1 : Int))) (some (.inl ((95 : Int), (x0_4 + (1 : Int))))))) (cb (decide (x0_3 = (95 : Int))) (some (.inr (.inl false))) (ck (InR (x0_4 + (1 : Int))) (some (.inl ((33 : Int), (x0_4 + (1 : Int)))))))))))) (some (.inr (.inr x0_3)))))
def Q7.l0 (v0_0 : ByteArray) (v0_5 : Bool) (x0_3 : Int) (x0_4 : Int) : Option (Bool ⊕ Int) :=
 loopX (fun (x : (Int × Int)) => Q7.s0 v0_0 v0_5 x.1 x.2) (x0_3, x0_4)
def Q7.e0 : Ent where
 pre := []
 inv := [(0, .val .str), (5, .val .bool)]
 car := ⟨[(3, .val (.int .i32)), (4, .val (.int .i64))], []⟩
 exits := [(.ret, ⟨[(2, .val .bool)], []⟩), (.exit 0, ⟨[(3, .val (.int .i32))], []⟩)]
 step := fun iv x => Q7.s0 iv.1 iv.2 x.1 x.2
def Q7.C : Cx := ⟨T, TYt, lkF [((219, [0]), Qe.fn)], lkO [], lkD [], lkP [], [], [], false, [], [], lkS [], 94⟩
theorem Q7.hC : CxOK Tryz.prog Q7.C := ⟨tabOK, FsOK.cons Qe.ok (FsOK.nil), OsOK.nil, mixed, (fun t h => by cases h), (fun t e h => by cases h), SsOK.nil⟩
def Q7.root : Code := bodyOf Tryz.f220
def Q7.fn : TFn := ⟨[.str], [.bool], fun x => exF Q7.C (lkL [([0, 0, 1, 1, 1, 1, 1, 1], Q7.e0)]) Q7.root [] (retK Q7.C [.bool] [.tmp 2]) (startS [.str] x)⟩
def Q7.f (a0 : ByteArray) : Option Bool := Q7.fn.run a0
theorem Q7.h0 : LsOK Tryz.prog Q7.C Q7.root (lkL [([0, 0, 1, 1, 1, 1, 1, 1], Q7.e0)]) :=
 LsOK.cons Q7.hC (LsOK.nil) (by kernel_rfl) (fun iv x => by kernel_rfl)
theorem Q7.ok : FnOK Tryz.prog 220 Q7.fn :=
 FnOK.of (L := lkL [([0, 0, 1, 1, 1, 1, 1, 1], Q7.e0)]) (root := Q7.root) Q7.hC (enters_of (c := Q7.root) Tryz.func220 (by kernel_rfl) (by kernel_rfl)) Tryz.func220 (by kernel_rfl) (rs := [.tmp 2]) (by kernel_rfl) (by kernel_rfl) Q7.h0 (fun x => rfl)
def Q4.s0 (v0_1 : Int) (v0_8 : Bool) (v0_10 : Int) (v0_11 : Int) (v0_99 : (List UInt8)) (v0_100 : Int) (x0_12 : Bool) (x0_13 : Int) (x0_101 : Int) : Option ((Bool × (Int × Int)) ⊕ (Bool × Int)) :=
 (cb (decide (x0_101 < v0_100)) (ck (0 ≤ x0_101 ∧ x0_101 < ((List.length v0_99 : Nat) : Int)) (let y53 : UInt8 := (rd (0 : UInt8) v0_99 x0_101); (cb (decide (((UInt8.toNat y53 : Nat) : Int) = (95 : Int))) (cb v0_8 (ck (InR (x0_101 + (1 : Int))) (some (.inl (true, x0_13, (x0_101 + (1 : Int)))))) (cb (decide ((48 : Int) ≤ ((UInt8.toNat y53 : Nat) : Int))) (cb (decide (((UInt8.toNat y53 : Nat) : Int) ≤ (57 : Int))) (let y54 : UInt8 := (UInt8.ofInt (((UInt8.toNat y53 : Nat) : Int) - (48 : Int))); (let y55 : UInt8 := (UInt8.ofInt (IntKind.u8.wrap v0_1)); (cb (decide (((UInt8.toNat y55 : Nat) : Int) ≤ ((UInt8.toNat y54 : Nat) : Int))) none (cb (decide (v0_10 ≤ x0_13)) none (let y56 : Int := (IntKind.u64.wrap (x0_13 * (IntKind.u64.wrap v0_1))); (let y57 : Int := (IntKind.u64.wrap ((UInt8.toNat y54 : Nat) : Int)); (let y58 : Int := (IntKind.u64.wrap (y56 + y57)); (cb (decide (y58 < y56)) none (cb (decide (v0_11 < y58)) none (ck (InR (x0_101 + (1 : Int))) (some (.inl (x0_12, y58, (x0_101 + (1 : Int))))))))))))))) (ob (Qe.f y53) fun r59 => (cb (decide ((97 : Int) ≤ ((UInt8.toNat r59 : Nat) : Int))) (ob (Qe.f y53) fun r60 => (cb (decide (((UInt8.toNat r60 : Nat) : Int) ≤ (122 : Int))) (ob (Qe.f y53) fun r61 => (let y62 : UInt8 := (UInt8.ofInt (((UInt8.toNat r61 : Nat) : Int) - (97 : Int))); (let y63 : UInt8 := (UInt8.ofInt (((UInt8.toNat y62 : Nat) : Int) + (10 : Int))); (let y64 : UInt8 := (UInt8.ofInt (IntKind.u8.wrap v0_1)); (cb (decide (((UInt8.toNat y64 : Nat) : Int) ≤ ((UInt8.toNat y63 : Nat) : Int))) none (cb (decide (v0_10 ≤ x0_13)) none (let y65 : Int := (IntKind.u64.wrap (x0_13 * (IntKind.u64.wrap v0_1))); (let y66 : Int := (IntKind.u64.wrap ((UInt8.toNat y63 : Nat) : Int)); (let y67 : Int := (IntKind.u64.wrap (y65 + y66)); (cb (decide (y67 < y65)) none (cb (decide (v0_11 < y67)) none (ck (InR (x0_101 + (1 : Int))) (some (.inl (x0_12, y67, (x0_101 + (1 : Int))))))))))))))))) none)) none))) (ob (Qe.f y53) fun r68 => (cb (decide ((97 : Int) ≤ ((UInt8.toNat r68 : Nat) : Int))) (ob (Qe.f y53) fun r69 => (cb (decide (((UInt8.toNat r69 : Nat) : Int) ≤ (122 : Int))) (ob (Qe.f y53) fun r70 => (let y71 : UInt8 := (UInt8.ofInt (((UInt8.toNat r70 : Nat) : Int) - (97 : Int))); (let y72 : UInt8 := (UInt8.ofInt (((UInt8.toNat y71 : Nat) : Int) + (10 : Int))); (let y73 : UInt8 := (UInt8.ofInt (IntKind.u8.wrap v0_1)); (cb (decide (((UInt8.toNat y73 : Nat) : Int) ≤ ((UInt8.toNat y72 : Nat) : Int))) none (cb (decide (v0_10 ≤ x0_13)) none (let y74 : Int := (IntKind.u64.wrap (x0_13 * (IntKind.u64.wrap v0_1))); (let y75 : Int := (IntKind.u64.wrap ((UInt8.toNat y72 : Nat) : Int)); (let y76 : Int := (IntKind.u64.wrap (y74 + y75)); (cb (decide (y76 < y74)) none (cb (decide (v0_11 < y76)) none (ck (InR (x0_101 + (1 : Int))) (some (.inl (x0_12, y76, (x0_101 + (1 : Int))))))))))))))))) none)) none)))) (cb (decide ((48 : Int) ≤ ((UInt8.toNat y53 : Nat) : Int))) (cb (decide (((UInt8.toNat y53 : Nat) : Int) ≤ (57 : Int))) (let y77 : UInt8 := (UInt8.ofInt (((UInt8.toNat y53 : Nat) : Int) - (48 : Int))); (let y78 : UInt8 := (UInt8.ofInt (IntKind.u8.wrap v0_1)); (cb (decide (((UInt8.toNat y78 : Nat) : Int) ≤ ((UInt8.toNat y77 : Nat) : Int))) none (cb (decide (v0_10 ≤ x0_13)) none (let y79 : Int := (IntKind.u64.wrap (x0_13 * (IntKind.u64.wrap v0_1))); (let y80 : Int := (IntKind.u64.wrap ((UInt8.toNat y77 : Nat) : Int)); (let y81 : Int := (IntKind.u64.wrap (y79 + y80)); (cb (decide (y81 < y79)) none (cb (decide (v0_11 < y81)) none (ck (InR (x0_101 + (1 : Int))) (some (.inl (x0_12, y81, (x0_101 + (1 : Int))))))))))))))) (ob (Qe.f y53) fun r82 => (cb (decide ((97 : Int) ≤ ((UInt8.toNat r82 : Nat) : Int))) (ob (Qe.f y53) fun r83 => (cb (decide (((UInt8.toNat r83 : Nat) : Int) ≤ (122 : Int))) (ob (Qe.f y53) fun r84 => (let y85 : UInt8 := (UInt8.ofInt (((UInt8.toNat r84 : Nat) : Int) - (97 : Int))); (let y86 : UInt8 := (UInt8.ofInt (((UInt8.toNat y85 : Nat) : Int) + (10 : Int))); (let y87 : UInt8 := (UInt8.ofInt (IntKind.u8.wrap v0_1)); (cb (decide (((UInt8.toNat y87 : Nat) : Int) ≤ ((UInt8.toNat y86 : Nat) : Int))) none (cb (decide (v0_10 ≤ x0_13)) none (let y88 : Int := (IntKind.u64.wrap (x0_13 * (IntKind.u64.wrap v0_1))); (let y89 : Int := (IntKind.u64.wrap ((UInt8.toNat y86 : Nat) : Int)); (let y90 : Int := (IntKind.u64.wrap (y88 + y89)); (cb (decide (y90 < y88)) none (cb (decide (v0_11 < y90)) none (ck (InR (x0_101 + (1 : Int))) (some (.inl (x0_12, y90, (x0_101 + (1 : Int))))))))))))))))) none)) none))) (ob (Qe.f y53) fun r91 => (cb (decide ((97 : Int) ≤ ((UInt8.toNat r91 : Nat) : Int))) (ob (Qe.f y53) fun r92 => (cb (decide (((UInt8.toNat r92 : Nat) : Int) ≤ (122 : Int))) (ob (Qe.f y53) fun r93 => (let y94 : UInt8 := (UInt8.ofInt (((UInt8.toNat r93 : Nat) : Int) - (97 : Int))); (let y95 : UInt8 := (UInt8.ofInt (((UInt8.toNat y94 : Nat) : Int) + (10 : Int))); (let y96 : UInt8 := (UInt8.ofInt (IntKind.u8.wrap v0_1)); (cb (decide (((UInt8.toNat y96 : Nat) : Int) ≤ ((UInt8.toNat y95 : Nat) : Int))) none (cb (decide (v0_10 ≤ x0_13)) none (let y97 : Int := (IntKind.u64.wrap (x0_13 * (IntKind.u64.wrap v0_1))); (let y98 : Int := (IntKind.u64.wrap ((UInt8.toNat y95 : Nat) : Int)); (let y99 : Int := (IntKind.u64.wrap (y97 + y98)); (cb (decide (y99 < y97)) none (cb (decide (v0_11 < y99)) none (ck (InR (x0_101 + (1 : Int))) (some (.inl (x0_12, y99, (x0_101 + (1 : Int))))))))))))))))) none)) none)))))) (some (.inr (x0_12, x0_13))))
def Q4.l0 (v0_1 : Int) (v0_8 : Bool) (v0_10 : Int) (v0_11 : Int) (v0_99 : (List UInt8)) (v0_100 : Int) (x0_12 : Bool) (x0_13 : Int) (x0_101 : Int) : Option (Bool × Int) :=
 loopX (fun (x : (Bool × (Int × Int))) => Q4.s0 v0_1 v0_8 v0_10 v0_11 v0_99 v0_100 x.1 x.2.1 x.2.2) (x0_12, x0_13, x0_101)
def Q4.e0 : Ent where
 pre := []
 inv := [(1, .val (.int .i64)), (8, .val .bool), (9, .val .str), (10, .val (.int .u64)), (11, .val (.int .u64)), (99, .val (.slice .byte)), (100, .val (.int .i64))]
 car := ⟨[(12, .val .bool), (13, .val (.int .u64)), (101, .val (.int .i64))], []⟩
 exits := [(.exit 3, ⟨[(12, .val .bool), (13, .val (.int .u64))], []⟩)]
 step := fun iv x => Q4.s0 iv.1 iv.2.1 iv.2.2.2.1 iv.2.2.2.2.1 iv.2.2.2.2.2.1 iv.2.2.2.2.2.2 x.1 x.2.1 x.2.2
def Q4.C : Cx := ⟨T, TYt, lkF [((219, [0]), Qe.fn), ((220, [0]), Q7.fn)], lkO [], lkD [], lkP [], [], [], false, [], [], lkS [], 172⟩
theorem Q4.hC : CxOK Tryz.prog Q4.C := ⟨tabOK, FsOK.cons Qe.ok (FsOK.cons Q7.ok (FsOK.nil)), OsOK.nil, mixed, (fun t h => by cases h), (fun t e h => by cases h), SsOK.nil⟩
def Q4.root : Code := bodyOf Tryz.f189
def Q4.fn : TFn := ⟨[.str, (.int .i64), (.int .i64)], [(.int .u64), .nilI], fun x => exF Q4.C (lkL [([0, 1, 0, 1, 1, 1, 1, 1, 1, 1, 1, 1, 1, 1], Q4.e0)]) Q4.root [] (retK Q4.C [(.int .u64), .nilI] [.tmp 6, .tmp 7]) (startS [.str, (.int .i64), (.int .i64)] x)⟩
def Q4.f (a0 : ByteArray) (a1 : Int) (a2 : Int) : Option (Int × Unit) := Q4.fn.run (a0, a1, a2)
theorem Q4.h0 : LsOK Tryz.prog Q4.C Q4.root (lkL [([0, 1, 0, 1, 1, 1, 1, 1, 1, 1, 1, 1, 1, 1], Q4.e0)]) :=
 LsOK.cons Q4.hC (LsOK.nil) (by kernel_rfl) (fun iv x => by kernel_rfl)
theorem Q4.ok : FnOK Tryz.prog 189 Q4.fn :=
 FnOK.of (L := lkL [([0, 1, 0, 1, 1, 1, 1, 1, 1, 1, 1, 1, 1, 1], Q4.e0)]) (root := Q4.root) Q4.hC (enters_of (c := Q4.root) Tryz.func189 (by kernel_rfl) (by kernel_rfl)) Tryz.func189 (by kernel_rfl) (rs := [.tmp 6, .tmp 7]) (by kernel_rfl) (by kernel_rfl) Q4.h0 (fun x => rfl)
def Q1x.f (a0 : ByteArray) (a1 : Int) (a2 : Int) : Option (Int × Unit) :=
 (ob (Q4.f a0 a1 a2) fun r1 => (some (r1.1, ())))
def Q1x.fn : TFn := ⟨[.str, (.int .i64), (.int .i64)], [(.int .u64), .nilI], fun x => Q1x.f x.1 x.2.1 x.2.2⟩
def Q1x.C : Cx := ⟨T, TYt, lkF [((189, [0, 0, 0]), Q4.fn)], lkO [], lkD [], lkP [], [], [(137, 0)], false, [], [], lkS [], 26⟩
theorem Q1x.hC : CxOK Tryz.prog Q1x.C := ⟨tabOK, FsOK.cons Q4.ok (FsOK.nil), OsOK.nil, mixed, (fun t h => by cases h), (mps_of [(137, 0)] (by kernel_rfl)), SsOK.nil⟩
def Q1x.root : Code := bodyOf Tryz.f142
theorem Q1x.ok : FnOK Tryz.prog 142 Q1x.fn :=
 FnOK.of (L := lkL []) (root := Q1x.root) Q1x.hC (enters_of (c := Q1x.root) Tryz.func142 (by kernel_rfl) (by kernel_rfl)) Tryz.func142 (by kernel_rfl) (rs := [.tmp 6, .tmp 7]) (by kernel_rfl) (by kernel_rfl) LsOK.nil (fun x => by kernel_rfl)
def Q2s.f (a0 : Int) (a1 : Int) (a2 : ByteArray) (a3 : Int) : Option Int :=
 (ob (Q2h.f a0) fun r1 => (ck (((ByteArray.size r1 + ByteArray.size Q2y : Nat) : Int) ≤ 9223372036854775807) (ob (Q2h.f a1) fun r2 => (ck (((ByteArray.size (r1 ++ Q2y) + ByteArray.size r2 : Nat) : Int) ≤ 9223372036854775807) (ck (((ByteArray.size ((r1 ++ Q2y) ++ r2) + ByteArray.size Q2y : Nat) : Int) ≤ 9223372036854775807) (let y3 : ByteArray := (((r1 ++ Q2y) ++ r2) ++ Q2y); (ck (((ByteArray.size y3 + ByteArray.size a2 : Nat) : Int) ≤ 9223372036854775807) (let y4 : (List UInt8) := (Array.toList (ByteArray.data (y3 ++ a2))); (ob (Qo.f y4) fun r5 => (ck (0 ≤ (8 : Int) ∧ (8 : Int) ≤ ((ByteArray.size r5 : Nat) : Int)) (let y6 : ByteArray := (ByteArray.extract r5 0 (Int.toNat (8 : Int))); (ob (Q1x.f y6 (16 : Int) (64 : Int)) fun r7 => (ck (a3 ≠ 0) (let y8 : Int := (Int.tmod (IntKind.i64.wrap r7.1) a3); (some y8)))))))))))))))
def Q2s.fn : TFn := ⟨[(.int .i64), (.int .i64), .str, (.int .i64)], [(.int .i64)], fun x => Q2s.f x.1 x.2.1 x.2.2.1 x.2.2.2⟩
def Q2s.C : Cx := ⟨T, TYt, lkF [((109, [0]), Q2h.fn), ((119, [0]), Qo.fn), ((142, [0, 0, 0]), Q1x.fn)], lkO [], lkD [], lkP [], [], [], false, [], [], lkS [], 33⟩
theorem Q2s.hC : CxOK Tryz.prog Q2s.C := ⟨tabOK, FsOK.cons Q2h.ok (FsOK.cons Qo.ok (FsOK.cons Q1x.ok (FsOK.nil))), OsOK.nil, mixed, (fun t h => by cases h), (fun t e h => by cases h), SsOK.nil⟩
def Q2s.root : Code := bodyOf Tryz.f96
theorem Q2s.ok : FnOK Tryz.prog 96 Q2s.fn :=
 FnOK.of (L := lkL []) (root := Q2s.root) Q2s.hC (enters_of (c := Q2s.root) Tryz.func96 (by kernel_rfl) (by kernel_rfl)) Tryz.func96 (by kernel_rfl) (rs := [.tmp 8]) (by kernel_rfl) (by kernel_rfl) LsOK.nil (fun x => by kernel_rfl)
def Q1o.s0 (v0_2 : Int) (v0_3 : Int) (v0_11 : ((List Bool) × ((List Bool) × (List (ByteArray × Bool))))) (v0_35 : (List (ByteArray × (ByteArray × (ByteArray × (ByteArray × (Int × ((List ByteArray) × ByteArray)))))))) (v0_36 : Int) (x0_37 : Int) (o0_1 : (List Bool)) : Option ((Int × (List Bool)) ⊕ (List Bool)) :=
 (cb (decide (x0_37 < v0_36)) (ck (0 ≤ x0_37 ∧ x0_37 < ((List.length v0_35 : Nat) : Int)) (let y9 : (ByteArray × (ByteArray × (ByteArray × (ByteArray × (Int × ((List ByteArray) × ByteArray)))))) := (rd (ByteArray.empty, (ByteArray.empty, (ByteArray.empty, (ByteArray.empty, ((0 : Int), (([] : (List ByteArray)), ByteArray.empty)))))) v0_35 x0_37); (ck (0 ≤ x0_37 ∧ x0_37 < ((List.length v0_11.1 : Nat) : Int)) (cb (!(rd false v0_11.1 x0_37)) (cb (Option.getD (mget y9.2.2.2.1 v0_11.2.2) false) (ck (0 ≤ x0_37 ∧ x0_37 < ((List.length o0_1 : Nat) : Int)) (ck ((Int.toNat x0_37) < List.length o0_1) (ck (InR (x0_37 + (1 : Int))) (some (.inl ((x0_37 + (1 : Int)), (List.set o0_1 (Int.toNat x0_37) true))))))) (ob (Q2s.f v0_3 x0_37 y9.1 v0_2) fun r10 => (ck (0 ≤ x0_37 ∧ x0_37 < ((List.length o0_1 : Nat) : Int)) (ck ((Int.toNat x0_37) < List.length o0_1) (ck (InR (x0_37 + (1 : Int))) (some (.inl ((x0_37 + (1 : Int)), (List.set o0_1 (Int.toNat x0_37) (decide (r10 = (0 : Int)))))))))))) (ck (0 ≤ x0_37 ∧ x0_37 < ((List.length o0_1 : Nat) : Int)) (ck ((Int.toNat x0_37) < List.length o0_1) (ck (InR (x0_37 + (1 : Int))) (some (.inl ((x0_37 + (1 : Int)), (List.set o0_1 (Int.toNat x0_37) false))))))))))) (some (.inr o0_1)))
def Q1o.l0 (v0_2 : Int) (v0_3 : Int) (v0_11 : ((List Bool) × ((List Bool) × (List (ByteArray × Bool))))) (v0_35 : (List (ByteArray × (ByteArray × (ByteArray × (ByteArray × (Int × ((List ByteArray) × ByteArray)))))))) (v0_36 : Int) (x0_37 : Int) (o0_1 : (List Bool)) : Option (List Bool) :=
 loopX (fun (x : (Int × (List Bool))) => Q1o.s0 v0_2 v0_3 v0_11 v0_35 v0_36 x.1 x.2) (x0_37, o0_1)
def Q1o.e0 : Ent where
 pre := []
 inv := [(2, .val (.int .i64)), (3, .val (.int .i64)), (11, .rp (.pair (.slice .bool) (.pair (.slice .bool) (.mp .bool)))), (35, .val (.slice (.pair .str (.pair .str (.pair .str (.pair .str (.pair (.int .i64) (.pair (.slice .str) .str)))))))), (36, .val (.int .i64))]
 car := ⟨[(12, .own 1 1), (37, .val (.int .i64))], [.dead, .row 4 .bool]⟩
 exits := [(.exit 0, ⟨[(12, .own 1 1)], [.dead, .row 4 .bool]⟩)]
 step := fun iv x => Q1o.s0 iv.1 iv.2.1 iv.2.2.1 iv.2.2.2.1 iv.2.2.2.2 x.1 x.2
def Q1o.f (a0 : (List (ByteArray × (ByteArray × (ByteArray × (ByteArray × (Int × ((List ByteArray) × ByteArray)))))))) (a1 : (List (Int × (ByteArray × Int)))) (a2 : Int) (a3 : Int) : Option ((List Int) × Int) :=
 (ob (Qd.f a0 a1) fun r1 => (cb (!decide (r1 = (0 : Int))) (some (([] : List Int), r1)) (ob (Q1e.f a2 (1 : Int) (1000000 : Int)) fun r2 => (cb (!r2) (some (([] : List Int), (1 : Int))) (ob (Q1e.f a3 (0 : Int) (1000000000 : Int)) fun r3 => (cb (!r3) (some (([] : List Int), (1 : Int))) (ob (Qr.f a0 a1) fun r4 => (let y5 : Int := ((List.length a0 : Nat) : Int); (ck (0 ≤ y5 ∧ y5 * (1 : Int) ≤ 140737488355328) (let y6 : Int := ((List.length a0 : Nat) : Int); (ob (Q1o.l0 a2 a3 r4 a0 y6 (0 : Int) (List.replicate (Int.toNat y5) false)) fun r11 => (ob (Qv.f r11) fun r12 => (some (r12, (0 : Int)))))))))))))))
def Q1o.fn : TFn := ⟨[(.slice (.pair .str (.pair .str (.pair .str (.pair .str (.pair (.int .i64) (.pair (.slice .str) .str))))))), (.slice (.pair (.int .i64) (.pair .str (.int .i64)))), (.int .i64), (.int .i64)], [(.slice (.int .i64)), (.int .i64)], fun x => Q1o.f x.1 x.2.1 x.2.2.1 x.2.2.2⟩
def Q1o.C : Cx := ⟨T, TYt, lkF [((65, [0, 0]), Qd.fn), ((70, [0, 0, 0]), Q1e.fn), ((93, [0]), Qv.fn), ((95, [0, 0]), Qr.fn), ((96, [0, 0, 0, 0]), Q2s.fn)], lkO [], lkD [], lkP [], [11, 14], [(103, 4)], false, [], [], lkS [], 70⟩
theorem Q1o.hC : CxOK Tryz.prog Q1o.C := ⟨tabOK, FsOK.cons Qd.ok (FsOK.cons Q1e.ok (FsOK.cons Qv.ok (FsOK.cons Qr.ok (FsOK.cons Q2s.ok (FsOK.nil))))), OsOK.nil, mixed, (fun t h => by cases h), (mps_of [(103, 4)] (by kernel_rfl)), SsOK.nil⟩
def Q1o.root : Code := bodyOf Tryz.f44
theorem Q1o.h0 : LsOK Tryz.prog Q1o.C Q1o.root (lkL [([0, 1, 0, 1, 1, 1, 1, 1], Q1o.e0)]) :=
 LsOK.cons Q1o.hC (LsOK.nil) (by kernel_rfl) (fun iv x => by kernel_rfl)
theorem Q1o.ok : FnOK Tryz.prog 44 Q1o.fn :=
 FnOK.of (L := lkL [([0, 1, 0, 1, 1, 1, 1, 1], Q1o.e0)]) (root := Q1o.root) Q1o.hC (enters_of (c := Q1o.root) Tryz.func44 (by kernel_rfl) (by kernel_rfl)) Tryz.func44 (by kernel_rfl) (rs := [.tmp 8, .tmp 9]) (by kernel_rfl) (by kernel_rfl) Q1o.h0 (fun x => by kernel_rfl)
def Q1v.f (a0 : ByteArray) : Option Bool :=
 (let y1 : Int := ((ByteArray.size a0 : Nat) : Int); (cb (decide (y1 = (16 : Int))) (ob (Q2g.f a0 Qf) fun r2 => (some (decide (r2 = bs_)))) (some false)))
def Q1v.fn : TFn := ⟨[.str], [.bool], fun x => Q1v.f x⟩
def Q1v.C : Cx := ⟨T, TYt, lkF [((121, [0, 0]), Q2g.fn)], lkO [], lkD [], lkP [], [], [], false, [], [], lkS [], 11⟩
theorem Q1v.hC : CxOK Tryz.prog Q1v.C := ⟨tabOK, FsOK.cons Q2g.ok (FsOK.nil), OsOK.nil, mixed, (fun t h => by cases h), (fun t e h => by cases h), SsOK.nil⟩
def Q1v.root : Code := bodyOf Tryz.f89
theorem Q1v.ok : FnOK Tryz.prog 89 Q1v.fn :=
 FnOK.of (L := lkL []) (root := Q1v.root) Q1v.hC (enters_of (c := Q1v.root) Tryz.func89 (by kernel_rfl) (by kernel_rfl)) Tryz.func89 (by kernel_rfl) (rs := [.tmp 2]) (by kernel_rfl) (by kernel_rfl) LsOK.nil (fun x => by kernel_rfl)
def Q1d.s0 (v0_0 : ByteArray) (v0_6 : Int) (x0_7 : Int) : Option (Int ⊕ (Bool ⊕ Unit)) :=
 (cb (decide (x0_7 < v0_6)) (ck (0 ≤ x0_7 ∧ x0_7 < ((ByteArray.size v0_0 : Nat) : Int)) (cb (decide (((UInt8.toNat (bt v0_0 x0_7) : Nat) : Int) < (97 : Int))) (cb (decide (((UInt8.toNat (bt v0_0 x0_7) : Nat) : Int) < (65 : Int))) (cb (decide (((UInt8.toNat (bt v0_0 x0_7) : Nat) : Int) < (48 : Int))) (ob (Qm.f Q20 (bt v0_0 x0_7)) fun r10 => (cb (decide (r10 < (0 : Int))) (some (.inr (.inl false))) (ck (InR (x0_7 + (1 : Int))) (some (.inl (x0_7 + (1 : Int))))))) (cb (decide ((57 : Int) < ((UInt8.toNat (bt v0_0 x0_7) : Nat) : Int))) (ob (Qm.f Q20 (bt v0_0 x0_7)) fun r11 => (cb (decide (r11 < (0 : Int))) (some (.inr (.inl false))) (ck (InR (x0_7 + (1 : Int))) (some (.inl (x0_7 + (1 : Int))))))) (ck (InR (x0_7 + (1 : Int))) (some (.inl (x0_7 + (1 : Int))))))) (cb (decide ((90 : Int) < ((UInt8.toNat (bt v0_0 x0_7) : Nat) : Int))) (cb (decide (((UInt8.toNat (bt v0_0 x0_7) : Nat) : Int) < (48 : Int))) (ob (Qm.f Q20 (bt v0_0 x0_7)) fun r12 => (cb (decide (r12 < (0 : Int))) (some (.inr (.inl false))) (ck (InR (x0_7 + (1 : Int))) (some (.inl (x0_7 + (1 : Int))))))) (cb (decide ((57 : Int) < ((UInt8.toNat (bt v0_0 x0_7) : Nat) : Int))) (ob (Qm.f Q20 (bt v0_0 x0_7)) fun r13 => (cb (decide (r13 < (0 : Int))) (some (.inr (.inl false))) (ck (InR (x0_7 + (1 : Int))) (some (.inl (x0_7 + (1 : Int))))))) (ck (InR (x0_7 + (1 : Int))) (some (.inl (x0_7 + (1 : Int))))))) (ck (InR (x0_7 + (1 : Int))) (some (.inl (x0_7 + (1 : Int))))))) (cb (decide ((122 : Int) < ((UInt8.toNat (bt v0_0 x0_7) : Nat) : Int))) (cb (decide (((UInt8.toNat (bt v0_0 x0_7) : Nat) : Int) < (65 : Int))) (cb (decide (((UInt8.toNat (bt v0_0 x0_7) : Nat) : Int) < (48 : Int))) (ob (Qm.f Q20 (bt v0_0 x0_7)) fun r14 => (cb (decide (r14 < (0 : Int))) (some (.inr (.inl false))) (ck (InR (x0_7 + (1 : Int))) (some (.inl (x0_7 + (1 : Int))))))) (cb (decide ((57 : Int) < ((UInt8.toNat (bt v0_0 x0_7) : Nat) : Int))) (ob (Qm.f Q20 (bt v0_0 x0_7)) fun r15 => (cb (decide (r15 < (0 : Int))) (some (.inr (.inl false))) (ck (InR (x0_7 + (1 : Int))) (some (.inl (x0_7 + (1 : Int))))))) (ck (InR (x0_7 + (1 : Int))) (some (.inl (x0_7 + (1 : Int))))))) (cb (decide ((90 : Int) < ((UInt8.toNat (bt v0_0 x0_7) : Nat) : Int))) (cb (decide (((UInt8.toNat (bt v0_0 x0_7) : Nat) : Int) < (48 : Int))) (ob (Qm.f Q20 (bt v0_0 x0_7)) fun r16 => (cb (decide (r16 < (0 : Int))) (some (.inr (.inl false))) (ck (InR (x0_7 + (1 : Int))) (some (.inl (x0_7 + (1 : Int))))))) (cb (decide ((57 : Int) < ((UInt8.toNat (bt v0_0 x0_7) : Nat) : Int))) (ob (Qm.f Q20 (bt v0_0 x0_7)) fun r17 => (cb (decide (r17 < (0 : Int))) (some (.inr (.inl false))) (ck (InR (x0_7 + (1 : Int))) (some (.inl (x0_7 + (1 : Int))))))) (ck (InR (x0_7 + (1 : Int))) (some (.inl (x0_7 + (1 : Int))))))) (ck (InR (x0_7 + (1 : Int))) (some (.inl (x0_7 + (1 : Int))))))) (ck (InR (x0_7 + (1 : Int))) (some (.inl (x0_7 + (1 : Int)))))))) (some (.inr (.inr ()))))
def Q1d.l0 (v0_0 : ByteArray) (v0_6 : Int) (x0_7 : Int) : Option (Bool ⊕ Unit) :=
 loopX (fun (x : Int) => Q1d.s0 v0_0 v0_6 x) x0_7
def Q1d.e0 : Ent where
 pre := []
 inv := [(0, .val .str), (6, .val (.int .i64))]
 car := ⟨[(7, .val (.int .i64))], []⟩
 exits := [(.ret, ⟨[(2, .val .bool)], []⟩), (.exit 0, ⟨[], []⟩)]
 step := fun iv x => Q1d.s0 iv.1 iv.2 x
def Q1d.f (a0 : ByteArray) : Option Bool :=
 (let y1 : Int := ((ByteArray.size a0 : Nat) : Int); (ob (Q1d.l0 a0 y1 (0 : Int)) fun r18 => (caseS r18 (fun a19 => (some a19)) (fun b20 => (cb (!decide (a0 = bs_)) (cb (!decide (a0 = Q33)) (some (!decide (a0 = Q31))) (some false)) (some false))))))
def Q1d.fn : TFn := ⟨[.str], [.bool], fun x => Q1d.f x⟩
def Q1d.C : Cx := ⟨T, TYt, lkF [((256, [0, 0]), Qm.fn)], lkO [], lkD [], lkP [], [], [], false, [], [], lkS [], 51⟩
theorem Q1d.hC : CxOK Tryz.prog Q1d.C := ⟨tabOK, FsOK.cons Qm.ok (FsOK.nil), OsOK.nil, mixed, (fun t h => by cases h), (fun t e h => by cases h), SsOK.nil⟩
def Q1d.root : Code := bodyOf Tryz.f258
theorem Q1d.h0 : LsOK Tryz.prog Q1d.C Q1d.root (lkL [([0, 1, 0, 1], Q1d.e0)]) :=
 LsOK.cons Q1d.hC (LsOK.nil) (by kernel_rfl) (fun iv x => by kernel_rfl)
theorem Q1d.ok : FnOK Tryz.prog 258 Q1d.fn :=
 FnOK.of (L := lkL [([0, 1, 0, 1], Q1d.e0)]) (root := Q1d.root) Q1d.hC (enters_of (c := Q1d.root) Tryz.func258 (by kernel_rfl) (by kernel_rfl)) Tryz.func258 (by kernel_rfl) (rs := [.tmp 2]) (by kernel_rfl) (by kernel_rfl) Q1d.h0 (fun x => by kernel_rfl)
def Q2p.f (a0 : Int) (a1 : Int) (a2 : Int) : Option Bool :=
 (cb (decide (a1 ≤ a0)) (some (decide (a0 ≤ a2))) (some false))
def Q2p.fn : TFn := ⟨[(.int .i64), (.int .i64), (.int .i64)], [.bool], fun x => Q2p.f x.1 x.2.1 x.2.2⟩
def Q2p.C : Cx := ⟨T, TYt, lkF [], lkO [], lkD [], lkP [], [], [], false, [], [], lkS [], 15⟩
theorem Q2p.hC : CxOK Tryz.prog Q2p.C := ⟨tabOK, FsOK.nil, OsOK.nil, mixed, (fun t h => by cases h), (fun t e h => by cases h), SsOK.nil⟩
def Q2p.root : Code := bodyOf Tryz.f259
theorem Q2p.ok : FnOK Tryz.prog 259 Q2p.fn :=
 FnOK.of (L := lkL []) (root := Q2p.root) Q2p.hC (enters_of (c := Q2p.root) Tryz.func259 (by kernel_rfl) (by kernel_rfl)) Tryz.func259 (by kernel_rfl) (rs := [.tmp 6]) (by kernel_rfl) (by kernel_rfl) LsOK.nil (fun x => by kernel_rfl)
def Q16.s0 (v0_6 : (List ByteArray)) (v0_7 : Int) (x0_8 : Int) : Option (Int ⊕ (Bool ⊕ Unit)) :=
 (cb (decide (x0_8 < v0_7)) (ck (0 ≤ x0_8 ∧ x0_8 < ((List.length v0_6 : Nat) : Int)) (let y5 : ByteArray := (rd ByteArray.empty v0_6 x0_8); (ob (Q1d.f y5) fun r6 => (cb (!r6) (some (.inr (.inl false))) (ck (InR (x0_8 + (1 : Int))) (some (.inl (x0_8 + (1 : Int))))))))) (some (.inr (.inr ()))))
def Q16.l0 (v0_6 : (List ByteArray)) (v0_7 : Int) (x0_8 : Int) : Option (Bool ⊕ Unit) :=
 loopX (fun (x : Int) => Q16.s0 v0_6 v0_7 x) x0_8
def Q16.e0 : Ent where
 pre := []
 inv := [(0, .val .str), (6, .val (.slice .str)), (7, .val (.int .i64))]
 car := ⟨[(8, .val (.int .i64))], []⟩
 exits := [(.ret, ⟨[(2, .val .bool)], []⟩), (.exit 0, ⟨[], []⟩)]
 step := fun iv x => Q16.s0 iv.2.1 iv.2.2 x
def Q16.f (a0 : ByteArray) : Option Bool :=
 (ob (Q1s.f a0 Q2z) fun r1 => (let y2 : Int := ((List.length r1 : Nat) : Int); (ob (Q16.l0 r1 y2 (0 : Int)) fun r7 => (caseS r7 (fun a8 => (some a8)) (fun b9 => (let y10 : Int := ((ByteArray.size a0 : Nat) : Int); (ob (Q2p.f y10 (1 : Int) (200 : Int)) fun r11 => (some r11))))))))
def Q16.fn : TFn := ⟨[.str], [.bool], fun x => Q16.f x⟩
def Q16.C : Cx := ⟨T, TYt, lkF [((160, [0, 0]), Q1s.fn), ((258, [0]), Q1d.fn), ((259, [0, 0, 0]), Q2p.fn)], lkO [], lkD [], lkP [], [], [], false, [], [], lkS [], 19⟩
theorem Q16.hC : CxOK Tryz.prog Q16.C := ⟨tabOK, FsOK.cons Q1s.ok (FsOK.cons Q1d.ok (FsOK.cons Q2p.ok (FsOK.nil))), OsOK.nil, mixed, (fun t h => by cases h), (fun t e h => by cases h), SsOK.nil⟩
def Q16.root : Code := bodyOf Tryz.f245
theorem Q16.h0 : LsOK Tryz.prog Q16.C Q16.root (lkL [([0, 1, 0, 1], Q16.e0)]) :=
 LsOK.cons Q16.hC (LsOK.nil) (by kernel_rfl) (fun iv x => by kernel_rfl)
theorem Q16.ok : FnOK Tryz.prog 245 Q16.fn :=
 FnOK.of (L := lkL [([0, 1, 0, 1], Q16.e0)]) (root := Q16.root) Q16.hC (enters_of (c := Q16.root) Tryz.func245 (by kernel_rfl) (by kernel_rfl)) Tryz.func245 (by kernel_rfl) (rs := [.tmp 2]) (by kernel_rfl) (by kernel_rfl) Q16.h0 (fun x => by kernel_rfl)
def Q2f.f (a0 : ByteArray) : Option Bool :=
 (cb (decide (a0 = bs_)) (some true) (ob (Q16.f a0) fun r1 => (some r1)))
def Q2f.fn : TFn := ⟨[.str], [.bool], fun x => Q2f.f x⟩
def Q2f.C : Cx := ⟨T, TYt, lkF [((245, [0]), Q16.fn)], lkO [], lkD [], lkP [], [], [], false, [], [], lkS [], 9⟩
theorem Q2f.hC : CxOK Tryz.prog Q2f.C := ⟨tabOK, FsOK.cons Q16.ok (FsOK.nil), OsOK.nil, mixed, (fun t h => by cases h), (fun t e h => by cases h), SsOK.nil⟩
def Q2f.root : Code := bodyOf Tryz.f214
theorem Q2f.ok : FnOK Tryz.prog 214 Q2f.fn :=
 FnOK.of (L := lkL []) (root := Q2f.root) Q2f.hC (enters_of (c := Q2f.root) Tryz.func214 (by kernel_rfl) (by kernel_rfl)) Tryz.func214 (by kernel_rfl) (rs := [.tmp 2]) (by kernel_rfl) (by kernel_rfl) LsOK.nil (fun x => by kernel_rfl)
def Q2q.f (a0 : ByteArray) : Option ByteArray :=
 (ob (Q1a.f a0 (UInt8.ofInt (47 : Int))) fun r1 => (ck (InR (r1 + (1 : Int))) (ck (0 ≤ (r1 + (1 : Int)) ∧ (r1 + (1 : Int)) ≤ ((ByteArray.size a0 : Nat) : Int)) (let y2 : ByteArray := (ByteArray.extract a0 (Int.toNat (r1 + (1 : Int))) (ByteArray.size a0)); (some y2)))))
def Q2q.fn : TFn := ⟨[.str], [.str], fun x => Q2q.f x⟩
def Q2q.C : Cx := ⟨T, TYt, lkF [((212, [0, 0]), Q1a.fn)], lkO [], lkD [], lkP [], [], [], false, [], [], lkS [], 8⟩
theorem Q2q.hC : CxOK Tryz.prog Q2q.C := ⟨tabOK, FsOK.cons Q1a.ok (FsOK.nil), OsOK.nil, mixed, (fun t h => by cases h), (fun t e h => by cases h), SsOK.nil⟩
def Q2q.root : Code := bodyOf Tryz.f215
theorem Q2q.ok : FnOK Tryz.prog 215 Q2q.fn :=
 FnOK.of (L := lkL []) (root := Q2q.root) Q2q.hC (enters_of (c := Q2q.root) Tryz.func215 (by kernel_rfl) (by kernel_rfl)) Tryz.func215 (by kernel_rfl) (rs := [.tmp 2]) (by kernel_rfl) (by kernel_rfl) LsOK.nil (fun x => by kernel_rfl)
def Q1j.f (a0 : (ByteArray × ByteArray)) : Option Int :=
 (ob (Q2f.f a0.1) fun r1 => (cb (!r1) (some (3 : Int)) (ob (Q16.f a0.2) fun r2 => (cb (!r2) (some (3 : Int)) (some (0 : Int))))))
def Q1j.fn : TFn := ⟨[(.pair .str .str)], [(.int .i64)], fun x => Q1j.f x⟩
def Q1j.C : Cx := ⟨T, TYt, lkF [((214, [0]), Q2f.fn), ((245, [0]), Q16.fn)], lkO [], lkD [], lkP [], [1], [], false, [], [], lkS [], 13⟩
theorem Q1j.hC : CxOK Tryz.prog Q1j.C := ⟨tabOK, FsOK.cons Q2f.ok (FsOK.cons Q16.ok (FsOK.nil)), OsOK.nil, mixed, (fun t h => by cases h), (fun t e h => by cases h), SsOK.nil⟩
def Q1j.root : Code := bodyOf Tryz.f216
theorem Q1j.ok : FnOK Tryz.prog 216 Q1j.fn :=
 FnOK.of (L := lkL []) (root := Q1j.root) Q1j.hC (enters_of (c := Q1j.root) Tryz.func216 (by kernel_rfl) (by kernel_rfl)) Tryz.func216 (by kernel_rfl) (rs := [.tmp 2]) (by kernel_rfl) (by kernel_rfl) LsOK.nil (fun x => by kernel_rfl)
def Q29.f (a0 : ByteArray) (a1 : ByteArray) : Option ((ByteArray × ByteArray) × Int) :=
 (ob (Q2f.f a1) fun r1 => (cb (!r1) (some ((bs_, bs_), (3 : Int))) (ob (Q26.f a0 Q2x) fun r2 => (ob (Q1b.f r2.1 Q1i) fun r3 => (cb r2.2.2 (cb (decide (r2.1 = bs_)) (ob (Q1j.f (a1, r2.2.1)) fun r4 => (cb (!decide (r4 = (0 : Int))) (some ((bs_, bs_), (10 : Int))) (some ((a1, r2.2.1), (0 : Int))))) (cb r2.2.2 (cb r3.2 (ob (Q1j.f (r3.1, r2.2.1)) fun r5 => (cb (!decide (r5 = (0 : Int))) (some ((bs_, bs_), (10 : Int))) (some ((r3.1, r2.2.1), (0 : Int))))) (cb r3.2 (cb (!decide (r3.1 = bs_)) (ob (Q2q.f r3.1) fun r6 => (ob (Q1j.f (r3.1, r6)) fun r7 => (cb (!decide (r7 = (0 : Int))) (some ((bs_, bs_), (10 : Int))) (some ((r3.1, r6), (0 : Int)))))) (some ((bs_, bs_), (10 : Int)))) (some ((bs_, bs_), (10 : Int))))) (cb r3.2 (cb (!decide (r3.1 = bs_)) (ob (Q2q.f r3.1) fun r8 => (ob (Q1j.f (r3.1, r8)) fun r9 => (cb (!decide (r9 = (0 : Int))) (some ((bs_, bs_), (10 : Int))) (some ((r3.1, r8), (0 : Int)))))) (some ((bs_, bs_), (10 : Int)))) (some ((bs_, bs_), (10 : Int)))))) (cb r2.2.2 (cb r3.2 (ob (Q1j.f (r3.1, r2.2.1)) fun r10 => (cb (!decide (r10 = (0 : Int))) (some ((bs_, bs_), (10 : Int))) (some ((r3.1, r2.2.1), (0 : Int))))) (cb r3.2 (cb (!decide (r3.1 = bs_)) (ob (Q2q.f r3.1) fun r11 => (ob (Q1j.f (r3.1, r11)) fun r12 => (cb (!decide (r12 = (0 : Int))) (some ((bs_, bs_), (10 : Int))) (some ((r3.1, r11), (0 : Int)))))) (some ((bs_, bs_), (10 : Int)))) (some ((bs_, bs_), (10 : Int))))) (cb r3.2 (cb (!decide (r3.1 = bs_)) (ob (Q2q.f r3.1) fun r13 => (ob (Q1j.f (r3.1, r13)) fun r14 => (cb (!decide (r14 = (0 : Int))) (some ((bs_, bs_), (10 : Int))) (some ((r3.1, r13), (0 : Int)))))) (some ((bs_, bs_), (10 : Int)))) (some ((bs_, bs_), (10 : Int))))))))))
def Q29.fn : TFn := ⟨[.str, .str], [(.pair .str .str), (.int .i64)], fun x => Q29.f x.1 x.2⟩
def Q29.C : Cx := ⟨T, TYt, lkF [((104, [0, 0]), Q26.fn), ((179, [0, 0]), Q1b.fn), ((214, [0]), Q2f.fn), ((215, [0]), Q2q.fn), ((216, [0]), Q1j.fn)], lkO [], lkD [], lkP [], [], [], false, [], [], lkS [], 61⟩
theorem Q29.hC : CxOK Tryz.prog Q29.C := ⟨tabOK, FsOK.cons Q26.ok (FsOK.cons Q1b.ok (FsOK.cons Q2f.ok (FsOK.cons Q2q.ok (FsOK.cons Q1j.ok (FsOK.nil))))), OsOK.nil, mixed, (fun t h => by cases h), (fun t e h => by cases h), SsOK.nil⟩
def Q29.root : Code := bodyOf Tryz.f187
theorem Q29.ok : FnOK Tryz.prog 187 Q29.fn :=
 FnOK.of (L := lkL []) (root := Q29.root) Q29.hC (enters_of (c := Q29.root) Tryz.func187 (by kernel_rfl) (by kernel_rfl)) Tryz.func187 (by kernel_rfl) (rs := [.cell 4 154, .tmp 5]) (by kernel_rfl) (by kernel_rfl) LsOK.nil (fun x => by kernel_rfl)
def Q25.f (a0 : ByteArray) : Option Bool :=
 (ob (Q29.f a0 bs_) fun r1 => (cb (decide (r1.2 = (0 : Int))) (ck (((ByteArray.size Q1i + ByteArray.size r1.1.1 : Nat) : Int) ≤ 9223372036854775807) (ck (((ByteArray.size (Q1i ++ r1.1.1) + ByteArray.size Q2x : Nat) : Int) ≤ 9223372036854775807) (let y2 : ByteArray := ((Q1i ++ r1.1.1) ++ Q2x); (ck (((ByteArray.size y2 + ByteArray.size r1.1.2 : Nat) : Int) ≤ 9223372036854775807) (some (decide (a0 = (y2 ++ r1.1.2)))))))) (some false)))
def Q25.fn : TFn := ⟨[.str], [.bool], fun x => Q25.f x⟩
def Q25.C : Cx := ⟨T, TYt, lkF [((187, [0, 0]), Q29.fn)], lkO [], lkD [], lkP [], [3], [], false, [], [], lkS [], 23⟩
theorem Q25.hC : CxOK Tryz.prog Q25.C := ⟨tabOK, FsOK.cons Q29.ok (FsOK.nil), OsOK.nil, mixed, (fun t h => by cases h), (fun t e h => by cases h), SsOK.nil⟩
def Q25.root : Code := bodyOf Tryz.f135
theorem Q25.ok : FnOK Tryz.prog 135 Q25.fn :=
 FnOK.of (L := lkL []) (root := Q25.root) Q25.hC (enters_of (c := Q25.root) Tryz.func135 (by kernel_rfl) (by kernel_rfl)) Tryz.func135 (by kernel_rfl) (rs := [.tmp 2]) (by kernel_rfl) (by kernel_rfl) LsOK.nil (fun x => by kernel_rfl)
def Q1m.f (a0 : Int) (a1 : Int) (a2 : Int) : Option Bool :=
 (cb (decide (a1 ≤ a0)) (some (decide (a0 ≤ a2))) (some false))
def Q1m.fn : TFn := ⟨[(.int .i64), (.int .i64), (.int .i64)], [.bool], fun x => Q1m.f x.1 x.2.1 x.2.2⟩
def Q1m.C : Cx := ⟨T, TYt, lkF [], lkO [], lkD [], lkP [], [], [], false, [], [], lkS [], 15⟩
theorem Q1m.hC : CxOK Tryz.prog Q1m.C := ⟨tabOK, FsOK.nil, OsOK.nil, mixed, (fun t h => by cases h), (fun t e h => by cases h), SsOK.nil⟩
def Q1m.root : Code := bodyOf Tryz.f90
theorem Q1m.ok : FnOK Tryz.prog 90 Q1m.fn :=
 FnOK.of (L := lkL []) (root := Q1m.root) Q1m.hC (enters_of (c := Q1m.root) Tryz.func90 (by kernel_rfl) (by kernel_rfl)) Tryz.func90 (by kernel_rfl) (rs := [.tmp 6]) (by kernel_rfl) (by kernel_rfl) LsOK.nil (fun x => by kernel_rfl)
def Q15.s0 (v0_0 : ByteArray) (v0_20 : Int) (x0_21 : Int) : Option (Int ⊕ (Bool ⊕ Unit)) :=
 (cb (decide (x0_21 < v0_20)) (ck (0 ≤ x0_21 ∧ x0_21 < ((ByteArray.size v0_0 : Nat) : Int)) (cb (decide (((UInt8.toNat (bt v0_0 x0_21) : Nat) : Int) < (97 : Int))) (cb (decide (((UInt8.toNat (bt v0_0 x0_21) : Nat) : Int) < (48 : Int))) (cb (!decide (((UInt8.toNat (bt v0_0 x0_21) : Nat) : Int) = (45 : Int))) (cb (!decide (((UInt8.toNat (bt v0_0 x0_21) : Nat) : Int) = (95 : Int))) (some (.inr (.inl false))) (ck (InR (x0_21 + (1 : Int))) (some (.inl (x0_21 + (1 : Int)))))) (ck (InR (x0_21 + (1 : Int))) (some (.inl (x0_21 + (1 : Int)))))) (cb (decide ((57 : Int) < ((UInt8.toNat (bt v0_0 x0_21) : Nat) : Int))) (cb (!decide (((UInt8.toNat (bt v0_0 x0_21) : Nat) : Int) = (45 : Int))) (cb (!decide (((UInt8.toNat (bt v0_0 x0_21) : Nat) : Int) = (95 : Int))) (some (.inr (.inl false))) (ck (InR (x0_21 + (1 : Int))) (some (.inl (x0_21 + (1 : Int)))))) (ck (InR (x0_21 + (1 : Int))) (some (.inl (x0_21 + (1 : Int)))))) (ck (InR (x0_21 + (1 : Int))) (some (.inl (x0_21 + (1 : Int))))))) (cb (decide ((122 : Int) < ((UInt8.toNat (bt v0_0 x0_21) : Nat) : Int))) (cb (decide (((UInt8.toNat (bt v0_0 x0_21) : Nat) : Int) < (48 : Int))) (cb (!decide (((UInt8.toNat (bt v0_0 x0_21) : Nat) : Int) = (45 : Int))) (cb (!decide (((UInt8.toNat (bt v0_0 x0_21) : Nat) : Int) = (95 : Int))) (some (.inr (.inl false))) (ck (InR (x0_21 + (1 : Int))) (some (.inl (x0_21 + (1 : Int)))))) (ck (InR (x0_21 + (1 : Int))) (some (.inl (x0_21 + (1 : Int)))))) (cb (decide ((57 : Int) < ((UInt8.toNat (bt v0_0 x0_21) : Nat) : Int))) (cb (!decide (((UInt8.toNat (bt v0_0 x0_21) : Nat) : Int) = (45 : Int))) (cb (!decide (((UInt8.toNat (bt v0_0 x0_21) : Nat) : Int) = (95 : Int))) (some (.inr (.inl false))) (ck (InR (x0_21 + (1 : Int))) (some (.inl (x0_21 + (1 : Int)))))) (ck (InR (x0_21 + (1 : Int))) (some (.inl (x0_21 + (1 : Int)))))) (ck (InR (x0_21 + (1 : Int))) (some (.inl (x0_21 + (1 : Int))))))) (ck (InR (x0_21 + (1 : Int))) (some (.inl (x0_21 + (1 : Int)))))))) (some (.inr (.inr ()))))
def Q15.l0 (v0_0 : ByteArray) (v0_20 : Int) (x0_21 : Int) : Option (Bool ⊕ Unit) :=
 loopX (fun (x : Int) => Q15.s0 v0_0 v0_20 x) x0_21
def Q15.e0 : Ent where
 pre := []
 inv := [(0, .val .str), (20, .val (.int .i64))]
 car := ⟨[(21, .val (.int .i64))], []⟩
 exits := [(.ret, ⟨[(2, .val .bool)], []⟩), (.exit 0, ⟨[], []⟩)]
 step := fun iv x => Q15.s0 iv.1 iv.2 x
def Q15.f (a0 : ByteArray) : Option Bool :=
 (let y1 : Int := ((ByteArray.size a0 : Nat) : Int); (ob (Q1m.f y1 (1 : Int) (40 : Int)) fun r2 => (cb (!r2) (some false) (ck (0 ≤ (0 : Int) ∧ (0 : Int) < ((ByteArray.size a0 : Nat) : Int)) (cb (decide (((UInt8.toNat (bt a0 (0 : Int)) : Nat) : Int) < (97 : Int))) (some false) (ck (0 ≤ (0 : Int) ∧ (0 : Int) < ((ByteArray.size a0 : Nat) : Int)) (cb (decide ((122 : Int) < ((UInt8.toNat (bt a0 (0 : Int)) : Nat) : Int))) (some false) (let y3 : Int := ((ByteArray.size a0 : Nat) : Int); (ob (Q15.l0 a0 y3 (0 : Int)) fun r4 => (caseS r4 (fun a5 => (some a5)) (fun b6 => (some true))))))))))))
def Q15.fn : TFn := ⟨[.str], [.bool], fun x => Q15.f x⟩
def Q15.C : Cx := ⟨T, TYt, lkF [((90, [0, 0, 0]), Q1m.fn)], lkO [], lkD [], lkP [], [], [], false, [], [], lkS [], 50⟩
theorem Q15.hC : CxOK Tryz.prog Q15.C := ⟨tabOK, FsOK.cons Q1m.ok (FsOK.nil), OsOK.nil, mixed, (fun t h => by cases h), (fun t e h => by cases h), SsOK.nil⟩
def Q15.root : Code := bodyOf Tryz.f136
theorem Q15.h0 : LsOK Tryz.prog Q15.C Q15.root (lkL [([0, 1, 0, 1, 1], Q15.e0)]) :=
 LsOK.cons Q15.hC (LsOK.nil) (by kernel_rfl) (fun iv x => by kernel_rfl)
theorem Q15.ok : FnOK Tryz.prog 136 Q15.fn :=
 FnOK.of (L := lkL [([0, 1, 0, 1, 1], Q15.e0)]) (root := Q15.root) Q15.hC (enters_of (c := Q15.root) Tryz.func136 (by kernel_rfl) (by kernel_rfl)) Tryz.func136 (by kernel_rfl) (rs := [.tmp 2]) (by kernel_rfl) (by kernel_rfl) Q15.h0 (fun x => by kernel_rfl)
def Qt.s0 (v0_1 : (ByteArray × (ByteArray × (ByteArray × (ByteArray × (Int × ((List ByteArray) × ByteArray))))))) (v0_36 : (List ByteArray)) (v0_37 : Int) (x0_38 : Int) : Option (Int ⊕ (Int ⊕ Unit)) :=
 (cb (decide (x0_38 < v0_37)) (ck (0 ≤ x0_38 ∧ x0_38 < ((List.length v0_36 : Nat) : Int)) (let y11 : ByteArray := (rd ByteArray.empty v0_36 x0_38); (ob (Q1v.f y11) fun r12 => (cb (!r12) (some (.inr (.inl (3 : Int)))) (cb (decide ((0 : Int) < x0_38)) (ck (InR (x0_38 - (1 : Int))) (ck (0 ≤ (x0_38 - (1 : Int)) ∧ (x0_38 - (1 : Int)) < ((List.length v0_1.2.2.2.2.2.1 : Nat) : Int)) (let y13 : ByteArray := (rd ByteArray.empty v0_1.2.2.2.2.2.1 (x0_38 - (1 : Int))); (cb (bless y11 y13 || decide (y11 = y13)) (some (.inr (.inl (8 : Int)))) (ck (InR (x0_38 + (1 : Int))) (some (.inl (x0_38 + (1 : Int))))))))) (ck (InR (x0_38 + (1 : Int))) (some (.inl (x0_38 + (1 : Int)))))))))) (some (.inr (.inr ()))))
def Qt.l0 (v0_1 : (ByteArray × (ByteArray × (ByteArray × (ByteArray × (Int × ((List ByteArray) × ByteArray))))))) (v0_36 : (List ByteArray)) (v0_37 : Int) (x0_38 : Int) : Option (Int ⊕ Unit) :=
 loopX (fun (x : Int) => Qt.s0 v0_1 v0_36 v0_37 x) x0_38
def Qt.e0 : Ent where
 pre := []
 inv := [(1, .rp (.pair .str (.pair .str (.pair .str (.pair .str (.pair (.int .i64) (.pair (.slice .str) .str))))))), (36, .val (.slice .str)), (37, .val (.int .i64))]
 car := ⟨[(38, .val (.int .i64))], []⟩
 exits := [(.ret, ⟨[(2, .val (.int .i64))], []⟩), (.exit 1, ⟨[], []⟩)]
 step := fun iv x => Qt.s0 iv.1 iv.2.1 iv.2.2 x
def Qt.f (a0 : (ByteArray × (ByteArray × (ByteArray × (ByteArray × (Int × ((List ByteArray) × ByteArray))))))) : Option Int :=
 (ob (Q1v.f a0.1) fun r1 => (cb (!r1) (some (3 : Int)) (ob (Q25.f a0.2.1) fun r2 => (cb (!r2) (some (10 : Int)) (ob (Q1v.f a0.2.2.1) fun r3 => (cb (!r3) (some (3 : Int)) (ob (Q15.f a0.2.2.2.1) fun r4 => (cb (!r4) (some (5 : Int)) (ob (Q1m.f a0.2.2.2.2.1 (0 : Int) (1000000000 : Int)) fun r5 => (cb (!r5) (some (1 : Int)) (let y6 : Int := ((List.length a0.2.2.2.2.2.1 : Nat) : Int); (cb (decide ((50 : Int) < y6)) (some (2 : Int)) (let y7 : Int := ((List.length a0.2.2.2.2.2.1 : Nat) : Int); (ob (Qt.l0 a0 a0.2.2.2.2.2.1 y7 (0 : Int)) fun r14 => (caseS r14 (fun a15 => (some a15)) (fun b16 => (cb (!decide (a0.2.2.2.2.2.2 = bs_)) (ob (Q1v.f a0.2.2.2.2.2.2) fun r17 => (cb (!r17) (some (3 : Int)) (some (0 : Int)))) (some (0 : Int)))))))))))))))))))
def Qt.fn : TFn := ⟨[(.pair .str (.pair .str (.pair .str (.pair .str (.pair (.int .i64) (.pair (.slice .str) .str))))))], [(.int .i64)], fun x => Qt.f x⟩
def Qt.C : Cx := ⟨T, TYt, lkF [((89, [0]), Q1v.fn), ((90, [0, 0, 0]), Q1m.fn), ((135, [0]), Q25.fn), ((136, [0]), Q15.fn)], lkO [], lkD [], lkP [], [1], [], false, [], [], lkS [], 68⟩
theorem Qt.hC : CxOK Tryz.prog Qt.C := ⟨tabOK, FsOK.cons Q1v.ok (FsOK.cons Q1m.ok (FsOK.cons Q25.ok (FsOK.cons Q15.ok (FsOK.nil)))), OsOK.nil, mixed, (fun t h => by cases h), (fun t e h => by cases h), SsOK.nil⟩
def Qt.root : Code := bodyOf Tryz.f86
theorem Qt.h0 : LsOK Tryz.prog Qt.C Qt.root (lkL [([0, 1, 0, 1, 1], Qt.e0)]) :=
 LsOK.cons Qt.hC (LsOK.nil) (by kernel_rfl) (fun iv x => by kernel_rfl)
theorem Qt.ok : FnOK Tryz.prog 86 Qt.fn :=
 FnOK.of (L := lkL [([0, 1, 0, 1, 1], Qt.e0)]) (root := Qt.root) Qt.hC (enters_of (c := Qt.root) Tryz.func86 (by kernel_rfl) (by kernel_rfl)) Tryz.func86 (by kernel_rfl) (rs := [.tmp 2]) (by kernel_rfl) (by kernel_rfl) Qt.h0 (fun x => by kernel_rfl)
def Qx.s0 (v0_0 : (List (ByteArray × (ByteArray × (ByteArray × (ByteArray × (Int × ((List ByteArray) × ByteArray)))))))) (v0_9 : (List (ByteArray × (ByteArray × (ByteArray × (ByteArray × (Int × ((List ByteArray) × ByteArray)))))))) (v0_10 : Int) (x0_11 : Int) : Option (Int ⊕ (Int ⊕ Unit)) :=
 (cb (decide (x0_11 < v0_10)) (ck (0 ≤ x0_11 ∧ x0_11 < ((List.length v0_9 : Nat) : Int)) (let y6 : (ByteArray × (ByteArray × (ByteArray × (ByteArray × (Int × ((List ByteArray) × ByteArray)))))) := (rd (ByteArray.empty, (ByteArray.empty, (ByteArray.empty, (ByteArray.empty, ((0 : Int), (([] : (List ByteArray)), ByteArray.empty)))))) v0_9 x0_11); (ob (Qt.f y6) fun r7 => (cb (!decide (r7 = (0 : Int))) (some (.inr (.inl r7))) (cb (decide (y6.2.2.2.2.2.2 = bs_)) (some (.inr (.inl (3 : Int)))) (cb (decide ((0 : Int) < x0_11)) (ck (InR (x0_11 - (1 : Int))) (ck (0 ≤ (x0_11 - (1 : Int)) ∧ (x0_11 - (1 : Int)) < ((List.length v0_0 : Nat) : Int)) (let y8 : Int := (rd (ByteArray.empty, (ByteArray.empty, (ByteArray.empty, (ByteArray.empty, ((0 : Int), (([] : (List ByteArray)), ByteArray.empty)))))) v0_0 (x0_11 - (1 : Int))).2.2.2.2.1; (cb (decide (y6.2.2.2.2.1 < y8)) (some (.inr (.inl (8 : Int)))) (ck (InR (x0_11 + (1 : Int))) (some (.inl (x0_11 + (1 : Int))))))))) (ck (InR (x0_11 + (1 : Int))) (some (.inl (x0_11 + (1 : Int))))))))))) (some (.inr (.inr ()))))
def Qx.l0 (v0_0 : (List (ByteArray × (ByteArray × (ByteArray × (ByteArray × (Int × ((List ByteArray) × ByteArray)))))))) (v0_9 : (List (ByteArray × (ByteArray × (ByteArray × (ByteArray × (Int × ((List ByteArray) × ByteArray)))))))) (v0_10 : Int) (x0_11 : Int) : Option (Int ⊕ Unit) :=
 loopX (fun (x : Int) => Qx.s0 v0_0 v0_9 v0_10 x) x0_11
def Qx.e0 : Ent where
 pre := []
 inv := [(0, .val (.slice (.pair .str (.pair .str (.pair .str (.pair .str (.pair (.int .i64) (.pair (.slice .str) .str)))))))), (9, .val (.slice (.pair .str (.pair .str (.pair .str (.pair .str (.pair (.int .i64) (.pair (.slice .str) .str)))))))), (10, .val (.int .i64))]
 car := ⟨[(11, .val (.int .i64))], []⟩
 exits := [(.ret, ⟨[(2, .val (.int .i64))], []⟩), (.exit 0, ⟨[], []⟩)]
 step := fun iv x => Qx.s0 iv.1 iv.2.1 iv.2.2 x
def Qx.f (a0 : (List (ByteArray × (ByteArray × (ByteArray × (ByteArray × (Int × ((List ByteArray) × ByteArray)))))))) : Option Int :=
 (let y1 : Int := ((List.length a0 : Nat) : Int); (cb (decide ((1000 : Int) < y1)) (some (2 : Int)) (let y2 : Int := ((List.length a0 : Nat) : Int); (ob (Qx.l0 a0 a0 y2 (0 : Int)) fun r9 => (caseS r9 (fun a10 => (some a10)) (fun b11 => (some (0 : Int))))))))
def Qx.fn : TFn := ⟨[(.slice (.pair .str (.pair .str (.pair .str (.pair .str (.pair (.int .i64) (.pair (.slice .str) .str)))))))], [(.int .i64)], fun x => Qx.f x⟩
def Qx.C : Cx := ⟨T, TYt, lkF [((86, [0]), Qt.fn)], lkO [], lkD [(11, 11, [(0, true), (1, true), (2, true), (3, true), (4, true), (5, true), (6, true), (7, true), (8, true), (9, true), (10, true)], none)], lkP [], [4], [], false, [], [], lkS [], 38⟩
theorem Qx.hC : CxOK Tryz.prog Qx.C := ⟨tabOK, FsOK.cons Qt.ok (FsOK.nil), OsOK.nil, mixed, (fun t h => by cases h), (fun t e h => by cases h), SsOK.nil⟩
def Qx.root : Code := bodyOf Tryz.f37
theorem Qx.h0 : LsOK Tryz.prog Qx.C Qx.root (lkL [([0, 1, 0, 1, 1], Qx.e0)]) :=
 LsOK.cons Qx.hC (LsOK.nil) (by kernel_rfl) (fun iv x => by kernel_rfl)
theorem Qx.ok : FnOK Tryz.prog 37 Qx.fn :=
 FnOK.of (L := lkL [([0, 1, 0, 1, 1], Qx.e0)]) (root := Qx.root) Qx.hC (enters_of (c := Qx.root) Tryz.func37 (by kernel_rfl) (by kernel_rfl)) Tryz.func37 (by kernel_rfl) (rs := [.tmp 2]) (by kernel_rfl) (by kernel_rfl) Qx.h0 (fun x => by kernel_rfl)
def Qh.s0 (v0_0 : (List (ByteArray × (ByteArray × (ByteArray × (ByteArray × (Int × ((List ByteArray) × ByteArray)))))))) (v0_1 : (List (Int × (ByteArray × Int)))) (v0_16 : (List (Int × (ByteArray × Int)))) (v0_17 : Int) (x0_18 : Int) : Option (Int ⊕ (Int ⊕ Unit)) :=
 (cb (decide (x0_18 < v0_17)) (ck (0 ≤ x0_18 ∧ x0_18 < ((List.length v0_16 : Nat) : Int)) (let y11 : (Int × (ByteArray × Int)) := (rd ((0 : Int), (ByteArray.empty, (0 : Int))) v0_16 x0_18); (let y12 : Int := ((List.length v0_0 : Nat) : Int); (ck (InR (y12 - (1 : Int))) (ob (Q1m.f y11.1 (0 : Int) (y12 - (1 : Int))) fun r13 => (cb (!r13) (some (.inr (.inl (9 : Int)))) (ob (Q1v.f y11.2.1) fun r14 => (cb (!r14) (some (.inr (.inl (3 : Int)))) (ck (0 ≤ y11.1 ∧ y11.1 < ((List.length v0_0 : Nat) : Int)) (let y15 : Int := (rd (ByteArray.empty, (ByteArray.empty, (ByteArray.empty, (ByteArray.empty, ((0 : Int), (([] : (List ByteArray)), ByteArray.empty)))))) v0_0 y11.1).2.2.2.2.1; (ob (Q1m.f y11.2.2 y15 (1000000000 : Int)) fun r16 => (cb (!r16) (some (.inr (.inl (1 : Int)))) (cb (decide ((0 : Int) < x0_18)) (ck (InR (x0_18 - (1 : Int))) (ck (0 ≤ (x0_18 - (1 : Int)) ∧ (x0_18 - (1 : Int)) < ((List.length v0_1 : Nat) : Int)) (let y17 : Int := (rd ((0 : Int), (ByteArray.empty, (0 : Int))) v0_1 (x0_18 - (1 : Int))).2.2; (cb (decide (y11.2.2 < y17)) (some (.inr (.inl (8 : Int)))) (ck (InR (x0_18 + (1 : Int))) (some (.inl (x0_18 + (1 : Int))))))))) (ck (InR (x0_18 + (1 : Int))) (some (.inl (x0_18 + (1 : Int)))))))))))))))))) (some (.inr (.inr ()))))
def Qh.l0 (v0_0 : (List (ByteArray × (ByteArray × (ByteArray × (ByteArray × (Int × ((List ByteArray) × ByteArray)))))))) (v0_1 : (List (Int × (ByteArray × Int)))) (v0_16 : (List (Int × (ByteArray × Int)))) (v0_17 : Int) (x0_18 : Int) : Option (Int ⊕ Unit) :=
 loopX (fun (x : Int) => Qh.s0 v0_0 v0_1 v0_16 v0_17 x) x0_18
def Qh.e0 : Ent where
 pre := []
 inv := [(0, .val (.slice (.pair .str (.pair .str (.pair .str (.pair .str (.pair (.int .i64) (.pair (.slice .str) .str)))))))), (1, .val (.slice (.pair (.int .i64) (.pair .str (.int .i64))))), (16, .val (.slice (.pair (.int .i64) (.pair .str (.int .i64))))), (17, .val (.int .i64))]
 car := ⟨[(18, .val (.int .i64))], []⟩
 exits := [(.ret, ⟨[(4, .val (.int .i64))], []⟩), (.exit 0, ⟨[], []⟩)]
 step := fun iv x => Qh.s0 iv.1 iv.2.1 iv.2.2.1 iv.2.2.2 x
def Qh.f (a0 : (List (ByteArray × (ByteArray × (ByteArray × (ByteArray × (Int × ((List ByteArray) × ByteArray)))))))) (a1 : (List (Int × (ByteArray × Int)))) : Option Int :=
 (ob (Qx.f a0) fun r1 => (cb (!decide (r1 = (0 : Int))) (some r1) (let y2 : Int := ((List.length a1 : Nat) : Int); (cb (decide ((1000 : Int) < y2)) (some (2 : Int)) (let y3 : Int := ((List.length a1 : Nat) : Int); (ob (Qh.l0 a0 a1 a1 y3 (0 : Int)) fun r18 => (caseS r18 (fun a19 => (some a19)) (fun b20 => (some (0 : Int))))))))))
def Qh.fn : TFn := ⟨[(.slice (.pair .str (.pair .str (.pair .str (.pair .str (.pair (.int .i64) (.pair (.slice .str) .str))))))), (.slice (.pair (.int .i64) (.pair .str (.int .i64))))], [(.int .i64)], fun x => Qh.f x.1 x.2⟩
def Qh.C : Cx := ⟨T, TYt, lkF [((37, [0]), Qx.fn), ((89, [0]), Q1v.fn), ((90, [0, 0, 0]), Q1m.fn)], lkO [], lkD [(13, 8, [(0, true), (1, true), (2, true), (3, true), (4, true), (5, true), (6, true), (7, true)], none), (15, 11, [(0, true), (1, true), (2, true), (3, true), (4, true), (5, true), (6, true), (7, true), (8, true), (9, true), (10, true)], none)], lkP [], [7], [], false, [], [], lkS [], 62⟩
theorem Qh.hC : CxOK Tryz.prog Qh.C := ⟨tabOK, FsOK.cons Qx.ok (FsOK.cons Q1v.ok (FsOK.cons Q1m.ok (FsOK.nil))), OsOK.nil, mixed, (fun t h => by cases h), (fun t e h => by cases h), SsOK.nil⟩
def Qh.root : Code := bodyOf Tryz.f66
theorem Qh.h0 : LsOK Tryz.prog Qh.C Qh.root (lkL [([0, 1, 0, 1, 1, 1], Qh.e0)]) :=
 LsOK.cons Qh.hC (LsOK.nil) (by kernel_rfl) (fun iv x => by kernel_rfl)
theorem Qh.ok : FnOK Tryz.prog 66 Qh.fn :=
 FnOK.of (L := lkL [([0, 1, 0, 1, 1, 1], Qh.e0)]) (root := Qh.root) Qh.hC (enters_of (c := Qh.root) Tryz.func66 (by kernel_rfl) (by kernel_rfl)) Tryz.func66 (by kernel_rfl) (rs := [.tmp 4]) (by kernel_rfl) (by kernel_rfl) Qh.h0 (fun x => by kernel_rfl)
def Q5.s0 (v0_1 : (List (ByteArray × (ByteArray × (ByteArray × (ByteArray × (Int × ((List ByteArray) × ByteArray)))))))) (v0_2 : Int) (v0_3 : ((List Bool) × ((List Bool) × ((List Bool) × (List ByteArray))))) (v0_17 : (List (ByteArray × (ByteArray × (ByteArray × (ByteArray × (Int × ((List ByteArray) × ByteArray)))))))) (v0_18 : Int) (x0_7 : Int) (x0_19 : Int) : Option ((Int × Int) ⊕ Int) :=
 (cb (decide (x0_19 < v0_18)) (ck (0 ≤ x0_19 ∧ x0_19 < ((List.length v0_17 : Nat) : Int)) (let y4 : (ByteArray × (ByteArray × (ByteArray × (ByteArray × (Int × ((List ByteArray) × ByteArray)))))) := (rd (ByteArray.empty, (ByteArray.empty, (ByteArray.empty, (ByteArray.empty, ((0 : Int), (([] : (List ByteArray)), ByteArray.empty)))))) v0_17 x0_19); (ck (0 ≤ v0_2 ∧ v0_2 < ((List.length v0_1 : Nat) : Int)) (let y5 : ByteArray := (rd (ByteArray.empty, (ByteArray.empty, (ByteArray.empty, (ByteArray.empty, ((0 : Int), (([] : (List ByteArray)), ByteArray.empty)))))) v0_1 v0_2).2.2.2.1; (cb (decide (y4.2.2.2.1 = y5)) (ck (0 ≤ x0_19 ∧ x0_19 < ((List.length v0_3.2.1 : Nat) : Int)) (cb (rd false v0_3.2.1 x0_19) (some (.inr x0_19)) (ck (InR (x0_19 + (1 : Int))) (some (.inl (x0_7, (x0_19 + (1 : Int)))))))) (ck (InR (x0_19 + (1 : Int))) (some (.inl (x0_7, (x0_19 + (1 : Int))))))))))) (some (.inr x0_7)))
def Q5.l0 (v0_1 : (List (ByteArray × (ByteArray × (ByteArray × (ByteArray × (Int × ((List ByteArray) × ByteArray)))))))) (v0_2 : Int) (v0_3 : ((List Bool) × ((List Bool) × ((List Bool) × (List ByteArray))))) (v0_17 : (List (ByteArray × (ByteArray × (ByteArray × (ByteArray × (Int × ((List ByteArray) × ByteArray)))))))) (v0_18 : Int) (x0_7 : Int) (x0_19 : Int) : Option Int :=
 loopX (fun (x : (Int × Int)) => Q5.s0 v0_1 v0_2 v0_3 v0_17 v0_18 x.1 x.2) (x0_7, x0_19)
def Q5.e0 : Ent where
 pre := []
 inv := [(1, .val (.slice (.pair .str (.pair .str (.pair .str (.pair .str (.pair (.int .i64) (.pair (.slice .str) .str)))))))), (2, .val (.int .i64)), (3, .rp (.pair (.slice .bool) (.pair (.slice .bool) (.pair (.slice .bool) (.slice .str))))), (17, .val (.slice (.pair .str (.pair .str (.pair .str (.pair .str (.pair (.int .i64) (.pair (.slice .str) .str)))))))), (18, .val (.int .i64))]
 car := ⟨[(7, .val (.int .i64)), (19, .val (.int .i64))], []⟩
 exits := [(.exit 0, ⟨[(7, .val (.int .i64))], []⟩)]
 step := fun iv x => Q5.s0 iv.1 iv.2.1 iv.2.2.1 iv.2.2.2.1 iv.2.2.2.2 x.1 x.2
def Q5.s1 (v1_1 : (List (ByteArray × (ByteArray × (ByteArray × (ByteArray × (Int × ((List ByteArray) × ByteArray)))))))) (v1_2 : Int) (v1_3 : ((List Bool) × ((List Bool) × ((List Bool) × (List ByteArray))))) (v1_7 : Int) (x1_10 : Int) (x1_11 : Int) : Option ((Int × Int) ⊕ Int) :=
 (cb (decide (x1_11 < v1_7)) (ck (0 ≤ x1_11 ∧ x1_11 < ((List.length v1_1 : Nat) : Int)) (let y9 : ByteArray := (rd (ByteArray.empty, (ByteArray.empty, (ByteArray.empty, (ByteArray.empty, ((0 : Int), (([] : (List ByteArray)), ByteArray.empty)))))) v1_1 x1_11).2.2.2.1; (ck (0 ≤ v1_2 ∧ v1_2 < ((List.length v1_1 : Nat) : Int)) (let y10 : ByteArray := (rd (ByteArray.empty, (ByteArray.empty, (ByteArray.empty, (ByteArray.empty, ((0 : Int), (([] : (List ByteArray)), ByteArray.empty)))))) v1_1 v1_2).2.2.2.1; (cb (decide (y9 = y10)) (ck (0 ≤ x1_11 ∧ x1_11 < ((List.length v1_3.1 : Nat) : Int)) (cb (rd false v1_3.1 x1_11) (ck (0 ≤ x1_11 ∧ x1_11 < ((List.length v1_3.2.1 : Nat) : Int)) (cb (!(rd false v1_3.2.1 x1_11)) (ck (InR (x1_11 + (1 : Int))) (some (.inl (x1_11, (x1_11 + (1 : Int)))))) (ck (InR (x1_11 + (1 : Int))) (some (.inl (x1_10, (x1_11 + (1 : Int)))))))) (ck (InR (x1_11 + (1 : Int))) (some (.inl (x1_10, (x1_11 + (1 : Int)))))))) (ck (InR (x1_11 + (1 : Int))) (some (.inl (x1_10, (x1_11 + (1 : Int))))))))))) (some (.inr x1_10)))
def Q5.l1 (v1_1 : (List (ByteArray × (ByteArray × (ByteArray × (ByteArray × (Int × ((List ByteArray) × ByteArray)))))))) (v1_2 : Int) (v1_3 : ((List Bool) × ((List Bool) × ((List Bool) × (List ByteArray))))) (v1_7 : Int) (x1_10 : Int) (x1_11 : Int) : Option Int :=
 loopX (fun (x : (Int × Int)) => Q5.s1 v1_1 v1_2 v1_3 v1_7 x.1 x.2) (x1_10, x1_11)
def Q5.e1 : Ent where
 pre := []
 inv := [(1, .val (.slice (.pair .str (.pair .str (.pair .str (.pair .str (.pair (.int .i64) (.pair (.slice .str) .str)))))))), (2, .val (.int .i64)), (3, .rp (.pair (.slice .bool) (.pair (.slice .bool) (.pair (.slice .bool) (.slice .str))))), (7, .val (.int .i64))]
 car := ⟨[(10, .val (.int .i64)), (11, .val (.int .i64))], []⟩
 exits := [(.exit 2, ⟨[(10, .val (.int .i64))], []⟩)]
 step := fun iv x => Q5.s1 iv.1 iv.2.1 iv.2.2.1 iv.2.2.2 x.1 x.2
def Q5.f (a0 : ((List Bool) × ((List Bool) × ((List Bool) × (List ByteArray))))) (a1 : (List (ByteArray × (ByteArray × (ByteArray × (ByteArray × (Int × ((List ByteArray) × ByteArray)))))))) (a2 : Int) : Option Bool :=
 (ck (0 ≤ a2 ∧ a2 < ((List.length a0.1 : Nat) : Int)) (cb (rd false a0.1 a2) (some false) (let y1 : Int := ((List.length a1 : Nat) : Int); (ob (Q5.l0 a1 a2 a0 a1 y1 (-1 : Int) (0 : Int)) fun r6 => (ob (Q5.l1 a1 a2 a0 r6 (-1 : Int) (0 : Int)) fun r11 => (cb (decide ((0 : Int) ≤ r6)) (some (decide (r11 < a2))) (some false)))))))
def Q5.fn : TFn := ⟨[(.pair (.slice .bool) (.pair (.slice .bool) (.pair (.slice .bool) (.slice .str)))), (.slice (.pair .str (.pair .str (.pair .str (.pair .str (.pair (.int .i64) (.pair (.slice .str) .str))))))), (.int .i64)], [.bool], fun x => Q5.f x.1 x.2.1 x.2.2⟩
def Q5.C : Cx := ⟨T, TYt, lkF [], lkO [], lkD [(7, 12, [(0, true), (1, true), (2, true), (3, true), (4, true), (5, true), (6, true), (7, true), (8, true), (9, true), (10, true), (11, true)], none), (14, 22, [(0, true), (1, true), (2, true), (3, true), (4, true), (5, true), (6, true), (7, true), (8, true), (9, true), (10, true), (11, true), (12, true), (13, true), (14, true), (15, true), (16, true), (17, true), (18, true), (19, true), (20, true), (21, true)], none)], lkP [], [3, 9], [], false, [], [], lkS [], 80⟩
theorem Q5.hC : CxOK Tryz.prog Q5.C := ⟨tabOK, FsOK.nil, OsOK.nil, mixed, (fun t h => by cases h), (fun t e h => by cases h), SsOK.nil⟩
def Q5.root : Code := bodyOf Tryz.f156
theorem Q5.h0 : LsOK Tryz.prog Q5.C Q5.root (lkL [([0, 1, 0, 1, 1, 1], Q5.e0)]) :=
 LsOK.cons Q5.hC (LsOK.nil) (by kernel_rfl) (fun iv x => by kernel_rfl)
theorem Q5.h1 : LsOK Tryz.prog Q5.C Q5.root (lkL [([0, 1, 0, 1, 1, 1, 1, 1], Q5.e1), ([0, 1, 0, 1, 1, 1], Q5.e0)]) :=
 LsOK.cons Q5.hC (Q5.h0) (by kernel_rfl) (fun iv x => by kernel_rfl)
theorem Q5.ok : FnOK Tryz.prog 156 Q5.fn :=
 FnOK.of (L := lkL [([0, 1, 0, 1, 1, 1, 1, 1], Q5.e1), ([0, 1, 0, 1, 1, 1], Q5.e0)]) (root := Q5.root) Q5.hC (enters_of (c := Q5.root) Tryz.func156 (by kernel_rfl) (by kernel_rfl)) Tryz.func156 (by kernel_rfl) (rs := [.tmp 6]) (by kernel_rfl) (by kernel_rfl) Q5.h1 (fun x => by kernel_rfl)
def Qa.s1 (v1_1 : (List (ByteArray × (ByteArray × (ByteArray × (ByteArray × (Int × ((List ByteArray) × ByteArray)))))))) (v1_3 : ((List Bool) × ((List Bool) × ((List Bool) × (List ByteArray))))) (v1_8 : ByteArray) (v1_22 : Int) (x1_9 : Bool) (x1_10 : Bool) (x1_23 : Int) : Option ((Bool × (Bool × Int)) ⊕ (Bool × Bool)) :=
 (cb (decide (x1_23 < v1_22)) (ck (0 ≤ x1_23 ∧ x1_23 < ((List.length v1_1 : Nat) : Int)) (let y5 : ByteArray := (rd (ByteArray.empty, (ByteArray.empty, (ByteArray.empty, (ByteArray.empty, ((0 : Int), (([] : (List ByteArray)), ByteArray.empty)))))) v1_1 x1_23).2.2.1; (cb (decide (y5 = v1_8)) (cb x1_9 (cb x1_10 (ck (InR (x1_23 + (1 : Int))) (some (.inl (true, true, (x1_23 + (1 : Int)))))) (ck (0 ≤ x1_23 ∧ x1_23 < ((List.length v1_3.2.2.1 : Nat) : Int)) (ck (InR (x1_23 + (1 : Int))) (some (.inl (true, (!(rd false v1_3.2.2.1 x1_23)), (x1_23 + (1 : Int)))))))) (ck (0 ≤ x1_23 ∧ x1_23 < ((List.length v1_3.2.2.1 : Nat) : Int)) (cb x1_10 (ck (InR (x1_23 + (1 : Int))) (some (.inl ((rd false v1_3.2.2.1 x1_23), true, (x1_23 + (1 : Int)))))) (ck (0 ≤ x1_23 ∧ x1_23 < ((List.length v1_3.2.2.1 : Nat) : Int)) (ck (InR (x1_23 + (1 : Int))) (some (.inl ((rd false v1_3.2.2.1 x1_23), (!(rd false v1_3.2.2.1 x1_23)), (x1_23 + (1 : Int)))))))))) (ck (InR (x1_23 + (1 : Int))) (some (.inl (x1_9, x1_10, (x1_23 + (1 : Int))))))))) (some (.inr (x1_9, x1_10))))
def Qa.l1 (v1_1 : (List (ByteArray × (ByteArray × (ByteArray × (ByteArray × (Int × ((List ByteArray) × ByteArray)))))))) (v1_3 : ((List Bool) × ((List Bool) × ((List Bool) × (List ByteArray))))) (v1_8 : ByteArray) (v1_22 : Int) (x1_9 : Bool) (x1_10 : Bool) (x1_23 : Int) : Option (Bool × Bool) :=
 loopX (fun (x : (Bool × (Bool × Int))) => Qa.s1 v1_1 v1_3 v1_8 v1_22 x.1 x.2.1 x.2.2) (x1_9, x1_10, x1_23)
def Qa.e1 : Ent where
 pre := []
 inv := [(1, .val (.slice (.pair .str (.pair .str (.pair .str (.pair .str (.pair (.int .i64) (.pair (.slice .str) .str)))))))), (2, .val (.int .i64)), (3, .rp (.pair (.slice .bool) (.pair (.slice .bool) (.pair (.slice .bool) (.slice .str))))), (8, .val .str), (16, .val (.slice .str)), (17, .val (.int .i64)), (18, .val (.int .i64)), (22, .val (.int .i64))]
 car := ⟨[(9, .val .bool), (10, .val .bool), (23, .val (.int .i64))], []⟩
 exits := [(.exit 2, ⟨[(9, .val .bool), (10, .val .bool)], []⟩)]
 step := fun iv x => Qa.s1 iv.1 iv.2.2.1 iv.2.2.2.1 iv.2.2.2.2.2.2.2 x.1 x.2.1 x.2.2
def Qa.s0 (v0_1 : (List (ByteArray × (ByteArray × (ByteArray × (ByteArray × (Int × ((List ByteArray) × ByteArray)))))))) (v0_2 : Int) (v0_3 : ((List Bool) × ((List Bool) × ((List Bool) × (List ByteArray))))) (v0_16 : (List ByteArray)) (v0_17 : Int) (x0_18 : Int) : Option (Int ⊕ (Bool ⊕ Unit)) :=
 (cb (decide (x0_18 < v0_17)) (ck (0 ≤ x0_18 ∧ x0_18 < ((List.length v0_16 : Nat) : Int)) (let y7 : ByteArray := (rd ByteArray.empty v0_16 x0_18); (ob (Qa.l1 v0_1 v0_3 y7 v0_2 false false (0 : Int)) fun r8 => (cb r8.1 (cb (!r8.2) (some (.inr (.inl true))) (ck (InR (x0_18 + (1 : Int))) (some (.inl (x0_18 + (1 : Int)))))) (ck (InR (x0_18 + (1 : Int))) (some (.inl (x0_18 + (1 : Int))))))))) (some (.inr (.inr ()))))
def Qa.l0 (v0_1 : (List (ByteArray × (ByteArray × (ByteArray × (ByteArray × (Int × ((List ByteArray) × ByteArray)))))))) (v0_2 : Int) (v0_3 : ((List Bool) × ((List Bool) × ((List Bool) × (List ByteArray))))) (v0_16 : (List ByteArray)) (v0_17 : Int) (x0_18 : Int) : Option (Bool ⊕ Unit) :=
 loopX (fun (x : Int) => Qa.s0 v0_1 v0_2 v0_3 v0_16 v0_17 x) x0_18
def Qa.e0 : Ent where
 pre := []
 inv := [(1, .val (.slice (.pair .str (.pair .str (.pair .str (.pair .str (.pair (.int .i64) (.pair (.slice .str) .str)))))))), (2, .val (.int .i64)), (3, .rp (.pair (.slice .bool) (.pair (.slice .bool) (.pair (.slice .bool) (.slice .str))))), (16, .val (.slice .str)), (17, .val (.int .i64))]
 car := ⟨[(18, .val (.int .i64))], []⟩
 exits := [(.ret, ⟨[(6, .val .bool)], []⟩), (.exit 0, ⟨[], []⟩)]
 step := fun iv x => Qa.s0 iv.1 iv.2.1 iv.2.2.1 iv.2.2.2.1 iv.2.2.2.2 x
def Qa.f (a0 : ((List Bool) × ((List Bool) × ((List Bool) × (List ByteArray))))) (a1 : (List (ByteArray × (ByteArray × (ByteArray × (ByteArray × (Int × ((List ByteArray) × ByteArray)))))))) (a2 : Int) : Option Bool :=
 (ck (0 ≤ a2 ∧ a2 < ((List.length a1 : Nat) : Int)) (let y1 : (List ByteArray) := (rd (ByteArray.empty, (ByteArray.empty, (ByteArray.empty, (ByteArray.empty, ((0 : Int), (([] : (List ByteArray)), ByteArray.empty)))))) a1 a2).2.2.2.2.2.1; (let y2 : Int := ((List.length y1 : Nat) : Int); (ob (Qa.l0 a1 a2 a0 y1 y2 (0 : Int)) fun r9 => (caseS r9 (fun a10 => (some a10)) (fun b11 => (some false)))))))
def Qa.fn : TFn := ⟨[(.pair (.slice .bool) (.pair (.slice .bool) (.pair (.slice .bool) (.slice .str)))), (.slice (.pair .str (.pair .str (.pair .str (.pair .str (.pair (.int .i64) (.pair (.slice .str) .str))))))), (.int .i64)], [.bool], fun x => Qa.f x.1 x.2.1 x.2.2⟩
def Qa.C : Cx := ⟨T, TYt, lkF [], lkO [], lkD [(9, 18, [(0, true), (1, true), (2, true), (3, true), (4, true), (5, true), (6, true), (7, true), (8, true), (9, true), (10, true), (11, true), (12, true), (13, true), (14, true), (15, true), (16, true), (17, true)], none)], lkP [], [3], [], false, [], [], lkS [], 57⟩
theorem Qa.hC : CxOK Tryz.prog Qa.C := ⟨tabOK, FsOK.nil, OsOK.nil, mixed, (fun t h => by cases h), (fun t e h => by cases h), SsOK.nil⟩
def Qa.root : Code := bodyOf Tryz.f157
theorem Qa.h1 : LsOK Tryz.prog Qa.C Qa.root (lkL [([0, 1, 0, 1, 1, 0, 0, 1, 1, 0, 0, 1, 0, 1], Qa.e1)]) :=
 LsOK.cons Qa.hC (LsOK.nil) (by kernel_rfl) (fun iv x => by kernel_rfl)
theorem Qa.h0 : LsOK Tryz.prog Qa.C Qa.root (lkL [([0, 1, 0, 1], Qa.e0), ([0, 1, 0, 1, 1, 0, 0, 1, 1, 0, 0, 1, 0, 1], Qa.e1)]) :=
 LsOK.cons Qa.hC (Qa.h1) (by kernel_rfl) (fun iv x => by kernel_rfl)
theorem Qa.ok : FnOK Tryz.prog 157 Qa.fn :=
 FnOK.of (L := lkL [([0, 1, 0, 1], Qa.e0), ([0, 1, 0, 1, 1, 0, 0, 1, 1, 0, 0, 1, 0, 1], Qa.e1)]) (root := Qa.root) Qa.hC (enters_of (c := Qa.root) Tryz.func157 (by kernel_rfl) (by kernel_rfl)) Tryz.func157 (by kernel_rfl) (rs := [.tmp 6]) (by kernel_rfl) (by kernel_rfl) Qa.h0 (fun x => by kernel_rfl)
def Q1.s0 (v0_0 : (List (ByteArray × (ByteArray × (ByteArray × (ByteArray × (Int × ((List ByteArray) × ByteArray)))))))) (v0_21 : (List (Int × (ByteArray × Int)))) (v0_22 : Int) (x0_23 : Int) (o0_1 : (List Bool)) (o0_2 : (List Bool)) (o0_3 : (List Bool)) : Option ((Int × ((List Bool) × ((List Bool) × (List Bool)))) ⊕ ((List Bool) × ((List Bool) × (List Bool)))) :=
 (cb (decide (x0_23 < v0_22)) (ck (0 ≤ x0_23 ∧ x0_23 < ((List.length v0_21 : Nat) : Int)) (let y4 : (Int × (ByteArray × Int)) := (rd ((0 : Int), (ByteArray.empty, (0 : Int))) v0_21 x0_23); (ck (0 ≤ y4.1 ∧ y4.1 < ((List.length o0_1 : Nat) : Int)) (ck ((Int.toNat y4.1) < List.length o0_1) (ck (0 ≤ y4.1 ∧ y4.1 < ((List.length o0_2 : Nat) : Int)) (ck ((Int.toNat y4.1) < List.length o0_2) (cb (List.getD o0_2 (Int.toNat y4.1) false) (ck (0 ≤ y4.1 ∧ y4.1 < ((List.length o0_2 : Nat) : Int)) (ck ((Int.toNat y4.1) < List.length o0_2) (ck (InR (x0_23 + (1 : Int))) (some (.inl ((x0_23 + (1 : Int)), (List.set o0_1 (Int.toNat y4.1) true), (List.set o0_2 (Int.toNat y4.1) true), o0_3)))))) (ck (0 ≤ y4.1 ∧ y4.1 < ((List.length v0_0 : Nat) : Int)) (let y5 : ByteArray := (rd (ByteArray.empty, (ByteArray.empty, (ByteArray.empty, (ByteArray.empty, ((0 : Int), (([] : (List ByteArray)), ByteArray.empty)))))) v0_0 y4.1).2.2.1; (ck (0 ≤ y4.1 ∧ y4.1 < ((List.length o0_2 : Nat) : Int)) (ck ((Int.toNat y4.1) < List.length o0_2) (ck (InR (x0_23 + (1 : Int))) (some (.inl ((x0_23 + (1 : Int)), (List.set o0_1 (Int.toNat y4.1) true), (List.set o0_2 (Int.toNat y4.1) (!decide (y4.2.1 = y5))), o0_3))))))))))))))) (some (.inr (o0_1, o0_2, o0_3))))
def Q1.l0 (v0_0 : (List (ByteArray × (ByteArray × (ByteArray × (ByteArray × (Int × ((List ByteArray) × ByteArray)))))))) (v0_21 : (List (Int × (ByteArray × Int)))) (v0_22 : Int) (x0_23 : Int) (o0_1 : (List Bool)) (o0_2 : (List Bool)) (o0_3 : (List Bool)) : Option ((List Bool) × ((List Bool) × (List Bool))) :=
 loopX (fun (x : (Int × ((List Bool) × ((List Bool) × (List Bool))))) => Q1.s0 v0_0 v0_21 v0_22 x.1 x.2.1 x.2.2.1 x.2.2.2) (x0_23, o0_1, o0_2, o0_3)
def Q1.e0 : Ent where
 pre := []
 inv := [(0, .val (.slice (.pair .str (.pair .str (.pair .str (.pair .str (.pair (.int .i64) (.pair (.slice .str) .str)))))))), (21, .val (.slice (.pair (.int .i64) (.pair .str (.int .i64))))), (22, .val (.int .i64))]
 car := ⟨[(4, .ptr 0 4), (5, .ptr 4 4), (23, .val (.int .i64))], [.box 123 [.nil, .nil, .nil, .nil], .row 4 .bool, .row 4 .bool, .row 4 .bool, .box 123 [.own 1 1, .own 2 1, .own 3 1, .nil]]⟩
 exits := [(.exit 0, ⟨[(4, .ptr 0 4), (5, .ptr 4 4)], [.box 123 [.nil, .nil, .nil, .nil], .row 4 .bool, .row 4 .bool, .row 4 .bool, .box 123 [.own 1 1, .own 2 1, .own 3 1, .nil]]⟩)]
 step := fun iv x => Q1.s0 iv.1 iv.2.1 iv.2.2 x.1 x.2.1 x.2.2.1 x.2.2.2
def Q1.s1 (v1_55 : (List (ByteArray × (ByteArray × (ByteArray × (ByteArray × (Int × ((List ByteArray) × ByteArray)))))))) (v1_56 : Int) (x1_57 : Int) (o1_1 : (List Bool)) (o1_2 : (List Bool)) (o1_3 : (List Bool)) (o1_5 : (List ByteArray)) (o1_6 : (List ByteArray)) : Option ((Int × ((List Bool) × ((List Bool) × ((List Bool) × ((List ByteArray) × (List ByteArray)))))) ⊕ ((List Bool) × ((List Bool) × ((List Bool) × ((List ByteArray) × (List ByteArray)))))) :=
 (cb (decide (x1_57 < v1_56)) (ck (0 ≤ x1_57 ∧ x1_57 < ((List.length v1_55 : Nat) : Int)) (let y9 : (ByteArray × (ByteArray × (ByteArray × (ByteArray × (Int × ((List ByteArray) × ByteArray)))))) := (rd (ByteArray.empty, (ByteArray.empty, (ByteArray.empty, (ByteArray.empty, ((0 : Int), (([] : (List ByteArray)), ByteArray.empty)))))) v1_55 x1_57); (ck (0 ≤ x1_57 ∧ x1_57 < ((List.length o1_2 : Nat) : Int)) (ck ((Int.toNat x1_57) < List.length o1_2) (cb (List.getD o1_2 (Int.toNat x1_57) false) (ck ((List.length o1_6 + List.length ([y9.2.2.2.1] : List ByteArray)) * 16 ≤ 140737488355328) (ck (InR (x1_57 + (1 : Int))) (some (.inl ((x1_57 + (1 : Int)), o1_1, o1_2, o1_3, o1_5, (o1_6 ++ ([y9.2.2.2.1] : List ByteArray))))))) (ck (InR (x1_57 + (1 : Int))) (some (.inl ((x1_57 + (1 : Int)), o1_1, o1_2, o1_3, o1_5, o1_6))))))))) (some (.inr (o1_1, o1_2, o1_3, o1_5, o1_6))))
def Q1.l1 (v1_55 : (List (ByteArray × (ByteArray × (ByteArray × (ByteArray × (Int × ((List ByteArray) × ByteArray)))))))) (v1_56 : Int) (x1_57 : Int) (o1_1 : (List Bool)) (o1_2 : (List Bool)) (o1_3 : (List Bool)) (o1_5 : (List ByteArray)) (o1_6 : (List ByteArray)) : Option ((List Bool) × ((List Bool) × ((List Bool) × ((List ByteArray) × (List ByteArray))))) :=
 loopX (fun (x : (Int × ((List Bool) × ((List Bool) × ((List Bool) × ((List ByteArray) × (List ByteArray))))))) => Q1.s1 v1_55 v1_56 x.1 x.2.1 x.2.2.1 x.2.2.2.1 x.2.2.2.2.1 x.2.2.2.2.2) (x1_57, o1_1, o1_2, o1_3, o1_5, o1_6)
def Q1.e1 : Ent where
 pre := [.nilB 0 3 9 .str, .nilB 4 3 9 .str]
 inv := [(0, .val (.slice (.pair .str (.pair .str (.pair .str (.pair .str (.pair (.int .i64) (.pair (.slice .str) .str)))))))), (55, .val (.slice (.pair .str (.pair .str (.pair .str (.pair .str (.pair (.int .i64) (.pair (.slice .str) .str)))))))), (56, .val (.int .i64))]
 car := ⟨[(4, .ptr 0 4), (5, .ptr 4 4), (57, .val (.int .i64))], [.box 123 [.nil, .nil, .nil, .own 5 1], .row 4 .bool, .row 4 .bool, .row 4 .bool, .box 123 [.own 1 1, .own 2 1, .own 3 1, .own 6 1], .row 9 .str, .row 9 .str]⟩
 exits := [(.exit 2, ⟨[(4, .ptr 0 4), (5, .ptr 4 4)], [.box 123 [.nil, .nil, .nil, .own 5 1], .row 4 .bool, .row 4 .bool, .row 4 .bool, .box 123 [.own 1 1, .own 2 1, .own 3 1, .own 6 1], .row 9 .str, .row 9 .str]⟩)]
 step := fun iv x => Q1.s1 iv.2.1 iv.2.2 x.1 x.2.1 x.2.2.1 x.2.2.2.1 x.2.2.2.2.1 x.2.2.2.2.2
def Q1.s2 (v2_0 : (List (ByteArray × (ByteArray × (ByteArray × (ByteArray × (Int × ((List ByteArray) × ByteArray)))))))) (v2_83 : Int) (x2_84 : Int) (o2_1 : (List Bool)) (o2_2 : (List Bool)) (o2_3 : (List Bool)) (o2_5 : (List ByteArray)) (o2_6 : (List ByteArray)) : Option ((Int × ((List Bool) × ((List Bool) × ((List Bool) × ((List ByteArray) × (List ByteArray)))))) ⊕ ((List Bool) × ((List Bool) × ((List Bool) × ((List ByteArray) × (List ByteArray)))))) :=
 (cb (decide (x2_84 < v2_83)) (ck (0 ≤ x2_84 ∧ x2_84 < ((List.length o2_2 : Nat) : Int)) (ck ((Int.toNat x2_84) < List.length o2_2) (cb (List.getD o2_2 (Int.toNat x2_84) false) (ck (0 ≤ x2_84 ∧ x2_84 < ((List.length o2_3 : Nat) : Int)) (ck ((Int.toNat x2_84) < List.length o2_3) (ck (InR (x2_84 + (1 : Int))) (some (.inl ((x2_84 + (1 : Int)), o2_1, o2_2, (List.set o2_3 (Int.toNat x2_84) true), o2_5, o2_6)))))) (ob (Q5.f (o2_1, (o2_2, (o2_3, o2_6))) v2_0 x2_84) fun r14 => (cb r14 (ck (0 ≤ x2_84 ∧ x2_84 < ((List.length o2_3 : Nat) : Int)) (ck ((Int.toNat x2_84) < List.length o2_3) (ck (InR (x2_84 + (1 : Int))) (some (.inl ((x2_84 + (1 : Int)), o2_1, o2_2, (List.set o2_3 (Int.toNat x2_84) true), o2_5, o2_6)))))) (ob (Qa.f (o2_1, (o2_2, (o2_3, o2_6))) v2_0 x2_84) fun r15 => (ck (0 ≤ x2_84 ∧ x2_84 < ((List.length o2_3 : Nat) : Int)) (ck ((Int.toNat x2_84) < List.length o2_3) (ck (InR (x2_84 + (1 : Int))) (some (.inl ((x2_84 + (1 : Int)), o2_1, o2_2, (List.set o2_3 (Int.toNat x2_84) r15), o2_5, o2_6)))))))))))) (some (.inr (o2_1, o2_2, o2_3, o2_5, o2_6))))
def Q1.l2 (v2_0 : (List (ByteArray × (ByteArray × (ByteArray × (ByteArray × (Int × ((List ByteArray) × ByteArray)))))))) (v2_83 : Int) (x2_84 : Int) (o2_1 : (List Bool)) (o2_2 : (List Bool)) (o2_3 : (List Bool)) (o2_5 : (List ByteArray)) (o2_6 : (List ByteArray)) : Option ((List Bool) × ((List Bool) × ((List Bool) × ((List ByteArray) × (List ByteArray))))) :=
 loopX (fun (x : (Int × ((List Bool) × ((List Bool) × ((List Bool) × ((List ByteArray) × (List ByteArray))))))) => Q1.s2 v2_0 v2_83 x.1 x.2.1 x.2.2.1 x.2.2.2.1 x.2.2.2.2.1 x.2.2.2.2.2) (x2_84, o2_1, o2_2, o2_3, o2_5, o2_6)
def Q1.e2 : Ent where
 pre := []
 inv := [(0, .val (.slice (.pair .str (.pair .str (.pair .str (.pair .str (.pair (.int .i64) (.pair (.slice .str) .str)))))))), (83, .val (.int .i64))]
 car := ⟨[(4, .ptr 0 4), (5, .ptr 4 4), (84, .val (.int .i64))], [.box 123 [.nil, .nil, .nil, .own 5 1], .row 4 .bool, .row 4 .bool, .row 4 .bool, .box 123 [.own 1 1, .own 2 1, .own 3 1, .own 6 1], .row 9 .str, .row 9 .str]⟩
 exits := [(.exit 4, ⟨[(4, .ptr 0 4), (5, .ptr 4 4)], [.box 123 [.nil, .nil, .nil, .own 5 1], .row 4 .bool, .row 4 .bool, .row 4 .bool, .box 123 [.own 1 1, .own 2 1, .own 3 1, .own 6 1], .row 9 .str, .row 9 .str]⟩)]
 step := fun iv x => Q1.s2 iv.1 iv.2 x.1 x.2.1 x.2.2.1 x.2.2.2.1 x.2.2.2.2.1 x.2.2.2.2.2
def Q1.f (a0 : (List (ByteArray × (ByteArray × (ByteArray × (ByteArray × (Int × ((List ByteArray) × ByteArray)))))))) (a1 : (List (Int × (ByteArray × Int)))) : Option ((List Bool) × ((List Bool) × ((List Bool) × (List ByteArray)))) :=
 (both (ck (0 ≤ ((List.length a0 : Nat) : Int) ∧ ((List.length a0 : Nat) : Int) * (1 : Int) ≤ 140737488355328) (both (ck (0 ≤ ((List.length a0 : Nat) : Int) ∧ ((List.length a0 : Nat) : Int) * (1 : Int) ≤ 140737488355328) (mix (.node .leaf .leaf) (ck (0 ≤ ((List.length a0 : Nat) : Int) ∧ ((List.length a0 : Nat) : Int) * (1 : Int) ≤ 140737488355328) (let y1 : Int := ((List.length a1 : Nat) : Int); (ob (Q1.l0 a0 a1 y1 (0 : Int) (List.replicate (Int.toNat ((List.length a0 : Nat) : Int)) false) (List.replicate (Int.toNat ((List.length a0 : Nat) : Int)) false) (List.replicate (Int.toNat ((List.length a0 : Nat) : Int)) false)) fun r6 => (let y7 : Int := ((List.length a0 : Nat) : Int); (ob (Q1.l1 a0 y7 (0 : Int) r6.1 r6.2.1 r6.2.2 ([] : List ByteArray) ([] : List ByteArray)) fun r10 => (ck (Option.isSome (srt_47_1000000_run r10.2.2.2.2) = true) (ck (Option.isSome (srt_48_1000000_run (Option.getD (srt_47_1000000_run r10.2.2.2.2) [])) = true) (let y11 : Int := ((List.length a0 : Nat) : Int); (ob (Q1.l2 a0 y11 (0 : Int) r10.1 r10.2.1 r10.2.2.1 r10.2.2.2.1 (List.take (List.length (compB (Option.getD (srt_47_1000000_run r10.2.2.2.2) []))) (Option.getD (srt_48_1000000_run (Option.getD (srt_47_1000000_run r10.2.2.2.2) [])) []))) fun r16 => (some (r16.1, (r16.2.1, (r16.2.2.1, r16.2.2.2.2))))))))))))))) (both (ck (0 ≤ ((List.length a0 : Nat) : Int) ∧ ((List.length a0 : Nat) : Int) * (1 : Int) ≤ 140737488355328) (mix (.node .leaf .leaf) (ck (0 ≤ ((List.length a0 : Nat) : Int) ∧ ((List.length a0 : Nat) : Int) * (1 : Int) ≤ 140737488355328) (let y1 : Int := ((List.length a1 : Nat) : Int); (ob (Q1.l0 a0 a1 y1 (0 : Int) (List.replicate (Int.toNat ((List.length a0 : Nat) : Int)) false) (List.replicate (Int.toNat ((List.length a0 : Nat) : Int)) false) (List.replicate (Int.toNat ((List.length a0 : Nat) : Int)) false)) fun r2 => (let y3 : Int := ((List.length a0 : Nat) : Int); (ob (Q1.l1 a0 y3 (0 : Int) r2.1 r2.2.1 r2.2.2 ([] : List ByteArray) ([] : List ByteArray)) fun r4 => (ck (Option.isSome (srt_47_1000000_run r4.2.2.2.2) = true) (ck (Option.isSome (srt_48_1000000_run (Option.getD (srt_47_1000000_run r4.2.2.2.2) [])) = true) (let y5 : Int := ((List.length a0 : Nat) : Int); (ob (Q1.l2 a0 y5 (0 : Int) r4.1 r4.2.1 r4.2.2.1 r4.2.2.2.1 (List.take (List.length (compB (Option.getD (srt_47_1000000_run r4.2.2.2.2) []))) (Option.getD (srt_48_1000000_run (Option.getD (srt_47_1000000_run r4.2.2.2.2) [])) []))) fun r6 => (some (r6.1, (r6.2.1, (r6.2.2.1, r6.2.2.2.2))))))))))))))) (mix (.node .leaf .leaf) (ck (0 ≤ ((List.length a0 : Nat) : Int) ∧ ((List.length a0 : Nat) : Int) * (1 : Int) ≤ 140737488355328) (ck (0 ≤ ((List.length a0 : Nat) : Int) ∧ ((List.length a0 : Nat) : Int) * (1 : Int) ≤ 140737488355328) (let y1 : Int := ((List.length a1 : Nat) : Int); (ob (Q1.l0 a0 a1 y1 (0 : Int) (List.replicate (Int.toNat ((List.length a0 : Nat) : Int)) false) (List.replicate (Int.toNat ((List.length a0 : Nat) : Int)) false) (List.replicate (Int.toNat ((List.length a0 : Nat) : Int)) false)) fun r2 => (let y3 : Int := ((List.length a0 : Nat) : Int); (ob (Q1.l1 a0 y3 (0 : Int) r2.1 r2.2.1 r2.2.2 ([] : List ByteArray) ([] : List ByteArray)) fun r4 => (ck (Option.isSome (srt_47_1000000_run r4.2.2.2.2) = true) (ck (Option.isSome (srt_48_1000000_run (Option.getD (srt_47_1000000_run r4.2.2.2.2) [])) = true) (let y5 : Int := ((List.length a0 : Nat) : Int); (ob (Q1.l2 a0 y5 (0 : Int) r4.1 r4.2.1 r4.2.2.1 r4.2.2.2.1 (List.take (List.length (compB (Option.getD (srt_47_1000000_run r4.2.2.2.2) []))) (Option.getD (srt_48_1000000_run (Option.getD (srt_47_1000000_run r4.2.2.2.2) [])) []))) fun r6 => (some (r6.1, (r6.2.1, (r6.2.2.1, r6.2.2.2.2)))))))))))))))))) (both (ck (0 ≤ ((List.length a0 : Nat) : Int) ∧ ((List.length a0 : Nat) : Int) * (1 : Int) ≤ 140737488355328) (both (ck (0 ≤ ((List.length a0 : Nat) : Int) ∧ ((List.length a0 : Nat) : Int) * (1 : Int) ≤ 140737488355328) (mix (.node .leaf .leaf) (ck (0 ≤ ((List.length a0 : Nat) : Int) ∧ ((List.length a0 : Nat) : Int) * (1 : Int) ≤ 140737488355328) (let y1 : Int := ((List.length a1 : Nat) : Int); (ob (Q1.l0 a0 a1 y1 (0 : Int) (List.replicate (Int.toNat ((List.length a0 : Nat) : Int)) false) (List.replicate (Int.toNat ((List.length a0 : Nat) : Int)) false) (List.replicate (Int.toNat ((List.length a0 : Nat) : Int)) false)) fun r2 => (let y3 : Int := ((List.length a0 : Nat) : Int); (ob (Q1.l1 a0 y3 (0 : Int) r2.1 r2.2.1 r2.2.2 ([] : List ByteArray) ([] : List ByteArray)) fun r4 => (ck (Option.isSome (srt_47_1000000_run r4.2.2.2.2) = true) (ck (Option.isSome (srt_48_1000000_run (Option.getD (srt_47_1000000_run r4.2.2.2.2) [])) = true) (let y5 : Int := ((List.length a0 : Nat) : Int); (ob (Q1.l2 a0 y5 (0 : Int) r4.1 r4.2.1 r4.2.2.1 r4.2.2.2.1 (List.take (List.length (compB (Option.getD (srt_47_1000000_run r4.2.2.2.2) []))) (Option.getD (srt_48_1000000_run (Option.getD (srt_47_1000000_run r4.2.2.2.2) [])) []))) fun r6 => (some (r6.1, (r6.2.1, (r6.2.2.1, r6.2.2.2.2))))))))))))))) (both (ck (0 ≤ ((List.length a0 : Nat) : Int) ∧ ((List.length a0 : Nat) : Int) * (1 : Int) ≤ 140737488355328) (mix (.node .leaf .leaf) (ck (0 ≤ ((List.length a0 : Nat) : Int) ∧ ((List.length a0 : Nat) : Int) * (1 : Int) ≤ 140737488355328) (let y1 : Int := ((List.length a1 : Nat) : Int); (ob (Q1.l0 a0 a1 y1 (0 : Int) (List.replicate (Int.toNat ((List.length a0 : Nat) : Int)) false) (List.replicate (Int.toNat ((List.length a0 : Nat) : Int)) false) (List.replicate (Int.toNat ((List.length a0 : Nat) : Int)) false)) fun r2 => (let y3 : Int := ((List.length a0 : Nat) : Int); (ob (Q1.l1 a0 y3 (0 : Int) r2.1 r2.2.1 r2.2.2 ([] : List ByteArray) ([] : List ByteArray)) fun r4 => (ck (Option.isSome (srt_47_1000000_run r4.2.2.2.2) = true) (ck (Option.isSome (srt_48_1000000_run (Option.getD (srt_47_1000000_run r4.2.2.2.2) [])) = true) (let y5 : Int := ((List.length a0 : Nat) : Int); (ob (Q1.l2 a0 y5 (0 : Int) r4.1 r4.2.1 r4.2.2.1 r4.2.2.2.1 (List.take (List.length (compB (Option.getD (srt_47_1000000_run r4.2.2.2.2) []))) (Option.getD (srt_48_1000000_run (Option.getD (srt_47_1000000_run r4.2.2.2.2) [])) []))) fun r6 => (some (r6.1, (r6.2.1, (r6.2.2.1, r6.2.2.2.2))))))))))))))) (mix (.node .leaf .leaf) (ck (0 ≤ ((List.length a0 : Nat) : Int) ∧ ((List.length a0 : Nat) : Int) * (1 : Int) ≤ 140737488355328) (ck (0 ≤ ((List.length a0 : Nat) : Int) ∧ ((List.length a0 : Nat) : Int) * (1 : Int) ≤ 140737488355328) (let y1 : Int := ((List.length a1 : Nat) : Int); (ob (Q1.l0 a0 a1 y1 (0 : Int) (List.replicate (Int.toNat ((List.length a0 : Nat) : Int)) false) (List.replicate (Int.toNat ((List.length a0 : Nat) : Int)) false) (List.replicate (Int.toNat ((List.length a0 : Nat) : Int)) false)) fun r2 => (let y3 : Int := ((List.length a0 : Nat) : Int); (ob (Q1.l1 a0 y3 (0 : Int) r2.1 r2.2.1 r2.2.2 ([] : List ByteArray) ([] : List ByteArray)) fun r4 => (ck (Option.isSome (srt_47_1000000_run r4.2.2.2.2) = true) (ck (Option.isSome (srt_48_1000000_run (Option.getD (srt_47_1000000_run r4.2.2.2.2) [])) = true) (let y5 : Int := ((List.length a0 : Nat) : Int); (ob (Q1.l2 a0 y5 (0 : Int) r4.1 r4.2.1 r4.2.2.1 r4.2.2.2.1 (List.take (List.length (compB (Option.getD (srt_47_1000000_run r4.2.2.2.2) []))) (Option.getD (srt_48_1000000_run (Option.getD (srt_47_1000000_run r4.2.2.2.2) [])) []))) fun r6 => (some (r6.1, (r6.2.1, (r6.2.2.1, r6.2.2.2.2)))))))))))))))))) (both (ck (0 ≤ ((List.length a0 : Nat) : Int) ∧ ((List.length a0 : Nat) : Int) * (1 : Int) ≤ 140737488355328) (both (ck (0 ≤ ((List.length a0 : Nat) : Int) ∧ ((List.length a0 : Nat) : Int) * (1 : Int) ≤ 140737488355328) (mix (.node .leaf .leaf) (ck (0 ≤ ((List.length a0 : Nat) : Int) ∧ ((List.length a0 : Nat) : Int) * (1 : Int) ≤ 140737488355328) (let y1 : Int := ((List.length a1 : Nat) : Int); (ob (Q1.l0 a0 a1 y1 (0 : Int) (List.replicate (Int.toNat ((List.length a0 : Nat) : Int)) false) (List.replicate (Int.toNat ((List.length a0 : Nat) : Int)) false) (List.replicate (Int.toNat ((List.length a0 : Nat) : Int)) false)) fun r2 => (let y3 : Int := ((List.length a0 : Nat) : Int); (ob (Q1.l1 a0 y3 (0 : Int) r2.1 r2.2.1 r2.2.2 ([] : List ByteArray) ([] : List ByteArray)) fun r4 => (ck (Option.isSome (srt_47_1000000_run r4.2.2.2.2) = true) (ck (Option.isSome (srt_48_1000000_run (Option.getD (srt_47_1000000_run r4.2.2.2.2) [])) = true) (let y5 : Int := ((List.length a0 : Nat) : Int); (ob (Q1.l2 a0 y5 (0 : Int) r4.1 r4.2.1 r4.2.2.1 r4.2.2.2.1 (List.take (List.length (compB (Option.getD (srt_47_1000000_run r4.2.2.2.2) []))) (Option.getD (srt_48_1000000_run (Option.getD (srt_47_1000000_run r4.2.2.2.2) [])) []))) fun r6 => (some (r6.1, (r6.2.1, (r6.2.2.1, r6.2.2.2.2))))))))))))))) (both (ck (0 ≤ ((List.length a0 : Nat) : Int) ∧ ((List.length a0 : Nat) : Int) * (1 : Int) ≤ 140737488355328) (mix (.node .leaf .leaf) (ck (0 ≤ ((List.length a0 : Nat) : Int) ∧ ((List.length a0 : Nat) : Int) * (1 : Int) ≤ 140737488355328) (let y1 : Int := ((List.length a1 : Nat) : Int); (ob (Q1.l0 a0 a1 y1 (0 : Int) (List.replicate (Int.toNat ((List.length a0 : Nat) : Int)) false) (List.replicate (Int.toNat ((List.length a0 : Nat) : Int)) false) (List.replicate (Int.toNat ((List.length a0 : Nat) : Int)) false)) fun r2 => (let y3 : Int := ((List.length a0 : Nat) : Int); (ob (Q1.l1 a0 y3 (0 : Int) r2.1 r2.2.1 r2.2.2 ([] : List ByteArray) ([] : List ByteArray)) fun r4 => (ck (Option.isSome (srt_47_1000000_run r4.2.2.2.2) = true) (ck (Option.isSome (srt_48_1000000_run (Option.getD (srt_47_1000000_run r4.2.2.2.2) [])) = true) (let y5 : Int := ((List.length a0 : Nat) : Int); (ob (Q1.l2 a0 y5 (0 : Int) r4.1 r4.2.1 r4.2.2.1 r4.2.2.2.1 (List.take (List.length (compB (Option.getD (srt_47_1000000_run r4.2.2.2.2) []))) (Option.getD (srt_48_1000000_run (Option.getD (srt_47_1000000_run r4.2.2.2.2) [])) []))) fun r6 => (some (r6.1, (r6.2.1, (r6.2.2.1, r6.2.2.2.2))))))))))))))) (mix (.node .leaf .leaf) (ck (0 ≤ ((List.length a0 : Nat) : Int) ∧ ((List.length a0 : Nat) : Int) * (1 : Int) ≤ 140737488355328) (ck (0 ≤ ((List.length a0 : Nat) : Int) ∧ ((List.length a0 : Nat) : Int) * (1 : Int) ≤ 140737488355328) (let y1 : Int := ((List.length a1 : Nat) : Int); (ob (Q1.l0 a0 a1 y1 (0 : Int) (List.replicate (Int.toNat ((List.length a0 : Nat) : Int)) false) (List.replicate (Int.toNat ((List.length a0 : Nat) : Int)) false) (List.replicate (Int.toNat ((List.length a0 : Nat) : Int)) false)) fun r2 => (let y3 : Int := ((List.length a0 : Nat) : Int); (ob (Q1.l1 a0 y3 (0 : Int) r2.1 r2.2.1 r2.2.2 ([] : List ByteArray) ([] : List ByteArray)) fun r4 => (ck (Option.isSome (srt_47_1000000_run r4.2.2.2.2) = true) (ck (Option.isSome (srt_48_1000000_run (Option.getD (srt_47_1000000_run r4.2.2.2.2) [])) = true) (let y5 : Int := ((List.length a0 : Nat) : Int); (ob (Q1.l2 a0 y5 (0 : Int) r4.1 r4.2.1 r4.2.2.1 r4.2.2.2.1 (List.take (List.length (compB (Option.getD (srt_47_1000000_run r4.2.2.2.2) []))) (Option.getD (srt_48_1000000_run (Option.getD (srt_47_1000000_run r4.2.2.2.2) [])) []))) fun r6 => (some (r6.1, (r6.2.1, (r6.2.2.1, r6.2.2.2.2)))))))))))))))))) (mix (.node .leaf (.node .leaf .leaf)) (ck (0 ≤ ((List.length a0 : Nat) : Int) ∧ ((List.length a0 : Nat) : Int) * (1 : Int) ≤ 140737488355328) (mix (.node .leaf .leaf) (ck (0 ≤ ((List.length a0 : Nat) : Int) ∧ ((List.length a0 : Nat) : Int) * (1 : Int) ≤ 140737488355328) (ck (0 ≤ ((List.length a0 : Nat) : Int) ∧ ((List.length a0 : Nat) : Int) * (1 : Int) ≤ 140737488355328) (let y1 : Int := ((List.length a1 : Nat) : Int); (ob (Q1.l0 a0 a1 y1 (0 : Int) (List.replicate (Int.toNat ((List.length a0 : Nat) : Int)) false) (List.replicate (Int.toNat ((List.length a0 : Nat) : Int)) false) (List.replicate (Int.toNat ((List.length a0 : Nat) : Int)) false)) fun r2 => (let y3 : Int := ((List.length a0 : Nat) : Int); (ob (Q1.l1 a0 y3 (0 : Int) r2.1 r2.2.1 r2.2.2 ([] : List ByteArray) ([] : List ByteArray)) fun r4 => (ck (Option.isSome (srt_47_1000000_run r4.2.2.2.2) = true) (ck (Option.isSome (srt_48_1000000_run (Option.getD (srt_47_1000000_run r4.2.2.2.2) [])) = true) (let y5 : Int := ((List.length a0 : Nat) : Int); (ob (Q1.l2 a0 y5 (0 : Int) r4.1 r4.2.1 r4.2.2.1 r4.2.2.2.1 (List.take (List.length (compB (Option.getD (srt_47_1000000_run r4.2.2.2.2) []))) (Option.getD (srt_48_1000000_run (Option.getD (srt_47_1000000_run r4.2.2.2.2) [])) []))) fun r6 => (some (r6.1, (r6.2.1, (r6.2.2.1, r6.2.2.2.2))))))))))))))))))))
def Q1.fn : TFn := ⟨[(.slice (.pair .str (.pair .str (.pair .str (.pair .str (.pair (.int .i64) (.pair (.slice .str) .str))))))), (.slice (.pair (.int .i64) (.pair .str (.int .i64))))], [(.pair (.slice .bool) (.pair (.slice .bool) (.pair (.slice .bool) (.slice .str))))], fun x => Q1.f x.1 x.2⟩
def Q1.C : Cx := ⟨T, TYt, lkF [((156, [0, 0, 0]), Q5.fn), ((157, [0, 0, 0]), Qa.fn)], lkO [], lkD [(6, 21, [(0, true), (1, true), (2, true), (3, true), (4, true), (5, true), (6, true), (7, true), (8, true), (9, true), (10, true), (11, true), (12, true), (13, true), (14, true), (15, true), (16, true), (17, true), (18, true), (19, true), (20, true)], none), (19, 20, [(0, true), (1, true), (2, true), (3, true), (4, true), (5, true), (6, true), (7, true), (8, true), (9, true), (10, true), (11, true), (12, false), (13, true), (14, true), (15, true), (16, true), (17, true), (18, false), (19, true)], none)], lkP [(1, 11, (.take 0 (.take 1 (.take 3 (.take 4 (.take 6 (.take 7 (.alt 2 (.alt 5 (.alt 8 (.take 9 (.alt 10 .done .no)) (.alt 10 (.alt 8 (.take 9 (.swp 2 .done)) .no) .no)) (.alt 8 (.alt 5 (.take 9 (.alt 10 (.swp 3 .done) .no)) (.alt 10 (.alt 5 (.take 9 (.swp 2 (.swp 3 .done))) .no) .no)) (.alt 10 (.alt 5 (.alt 8 (.take 9 (.swp 3 (.swp 2 .done))) .no) (.alt 8 (.alt 5 (.take 9 (.swp 3 (.swp 2 (.swp 3 .done)))) .no) .no)) .no))) (.alt 5 (.alt 2 (.alt 8 (.take 9 (.alt 10 (.swp 4 .done) .no)) (.alt 10 (.alt 8 (.take 9 (.swp 4 (.swp 2 .done))) .no) .no)) (.alt 8 (.alt 2 (.take 9 (.alt 10 (.swp 3 (.swp 4 .done)) .no)) (.alt 10 (.alt 2 (.take 9 (.swp 2 (.swp 3 (.swp 4 .done)))) .no) .no)) (.alt 10 (.alt 2 (.alt 8 (.take 9 (.swp 3 (.swp 2 (.swp 4 .done)))) .no) (.alt 8 (.alt 2 (.take 9 (.swp 3 (.swp 2 (.swp 3 (.swp 4 .done))))) .no) .no)) .no))) (.alt 8 (.alt 2 (.alt 5 (.take 9 (.alt 10 (.swp 4 (.swp 3 .done)) .no)) (.alt 10 (.alt 5 (.take 9 (.swp 4 (.swp 2 (.swp 3 .done)))) .no) .no)) (.alt 5 (.alt 2 (.take 9 (.alt 10 (.swp 4 (.swp 3 (.swp 4 .done))) .no)) (.alt 10 (.alt 2 (.take 9 (.swp 4 (.swp 2 (.swp 3 (.swp 4 .done))))) .no) .no)) (.alt 10 (.alt 2 (.alt 5 (.take 9 (.swp 3 (.swp 2 (.swp 4 (.swp 3 .done))))) .no) (.alt 5 (.alt 2 (.take 9 (.swp 3 (.swp 2 (.swp 4 (.swp 3 (.swp 4 .done)))))) .no) .no)) .no))) (.alt 10 (.alt 2 (.alt 5 (.alt 8 (.take 9 (.swp 4 (.swp 3 (.swp 2 .done)))) .no) (.alt 8 (.alt 5 (.take 9 (.swp 4 (.swp 3 (.swp 2 (.swp 3 .done))))) .no) .no)) (.alt 5 (.alt 2 (.alt 8 (.take 9 (.swp 4 (.swp 3 (.swp 2 (.swp 4 .done))))) .no) (.alt 8 (.alt 2 (.take 9 (.swp 4 (.swp 3 (.swp 2 (.swp 3 (.swp 4 .done)))))) .no) .no)) (.alt 8 (.alt 2 (.alt 5 (.take 9 (.swp 4 (.swp 3 (.swp 2 (.swp 4 (.swp 3 .done)))))) .no) (.alt 5 (.alt 2 (.take 9 (.swp 4 (.swp 3 (.swp 2 (.swp 4 (.swp 3 (.swp 4 .done))))))) .no) .no)) .no))) .no)))))))))))], [7, 9], [], false, [], [], lkS [((47, 1000000), srt_47_1000000), ((48, 1000000), srt_48_1000000)], 110⟩
theorem Q1.hC : CxOK Tryz.prog Q1.C := ⟨tabOK, FsOK.cons Q5.ok (FsOK.cons Qa.ok (FsOK.nil)), OsOK.nil, mixed, (fun t h => by cases h), (fun t e h => by cases h), (SsOK.cons srt_47_1000000_ok ((SsOK.cons srt_48_1000000_ok (SsOK.nil))))⟩
def Q1.root : Code := bodyOf Tryz.f101
theorem Q1.h0 : LsOK Tryz.prog Q1.C Q1.root (lkL [([0, 1, 0, 1, 1], Q1.e0)]) :=
 LsOK.cons Q1.hC (LsOK.nil) (by kernel_rfl) (fun iv x => by kernel_rfl)
theorem Q1.h1 : LsOK Tryz.prog Q1.C Q1.root (lkL [([0, 1, 0, 1, 1, 1], Q1.e1), ([0, 1, 0, 1, 1], Q1.e0)]) :=
 LsOK.cons Q1.hC (Q1.h0) (by kernel_rfl) (fun iv x => by kernel_rfl)
theorem Q1.h2 : LsOK Tryz.prog Q1.C Q1.root (lkL [([0, 1, 0, 1, 1, 1, 1, 1, 1], Q1.e2), ([0, 1, 0, 1, 1, 1], Q1.e1), ([0, 1, 0, 1, 1], Q1.e0)]) :=
 LsOK.cons Q1.hC (Q1.h1) (by kernel_rfl) (fun iv x => by kernel_rfl)
theorem Q1.ok : FnOK Tryz.prog 101 Q1.fn :=
 FnOK.of (L := lkL [([0, 1, 0, 1, 1, 1, 1, 1, 1], Q1.e2), ([0, 1, 0, 1, 1, 1], Q1.e1), ([0, 1, 0, 1, 1], Q1.e0)]) (root := Q1.root) Q1.hC (enters_of (c := Q1.root) Tryz.func101 (by kernel_rfl) (by kernel_rfl)) Tryz.func101 (by kernel_rfl) (rs := [.cell 4 123]) (by kernel_rfl) (by kernel_rfl) Q1.h2 (fun x => by kernel_rfl)
def Qu.s0 (v0_0 : (List UInt8)) (x0_3 : Int) (x0_4 : Int) : Option ((Int × Int) ⊕ Int) :=
 (let y6 : Int := ((List.length v0_0 : Nat) : Int); (cb (decide (x0_4 < y6)) (ck (0 ≤ x0_4 ∧ x0_4 < ((List.length v0_0 : Nat) : Int)) (let y7 : UInt8 := (rd (0 : UInt8) v0_0 x0_4); (let y8 : Int := (IntKind.u64.wrap ((UInt8.toNat y7 : Nat) : Int)); (let y9 : Int := (IntKind.u64.wrap ((BitVec.toNat (BitVec.ofInt (IntKind.bits .u64) x0_3 ^^^ BitVec.ofInt (IntKind.bits .u64) y8) : Nat) : Int)); (let y10 : Int := (IntKind.u64.wrap (y9 * (1099511628211 : Int))); (ck (InR (x0_4 + (1 : Int))) (some (.inl (y10, (x0_4 + (1 : Int))))))))))) (some (.inr x0_3))))
def Qu.l0 (v0_0 : (List UInt8)) (x0_3 : Int) (x0_4 : Int) : Option Int :=
 loopX (fun (x : (Int × Int)) => Qu.s0 v0_0 x.1 x.2) (x0_3, x0_4)
def Qu.e0 : Ent where
 pre := []
 inv := [(0, .val (.slice .byte))]
 car := ⟨[(3, .val (.int .u64)), (4, .val (.int .i64))], []⟩
 exits := [(.exit 0, ⟨[(3, .val (.int .u64))], []⟩)]
 step := fun iv x => Qu.s0 iv x.1 x.2
def Qu.s1 (v1_3 : Int) (x1_5 : ByteArray) (x1_6 : Int) : Option ((ByteArray × Int) ⊕ ByteArray) :=
 (cb (decide ((0 : Int) ≤ x1_6)) (ck (0 ≤ x1_6) (let y16 : Int := (Int.fdiv v1_3 (2 ^ min (Int.toNat x1_6) (IntKind.bits .u64))); (let y17 : Int := (Int.tmod y16 (16 : Int)); (let y18 : Int := (IntKind.u64.wrap (y17 + (1 : Int))); (ck (0 ≤ y17 ∧ y17 ≤ y18 ∧ y18 ≤ ((ByteArray.size Qf : Nat) : Int)) (let y19 : ByteArray := (ByteArray.extract Qf (Int.toNat y17) (Int.toNat y18)); (ck (((ByteArray.size x1_5 + ByteArray.size y19 : Nat) : Int) ≤ 9223372036854775807) (ck (InR (x1_6 - (4 : Int))) (some (.inl ((x1_5 ++ y19), (x1_6 - (4 : Int))))))))))))) (some (.inr x1_5)))
def Qu.l1 (v1_3 : Int) (x1_5 : ByteArray) (x1_6 : Int) : Option ByteArray :=
 loopX (fun (x : (ByteArray × Int)) => Qu.s1 v1_3 x.1 x.2) (x1_5, x1_6)
def Qu.e1 : Ent where
 pre := []
 inv := [(3, .val (.int .u64))]
 car := ⟨[(5, .val .str), (6, .val (.int .i64))], []⟩
 exits := [(.exit 2, ⟨[(5, .val .str)], []⟩)]
 step := fun iv x => Qu.s1 iv x.1 x.2
def Qu.f (a0 : (List UInt8)) : Option ByteArray :=
 (ob (Qu.l0 a0 (14695981039346656037 : Int) (0 : Int)) fun r11 => (ob (Qu.l1 r11 bs_ (60 : Int)) fun r20 => (some r20)))
def Qu.fn : TFn := ⟨[(.slice .byte)], [.str], fun x => Qu.f x⟩
def Qu.C : Cx := ⟨T, TYt, lkF [], lkO [], lkD [], lkP [], [], [], false, [], [], lkS [], 37⟩
theorem Qu.hC : CxOK Tryz.prog Qu.C := ⟨tabOK, FsOK.nil, OsOK.nil, mixed, (fun t h => by cases h), (fun t e h => by cases h), SsOK.nil⟩
def Qu.root : Code := bodyOf Tryz.f184
theorem Qu.h0 : LsOK Tryz.prog Qu.C Qu.root (lkL [([0, 1, 0, 1, 1], Qu.e0)]) :=
 LsOK.cons Qu.hC (LsOK.nil) (by kernel_rfl) (fun iv x => by kernel_rfl)
theorem Qu.h1 : LsOK Tryz.prog Qu.C Qu.root (lkL [([0, 1, 0, 1, 1, 1, 1], Qu.e1), ([0, 1, 0, 1, 1], Qu.e0)]) :=
 LsOK.cons Qu.hC (Qu.h0) (by kernel_rfl) (fun iv x => by kernel_rfl)
theorem Qu.ok : FnOK Tryz.prog 184 Qu.fn :=
 FnOK.of (L := lkL [([0, 1, 0, 1, 1, 1, 1], Qu.e1), ([0, 1, 0, 1, 1], Qu.e0)]) (root := Qu.root) Qu.hC (enters_of (c := Qu.root) Tryz.func184 (by kernel_rfl) (by kernel_rfl)) Tryz.func184 (by kernel_rfl) (rs := [.tmp 2]) (by kernel_rfl) (by kernel_rfl) Qu.h1 (fun x => by kernel_rfl)
def Q2d.f (a0 : ByteArray) : Option ByteArray :=
 (let y1 : (List UInt8) := (Array.toList (ByteArray.data a0)); (ob (Qu.f y1) fun r2 => (some r2)))
def Q2d.fn : TFn := ⟨[.str], [.str], fun x => Q2d.f x⟩
def Q2d.C : Cx := ⟨T, TYt, lkF [((184, [0]), Qu.fn)], lkO [], lkD [], lkP [], [], [], false, [], [], lkS [], 6⟩
theorem Q2d.hC : CxOK Tryz.prog Q2d.C := ⟨tabOK, FsOK.cons Qu.ok (FsOK.nil), OsOK.nil, mixed, (fun t h => by cases h), (fun t e h => by cases h), SsOK.nil⟩
def Q2d.root : Code := bodyOf Tryz.f131
theorem Q2d.ok : FnOK Tryz.prog 131 Q2d.fn :=
 FnOK.of (L := lkL []) (root := Q2d.root) Q2d.hC (enters_of (c := Q2d.root) Tryz.func131 (by kernel_rfl) (by kernel_rfl)) Tryz.func131 (by kernel_rfl) (rs := [.tmp 2]) (by kernel_rfl) (by kernel_rfl) LsOK.nil (fun x => by kernel_rfl)
def Q19.f (a0 : ByteArray) (a1 : Int) (a2 : Int) : Option (Int × Unit) :=
 (cb (decide (a0 = bs_)) none (ck (0 ≤ (0 : Int) ∧ (0 : Int) < ((ByteArray.size a0 : Nat) : Int)) (cb (decide (((UInt8.toNat (bt a0 (0 : Int)) : Nat) : Int) = (43 : Int))) (ck (0 ≤ (1 : Int) ∧ (1 : Int) ≤ ((ByteArray.size a0 : Nat) : Int)) (let y1 : ByteArray := (ByteArray.extract a0 (Int.toNat (1 : Int)) (ByteArray.size a0)); (ob (Q4.f y1 a1 a2) fun r2 => (cb (decide (a2 = (0 : Int))) (ck (InR ((64 : Int) - (1 : Int))) (let y3 : Int := (IntKind.u64.wrap ((64 : Int) - (1 : Int))); (ck (0 ≤ y3) (let y4 : Int := (IntKind.u64.wrap ((1 : Int) * 2 ^ min (Int.toNat y3) (IntKind.bits .u64))); (cb (decide (y4 ≤ r2.1)) none (some ((IntKind.i64.wrap r2.1), ()))))))) (ck (InR (a2 - (1 : Int))) (let y6 : Int := (IntKind.u64.wrap (a2 - (1 : Int))); (ck (0 ≤ y6) (let y7 : Int := (IntKind.u64.wrap ((1 : Int) * 2 ^ min (Int.toNat y6) (IntKind.bits .u64))); (cb (decide (y7 ≤ r2.1)) none (some ((IntKind.i64.wrap r2.1), ()))))))))))) (cb (decide (((UInt8.toNat (bt a0 (0 : Int)) : Nat) : Int) = (45 : Int))) (ck (0 ≤ (1 : Int) ∧ (1 : Int) ≤ ((ByteArray.size a0 : Nat) : Int)) (let y9 : ByteArray := (ByteArray.extract a0 (Int.toNat (1 : Int)) (ByteArray.size a0)); (ob (Q4.f y9 a1 a2) fun r10 => (cb (decide (a2 = (0 : Int))) (ck (InR ((64 : Int) - (1 : Int))) (let y11 : Int := (IntKind.u64.wrap ((64 : Int) - (1 : Int))); (ck (0 ≤ y11) (let y12 : Int := (IntKind.u64.wrap ((1 : Int) * 2 ^ min (Int.toNat y11) (IntKind.bits .u64))); (cb (decide (y12 < r10.1)) (ck (InR (-(IntKind.i64.wrap y12))) none) (ck (InR (-(IntKind.i64.wrap r10.1))) (let y14 : Int := (-(IntKind.i64.wrap r10.1)); (some (y14, ()))))))))) (ck (InR (a2 - (1 : Int))) (let y15 : Int := (IntKind.u64.wrap (a2 - (1 : Int))); (ck (0 ≤ y15) (let y16 : Int := (IntKind.u64.wrap ((1 : Int) * 2 ^ min (Int.toNat y15) (IntKind.bits .u64))); (cb (decide (y16 < r10.1)) (ck (InR (-(IntKind.i64.wrap y16))) none) (ck (InR (-(IntKind.i64.wrap r10.1))) (let y18 : Int := (-(IntKind.i64.wrap r10.1)); (some (y18, ()))))))))))))) (ob (Q4.f a0 a1 a2) fun r19 => (cb (decide (a2 = (0 : Int))) (ck (InR ((64 : Int) - (1 : Int))) (let y20 : Int := (IntKind.u64.wrap ((64 : Int) - (1 : Int))); (ck (0 ≤ y20) (let y21 : Int := (IntKind.u64.wrap ((1 : Int) * 2 ^ min (Int.toNat y20) (IntKind.bits .u64))); (cb (decide (y21 ≤ r19.1)) none (some ((IntKind.i64.wrap r19.1), ()))))))) (ck (InR (a2 - (1 : Int))) (let y23 : Int := (IntKind.u64.wrap (a2 - (1 : Int))); (ck (0 ≤ y23) (let y24 : Int := (IntKind.u64.wrap ((1 : Int) * 2 ^ min (Int.toNat y23) (IntKind.bits .u64))); (cb (decide (y24 ≤ r19.1)) none (some ((IntKind.i64.wrap r19.1), ())))))))))))))
def Q19.fn : TFn := ⟨[.str, (.int .i64), (.int .i64)], [(.int .i64), .nilI], fun x => Q19.f x.1 x.2.1 x.2.2⟩
def Q19.C : Cx := ⟨T, TYt, lkF [((189, [0, 0, 0]), Q4.fn)], lkO [], lkD [], lkP [], [], [(137, 0)], false, [], [], lkS [], 73⟩
theorem Q19.hC : CxOK Tryz.prog Q19.C := ⟨tabOK, FsOK.cons Q4.ok (FsOK.nil), OsOK.nil, mixed, (fun t h => by cases h), (mps_of [(137, 0)] (by kernel_rfl)), SsOK.nil⟩
def Q19.root : Code := bodyOf Tryz.f204
theorem Q19.ok : FnOK Tryz.prog 204 Q19.fn :=
 FnOK.of (L := lkL []) (root := Q19.root) Q19.hC (enters_of (c := Q19.root) Tryz.func204 (by kernel_rfl) (by kernel_rfl)) Tryz.func204 (by kernel_rfl) (rs := [.tmp 6, .tmp 7]) (by kernel_rfl) (by kernel_rfl) LsOK.nil (fun x => by kernel_rfl)
def Q1z.f (a0 : ByteArray) (a1 : Int) (a2 : Int) : Option (Int × Unit) :=
 (ob (Q19.f a0 a1 a2) fun r1 => (some (r1.1, ())))
def Q1z.fn : TFn := ⟨[.str, (.int .i64), (.int .i64)], [(.int .i64), .nilI], fun x => Q1z.f x.1 x.2.1 x.2.2⟩
def Q1z.C : Cx := ⟨T, TYt, lkF [((204, [0, 0, 0]), Q19.fn)], lkO [], lkD [], lkP [], [], [(137, 0)], false, [], [], lkS [], 25⟩
theorem Q1z.hC : CxOK Tryz.prog Q1z.C := ⟨tabOK, FsOK.cons Q19.ok (FsOK.nil), OsOK.nil, mixed, (fun t h => by cases h), (mps_of [(137, 0)] (by kernel_rfl)), SsOK.nil⟩
def Q1z.root : Code := bodyOf Tryz.f168
theorem Q1z.ok : FnOK Tryz.prog 168 Q1z.fn :=
 FnOK.of (L := lkL []) (root := Q1z.root) Q1z.hC (enters_of (c := Q1z.root) Tryz.func168 (by kernel_rfl) (by kernel_rfl)) Tryz.func168 (by kernel_rfl) (rs := [.tmp 6, .tmp 7]) (by kernel_rfl) (by kernel_rfl) LsOK.nil (fun x => by kernel_rfl)
def Q2t.f (a0 : ByteArray) (a1 : Int) (a2 : Int) (a3 : Int) : Option Int :=
 (ob (Q2h.f a2) fun r1 => (ck (((ByteArray.size r1 + ByteArray.size Q2y : Nat) : Int) ≤ 9223372036854775807) (ob (Q2h.f a1) fun r2 => (ck (((ByteArray.size (r1 ++ Q2y) + ByteArray.size r2 : Nat) : Int) ≤ 9223372036854775807) (ck (((ByteArray.size ((r1 ++ Q2y) ++ r2) + ByteArray.size Q2y : Nat) : Int) ≤ 9223372036854775807) (let y3 : ByteArray := (((r1 ++ Q2y) ++ r2) ++ Q2y); (ck (((ByteArray.size y3 + ByteArray.size a0 : Nat) : Int) ≤ 9223372036854775807) (ob (Q2d.f (y3 ++ a0)) fun r4 => (ck (0 ≤ (8 : Int) ∧ (8 : Int) ≤ ((ByteArray.size r4 : Nat) : Int)) (let y5 : ByteArray := (ByteArray.extract r4 0 (Int.toNat (8 : Int))); (ob (Q1z.f y5 (16 : Int) (64 : Int)) fun r6 => (ck (a3 ≠ 0) (some (Int.tmod r6.1 a3))))))))))))))
def Q2t.fn : TFn := ⟨[.str, (.int .i64), (.int .i64), (.int .i64)], [(.int .i64)], fun x => Q2t.f x.1 x.2.1 x.2.2.1 x.2.2.2⟩
def Q2t.C : Cx := ⟨T, TYt, lkF [((109, [0]), Q2h.fn), ((131, [0]), Q2d.fn), ((168, [0, 0, 0]), Q1z.fn)], lkO [], lkD [], lkP [], [], [], false, [], [], lkS [], 29⟩
theorem Q2t.hC : CxOK Tryz.prog Q2t.C := ⟨tabOK, FsOK.cons Q2h.ok (FsOK.cons Q2d.ok (FsOK.cons Q1z.ok (FsOK.nil))), OsOK.nil, mixed, (fun t h => by cases h), (fun t e h => by cases h), SsOK.nil⟩
def Q2t.root : Code := bodyOf Tryz.f117
theorem Q2t.ok : FnOK Tryz.prog 117 Q2t.fn :=
 FnOK.of (L := lkL []) (root := Q2t.root) Q2t.hC (enters_of (c := Q2t.root) Tryz.func117 (by kernel_rfl) (by kernel_rfl)) Tryz.func117 (by kernel_rfl) (rs := [.tmp 8]) (by kernel_rfl) (by kernel_rfl) LsOK.nil (fun x => by kernel_rfl)
def Q9.s0 (v0_0 : (List ByteArray)) (v0_1 : ByteArray) (v0_7 : Int) (x0_8 : Int) : Option (Int ⊕ (Int ⊕ Unit)) :=
 (cb (decide (x0_8 < v0_7)) (ck (0 ≤ x0_8 ∧ x0_8 < ((List.length v0_0 : Nat) : Int)) (let y3 : ByteArray := (rd ByteArray.empty v0_0 x0_8); (cb (decide (v0_1 = y3)) (some (.inr (.inl x0_8))) (ck (InR (x0_8 + (1 : Int))) (some (.inl (x0_8 + (1 : Int)))))))) (some (.inr (.inr ()))))
def Q9.l0 (v0_0 : (List ByteArray)) (v0_1 : ByteArray) (v0_7 : Int) (x0_8 : Int) : Option (Int ⊕ Unit) :=
 loopX (fun (x : Int) => Q9.s0 v0_0 v0_1 v0_7 x) x0_8
def Q9.e0 : Ent where
 pre := []
 inv := [(0, .val (.slice .str)), (1, .val .str), (7, .val (.int .i64))]
 car := ⟨[(8, .val (.int .i64))], []⟩
 exits := [(.ret, ⟨[(4, .val (.int .i64))], []⟩), (.exit 0, ⟨[], []⟩)]
 step := fun iv x => Q9.s0 iv.1 iv.2.1 iv.2.2 x
def Q9.f (a0 : (List ByteArray)) (a1 : ByteArray) : Option Int :=
 (let y1 : Int := ((List.length a0 : Nat) : Int); (ob (Q9.l0 a0 a1 y1 (0 : Int)) fun r4 => (caseS r4 (fun a5 => (some a5)) (fun b6 => (some (-1 : Int))))))
def Q9.fn : TFn := ⟨[(.slice .str), .str], [(.int .i64)], fun x => Q9.f x.1 x.2⟩
def Q9.C : Cx := ⟨T, TYt, lkF [], lkO [], lkD [], lkP [], [], [], false, [], [], lkS [], 19⟩
theorem Q9.hC : CxOK Tryz.prog Q9.C := ⟨tabOK, FsOK.nil, OsOK.nil, mixed, (fun t h => by cases h), (fun t e h => by cases h), SsOK.nil⟩
def Q9.root : Code := bodyOf Tryz.f169
theorem Q9.h0 : LsOK Tryz.prog Q9.C Q9.root (lkL [([0, 1, 0, 1], Q9.e0)]) :=
 LsOK.cons Q9.hC (LsOK.nil) (by kernel_rfl) (fun iv x => by kernel_rfl)
theorem Q9.ok : FnOK Tryz.prog 169 Q9.fn :=
 FnOK.of (L := lkL [([0, 1, 0, 1], Q9.e0)]) (root := Q9.root) Q9.hC (enters_of (c := Q9.root) Tryz.func169 (by kernel_rfl) (by kernel_rfl)) Tryz.func169 (by kernel_rfl) (rs := [.tmp 4]) (by kernel_rfl) (by kernel_rfl) Q9.h0 (fun x => by kernel_rfl)
def Qw.f (a0 : (List ByteArray)) (a1 : ByteArray) : Option Bool :=
 (ob (Q9.f a0 a1) fun r1 => (some (decide ((0 : Int) ≤ r1))))
def Qw.fn : TFn := ⟨[(.slice .str), .str], [.bool], fun x => Qw.f x.1 x.2⟩
def Qw.C : Cx := ⟨T, TYt, lkF [((169, [0, 0]), Q9.fn)], lkO [], lkD [], lkP [], [], [], false, [], [], lkS [], 9⟩
theorem Qw.hC : CxOK Tryz.prog Qw.C := ⟨tabOK, FsOK.cons Q9.ok (FsOK.nil), OsOK.nil, mixed, (fun t h => by cases h), (fun t e h => by cases h), SsOK.nil⟩
def Qw.root : Code := bodyOf Tryz.f118
theorem Qw.ok : FnOK Tryz.prog 118 Qw.fn :=
 FnOK.of (L := lkL []) (root := Qw.root) Qw.hC (enters_of (c := Qw.root) Tryz.func118 (by kernel_rfl) (by kernel_rfl)) Tryz.func118 (by kernel_rfl) (rs := [.tmp 4]) (by kernel_rfl) (by kernel_rfl) LsOK.nil (fun x => by kernel_rfl)
def Q1k.s0 (v0_2 : Int) (v0_3 : Int) (v0_11 : ((List Bool) × ((List Bool) × ((List Bool) × (List ByteArray))))) (v0_32 : (List (ByteArray × (ByteArray × (ByteArray × (ByteArray × (Int × ((List ByteArray) × ByteArray)))))))) (v0_33 : Int) (x0_34 : Int) (o0_1 : (List Int)) : Option ((Int × (List Int)) ⊕ (List Int)) :=
 (cb (decide (x0_34 < v0_33)) (ck (0 ≤ x0_34 ∧ x0_34 < ((List.length v0_32 : Nat) : Int)) (let y9 : (ByteArray × (ByteArray × (ByteArray × (ByteArray × (Int × ((List ByteArray) × ByteArray)))))) := (rd (ByteArray.empty, (ByteArray.empty, (ByteArray.empty, (ByteArray.empty, ((0 : Int), (([] : (List ByteArray)), ByteArray.empty)))))) v0_32 x0_34); (ck (0 ≤ x0_34 ∧ x0_34 < ((List.length v0_11.1 : Nat) : Int)) (cb (!(rd false v0_11.1 x0_34)) (ob (Q2t.f y9.1 x0_34 v0_3 v0_2) fun r10 => (cb (decide (r10 = (0 : Int))) (ck ((List.length o0_1 + List.length ([x0_34] : List Int)) * 8 ≤ 140737488355328) (ck (InR (x0_34 + (1 : Int))) (some (.inl ((x0_34 + (1 : Int)), (o0_1 ++ ([x0_34] : List Int))))))) (ob (Qw.f v0_11.2.2.2 y9.2.2.2.1) fun r11 => (cb r11 (ck ((List.length o0_1 + List.length ([x0_34] : List Int)) * 8 ≤ 140737488355328) (ck (InR (x0_34 + (1 : Int))) (some (.inl ((x0_34 + (1 : Int)), (o0_1 ++ ([x0_34] : List Int))))))) (ck (InR (x0_34 + (1 : Int))) (some (.inl ((x0_34 + (1 : Int)), o0_1)))))))) (ck (InR (x0_34 + (1 : Int))) (some (.inl ((x0_34 + (1 : Int)), o0_1)))))))) (some (.inr o0_1)))
def Q1k.l0 (v0_2 : Int) (v0_3 : Int) (v0_11 : ((List Bool) × ((List Bool) × ((List Bool) × (List ByteArray))))) (v0_32 : (List (ByteArray × (ByteArray × (ByteArray × (ByteArray × (Int × ((List ByteArray) × ByteArray)))))))) (v0_33 : Int) (x0_34 : Int) (o0_1 : (List Int)) : Option (List Int) :=
 loopX (fun (x : (Int × (List Int))) => Q1k.s0 v0_2 v0_3 v0_11 v0_32 v0_33 x.1 x.2) (x0_34, o0_1)
def Q1k.e0 : Ent where
 pre := [.nil 12 3 (.int .i64)]
 inv := [(2, .val (.int .i64)), (3, .val (.int .i64)), (11, .rp (.pair (.slice .bool) (.pair (.slice .bool) (.pair (.slice .bool) (.slice .str))))), (32, .val (.slice (.pair .str (.pair .str (.pair .str (.pair .str (.pair (.int .i64) (.pair (.slice .str) .str)))))))), (33, .val (.int .i64))]
 car := ⟨[(12, .own 1 1), (34, .val (.int .i64))], [.dead, .row 3 (.int .i64)]⟩
 exits := [(.exit 0, ⟨[(12, .own 1 1)], [.dead, .row 3 (.int .i64)]⟩)]
 step := fun iv x => Q1k.s0 iv.1 iv.2.1 iv.2.2.1 iv.2.2.2.1 iv.2.2.2.2 x.1 x.2
def Q1k.f (a0 : (List (ByteArray × (ByteArray × (ByteArray × (ByteArray × (Int × ((List ByteArray) × ByteArray)))))))) (a1 : (List (Int × (ByteArray × Int)))) (a2 : Int) (a3 : Int) : Option ((List Int) × Int) :=
 (ob (Qh.f a0 a1) fun r1 => (cb (!decide (r1 = (0 : Int))) (some (([] : List Int), r1)) (ob (Q1m.f a2 (1 : Int) (1000000 : Int)) fun r2 => (cb (!r2) (some (([] : List Int), (1 : Int))) (ob (Q1m.f a3 (0 : Int) (1000000000 : Int)) fun r3 => (cb (!r3) (some (([] : List Int), (1 : Int))) (ob (Q1.f a0 a1) fun r4 => (let y5 : Int := ((List.length a0 : Nat) : Int); (ob (Q1k.l0 a2 a3 r4 a0 y5 (0 : Int) ([] : List Int)) fun r12 => (some (r12, (0 : Int))))))))))))
def Q1k.fn : TFn := ⟨[(.slice (.pair .str (.pair .str (.pair .str (.pair .str (.pair (.int .i64) (.pair (.slice .str) .str))))))), (.slice (.pair (.int .i64) (.pair .str (.int .i64)))), (.int .i64), (.int .i64)], [(.slice (.int .i64)), (.int .i64)], fun x => Q1k.f x.1 x.2.1 x.2.2.1 x.2.2.2⟩
def Q1k.C : Cx := ⟨T, TYt, lkF [((66, [0, 0]), Qh.fn), ((90, [0, 0, 0]), Q1m.fn), ((101, [0, 0]), Q1.fn), ((117, [0, 0, 0, 0]), Q2t.fn), ((118, [0, 0]), Qw.fn)], lkO [], lkD [], lkP [], [11, 14], [], false, [], [], lkS [], 67⟩
theorem Q1k.hC : CxOK Tryz.prog Q1k.C := ⟨tabOK, FsOK.cons Qh.ok (FsOK.cons Q1m.ok (FsOK.cons Q1.ok (FsOK.cons Q2t.ok (FsOK.cons Qw.ok (FsOK.nil))))), OsOK.nil, mixed, (fun t h => by cases h), (fun t e h => by cases h), SsOK.nil⟩
def Q1k.root : Code := bodyOf Tryz.f64
theorem Q1k.h0 : LsOK Tryz.prog Q1k.C Q1k.root (lkL [([0, 1, 0, 1, 1, 1, 1, 1], Q1k.e0)]) :=
 LsOK.cons Q1k.hC (LsOK.nil) (by kernel_rfl) (fun iv x => by kernel_rfl)
theorem Q1k.ok : FnOK Tryz.prog 64 Q1k.fn :=
 FnOK.of (L := lkL [([0, 1, 0, 1, 1, 1, 1, 1], Q1k.e0)]) (root := Q1k.root) Q1k.hC (enters_of (c := Q1k.root) Tryz.func64 (by kernel_rfl) (by kernel_rfl)) Tryz.func64 (by kernel_rfl) (rs := [.tmp 8, .tmp 9]) (by kernel_rfl) (by kernel_rfl) Q1k.h0 (fun x => by kernel_rfl)
def Qg.s0 (v0_0 : (List Int)) (v0_1 : (List Int)) (v0_12 : Int) (x0_13 : Int) : Option (Int ⊕ (Bool ⊕ Unit)) :=
 (cb (decide (x0_13 < v0_12)) (ck (0 ≤ x0_13 ∧ x0_13 < ((List.length v0_0 : Nat) : Int)) (let y6 : Int := (rd (0 : Int) v0_0 x0_13); (ck (0 ≤ x0_13 ∧ x0_13 < ((List.length v0_1 : Nat) : Int)) (let y7 : Int := (rd (0 : Int) v0_1 x0_13); (cb (!decide (y6 = y7)) (some (.inr (.inl false))) (ck (InR (x0_13 + (1 : Int))) (some (.inl (x0_13 + (1 : Int)))))))))) (some (.inr (.inr ()))))
def Qg.l0 (v0_0 : (List Int)) (v0_1 : (List Int)) (v0_12 : Int) (x0_13 : Int) : Option (Bool ⊕ Unit) :=
 loopX (fun (x : Int) => Qg.s0 v0_0 v0_1 v0_12 x) x0_13
def Qg.e0 : Ent where
 pre := []
 inv := [(0, .val (.slice (.int .i64))), (1, .val (.slice (.int .i64))), (12, .val (.int .i64))]
 car := ⟨[(13, .val (.int .i64))], []⟩
 exits := [(.ret, ⟨[(4, .val .bool)], []⟩), (.exit 0, ⟨[], []⟩)]
 step := fun iv x => Qg.s0 iv.1 iv.2.1 iv.2.2 x
def Qg.f (a0 : (List Int)) (a1 : (List Int)) : Option Bool :=
 (let y1 : Int := ((List.length a0 : Nat) : Int); (let y2 : Int := ((List.length a1 : Nat) : Int); (cb (!decide (y1 = y2)) (some false) (let y3 : Int := ((List.length a0 : Nat) : Int); (ob (Qg.l0 a0 a1 y3 (0 : Int)) fun r8 => (caseS r8 (fun a9 => (some a9)) (fun b10 => (some true))))))))
def Qg.fn : TFn := ⟨[(.slice (.int .i64)), (.slice (.int .i64))], [.bool], fun x => Qg.f x.1 x.2⟩
def Qg.C : Cx := ⟨T, TYt, lkF [], lkO [], lkD [(6, 8, [(0, true), (1, true), (2, true), (3, true), (4, true), (5, true), (6, true), (7, true)], none)], lkP [], [], [], false, [], [], lkS [], 26⟩
theorem Qg.hC : CxOK Tryz.prog Qg.C := ⟨tabOK, FsOK.nil, OsOK.nil, mixed, (fun t h => by cases h), (fun t e h => by cases h), SsOK.nil⟩
def Qg.root : Code := bodyOf Tryz.f52
theorem Qg.h0 : LsOK Tryz.prog Qg.C Qg.root (lkL [([0, 1, 0, 1, 1], Qg.e0)]) :=
 LsOK.cons Qg.hC (LsOK.nil) (by kernel_rfl) (fun iv x => by kernel_rfl)
theorem Qg.ok : FnOK Tryz.prog 52 Qg.fn :=
 FnOK.of (L := lkL [([0, 1, 0, 1, 1], Qg.e0)]) (root := Qg.root) Qg.hC (enters_of (c := Qg.root) Tryz.func52 (by kernel_rfl) (by kernel_rfl)) Tryz.func52 (by kernel_rfl) (rs := [.tmp 4]) (by kernel_rfl) (by kernel_rfl) Qg.h0 (fun x => by kernel_rfl)
def Q1g.s0 (v0_6 : (List Bool)) (v0_7 : Int) (x0_8 : Int) (o0_0 : (List Int)) : Option ((Int × (List Int)) ⊕ (List Int)) :=
 (cb (decide (x0_8 < v0_7)) (ck (0 ≤ x0_8 ∧ x0_8 < ((List.length v0_6 : Nat) : Int)) (cb (rd false v0_6 x0_8) (ck ((List.length o0_0 + List.length ([x0_8] : List Int)) * 8 ≤ 140737488355328) (ck (InR (x0_8 + (1 : Int))) (some (.inl ((x0_8 + (1 : Int)), (o0_0 ++ ([x0_8] : List Int))))))) (ck (InR (x0_8 + (1 : Int))) (some (.inl ((x0_8 + (1 : Int)), o0_0)))))) (some (.inr o0_0)))
def Q1g.l0 (v0_6 : (List Bool)) (v0_7 : Int) (x0_8 : Int) (o0_0 : (List Int)) : Option (List Int) :=
 loopX (fun (x : (Int × (List Int))) => Q1g.s0 v0_6 v0_7 x.1 x.2) (x0_8, o0_0)
def Q1g.e0 : Ent where
 pre := [.nil 3 3 (.int .i64)]
 inv := [(6, .val (.slice .bool)), (7, .val (.int .i64))]
 car := ⟨[(3, .own 0 1), (8, .val (.int .i64))], [.row 3 (.int .i64)]⟩
 exits := [(.exit 0, ⟨[(3, .own 0 1)], [.row 3 (.int .i64)]⟩)]
 step := fun iv x => Q1g.s0 iv.1 iv.2 x.1 x.2
def Q1g.f (a0 : (List Bool)) : Option (List Int) :=
 (let y1 : Int := ((List.length a0 : Nat) : Int); (ob (Q1g.l0 a0 y1 (0 : Int) ([] : List Int)) fun r2 => (some r2)))
def Q1g.fn : TFn := ⟨[(.slice .bool)], [(.slice (.int .i64))], fun x => Q1g.f x⟩
def Q1g.C : Cx := ⟨T, TYt, lkF [], lkO [], lkD [], lkP [], [], [], false, [], [], lkS [], 20⟩
theorem Q1g.hC : CxOK Tryz.prog Q1g.C := ⟨tabOK, FsOK.nil, OsOK.nil, mixed, (fun t h => by cases h), (fun t e h => by cases h), SsOK.nil⟩
def Q1g.root : Code := bodyOf Tryz.f102
theorem Q1g.h0 : LsOK Tryz.prog Q1g.C Q1g.root (lkL [([0, 1, 0, 1, 1], Q1g.e0)]) :=
 LsOK.cons Q1g.hC (LsOK.nil) (by kernel_rfl) (fun iv x => by kernel_rfl)
theorem Q1g.ok : FnOK Tryz.prog 102 Q1g.fn :=
 FnOK.of (L := lkL [([0, 1, 0, 1, 1], Q1g.e0)]) (root := Q1g.root) Q1g.hC (enters_of (c := Q1g.root) Tryz.func102 (by kernel_rfl) (by kernel_rfl)) Tryz.func102 (by kernel_rfl) (rs := [.tmp 2]) (by kernel_rfl) (by kernel_rfl) Q1g.h0 (fun x => by kernel_rfl)
def Q2j.f (a0 : (List (ByteArray × (ByteArray × (ByteArray × (ByteArray × (Int × ((List ByteArray) × ByteArray)))))))) (a1 : (List (Int × (ByteArray × Int)))) : Option ((List Int) × Int) :=
 (ob (Qh.f a0 a1) fun r1 => (cb (!decide (r1 = (0 : Int))) (some (([] : List Int), r1)) (ob (Q1.f a0 a1) fun r2 => (ob (Q1g.f r2.2.1) fun r3 => (some (r3, (0 : Int)))))))
def Q2j.fn : TFn := ⟨[(.slice (.pair .str (.pair .str (.pair .str (.pair .str (.pair (.int .i64) (.pair (.slice .str) .str))))))), (.slice (.pair (.int .i64) (.pair .str (.int .i64))))], [(.slice (.int .i64)), (.int .i64)], fun x => Q2j.f x.1 x.2⟩
def Q2j.C : Cx := ⟨T, TYt, lkF [((66, [0, 0]), Qh.fn), ((101, [0, 0]), Q1.fn), ((102, [0]), Q1g.fn)], lkO [], lkD [], lkP [], [], [], false, [], [], lkS [], 18⟩
theorem Q2j.hC : CxOK Tryz.prog Q2j.C := ⟨tabOK, FsOK.cons Qh.ok (FsOK.cons Q1.ok (FsOK.cons Q1g.ok (FsOK.nil))), OsOK.nil, mixed, (fun t h => by cases h), (fun t e h => by cases h), SsOK.nil⟩
def Q2j.root : Code := bodyOf Tryz.f67
theorem Q2j.ok : FnOK Tryz.prog 67 Q2j.fn :=
 FnOK.of (L := lkL []) (root := Q2j.root) Q2j.hC (enters_of (c := Q2j.root) Tryz.func67 (by kernel_rfl) (by kernel_rfl)) Tryz.func67 (by kernel_rfl) (rs := [.tmp 4, .tmp 5]) (by kernel_rfl) (by kernel_rfl) LsOK.nil (fun x => by kernel_rfl)
def Q1w.f (a0 : (ByteArray × (ByteArray × (ByteArray × (ByteArray × (Int × ((List ByteArray) × ByteArray))))))) (a1 : (ByteArray × (ByteArray × (ByteArray × (ByteArray × (Int × ((List ByteArray) × ByteArray))))))) : Option Bool :=
 (cb (decide (a0.1 = a1.1)) (cb (decide (a0.2.1 = a1.2.1)) (cb (decide (a0.2.2.1 = a1.2.2.1)) (cb (decide (a0.2.2.2.1 = a1.2.2.2.1)) (cb (decide (a0.2.2.2.2.1 = a1.2.2.2.2.1)) (cb (decide (a0.2.2.2.2.2.2 = a1.2.2.2.2.2.2)) (ob (Q8.f a0.2.2.2.2.2.1 a1.2.2.2.2.2.1) fun r1 => (some r1)) (some false)) (some false)) (some false)) (some false)) (some false)) (some false))
def Q1w.fn : TFn := ⟨[(.pair .str (.pair .str (.pair .str (.pair .str (.pair (.int .i64) (.pair (.slice .str) .str)))))), (.pair .str (.pair .str (.pair .str (.pair .str (.pair (.int .i64) (.pair (.slice .str) .str))))))], [.bool], fun x => Q1w.f x.1 x.2⟩
def Q1w.C : Cx := ⟨T, TYt, lkF [((38, [0, 0]), Q8.fn)], lkO [], lkD [], lkP [], [2, 3], [], false, [], [], lkS [], 52⟩
theorem Q1w.hC : CxOK Tryz.prog Q1w.C := ⟨tabOK, FsOK.cons Q8.ok (FsOK.nil), OsOK.nil, mixed, (fun t h => by cases h), (fun t e h => by cases h), SsOK.nil⟩
def Q1w.root : Code := bodyOf Tryz.f30
theorem Q1w.ok : FnOK Tryz.prog 30 Q1w.fn :=
 FnOK.of (L := lkL []) (root := Q1w.root) Q1w.hC (enters_of (c := Q1w.root) Tryz.func30 (by kernel_rfl) (by kernel_rfl)) Tryz.func30 (by kernel_rfl) (rs := [.tmp 4]) (by kernel_rfl) (by kernel_rfl) LsOK.nil (fun x => by kernel_rfl)
def Q1q.s0 (v0_0 : (List (ByteArray × (ByteArray × (ByteArray × (ByteArray × (Int × ((List ByteArray) × ByteArray)))))))) (v0_1 : (List (ByteArray × (ByteArray × (ByteArray × (ByteArray × (Int × ((List ByteArray) × ByteArray)))))))) (v0_12 : Int) (x0_13 : Int) : Option (Int ⊕ (Bool ⊕ Unit)) :=
 (cb (decide (x0_13 < v0_12)) (ck (0 ≤ x0_13 ∧ x0_13 < ((List.length v0_0 : Nat) : Int)) (let y7 : (ByteArray × (ByteArray × (ByteArray × (ByteArray × (Int × ((List ByteArray) × ByteArray)))))) := (rd (ByteArray.empty, (ByteArray.empty, (ByteArray.empty, (ByteArray.empty, ((0 : Int), (([] : (List ByteArray)), ByteArray.empty)))))) v0_0 x0_13); (ck (0 ≤ x0_13 ∧ x0_13 < ((List.length v0_1 : Nat) : Int)) (let y8 : (ByteArray × (ByteArray × (ByteArray × (ByteArray × (Int × ((List ByteArray) × ByteArray)))))) := (rd (ByteArray.empty, (ByteArray.empty, (ByteArray.empty, (ByteArray.empty, ((0 : Int), (([] : (List ByteArray)), ByteArray.empty)))))) v0_1 x0_13); (ob (Q1w.f y7 y8) fun r9 => (cb (!r9) (some (.inr (.inl false))) (ck (InR (x0_13 + (1 : Int))) (some (.inl (x0_13 + (1 : Int))))))))))) (some (.inr (.inr ()))))
def Q1q.l0 (v0_0 : (List (ByteArray × (ByteArray × (ByteArray × (ByteArray × (Int × ((List ByteArray) × ByteArray)))))))) (v0_1 : (List (ByteArray × (ByteArray × (ByteArray × (ByteArray × (Int × ((List ByteArray) × ByteArray)))))))) (v0_12 : Int) (x0_13 : Int) : Option (Bool ⊕ Unit) :=
 loopX (fun (x : Int) => Q1q.s0 v0_0 v0_1 v0_12 x) x0_13
def Q1q.e0 : Ent where
 pre := []
 inv := [(0, .val (.slice (.pair .str (.pair .str (.pair .str (.pair .str (.pair (.int .i64) (.pair (.slice .str) .str)))))))), (1, .val (.slice (.pair .str (.pair .str (.pair .str (.pair .str (.pair (.int .i64) (.pair (.slice .str) .str)))))))), (12, .val (.int .i64))]
 car := ⟨[(13, .val (.int .i64))], []⟩
 exits := [(.ret, ⟨[(4, .val .bool)], []⟩), (.exit 0, ⟨[], []⟩)]
 step := fun iv x => Q1q.s0 iv.1 iv.2.1 iv.2.2 x
def Q1q.f (a0 : (List (ByteArray × (ByteArray × (ByteArray × (ByteArray × (Int × ((List ByteArray) × ByteArray)))))))) (a1 : (List (ByteArray × (ByteArray × (ByteArray × (ByteArray × (Int × ((List ByteArray) × ByteArray)))))))) : Option Bool :=
 (let y1 : Int := ((List.length a0 : Nat) : Int); (let y2 : Int := ((List.length a1 : Nat) : Int); (cb (!decide (y1 = y2)) (some false) (let y3 : Int := ((List.length a0 : Nat) : Int); (ob (Q1q.l0 a0 a1 y3 (0 : Int)) fun r10 => (caseS r10 (fun a11 => (some a11)) (fun b12 => (some true))))))))
def Q1q.fn : TFn := ⟨[(.slice (.pair .str (.pair .str (.pair .str (.pair .str (.pair (.int .i64) (.pair (.slice .str) .str))))))), (.slice (.pair .str (.pair .str (.pair .str (.pair .str (.pair (.int .i64) (.pair (.slice .str) .str)))))))], [.bool], fun x => Q1q.f x.1 x.2⟩
def Q1q.C : Cx := ⟨T, TYt, lkF [((30, [0, 0]), Q1w.fn)], lkO [], lkD [(6, 8, [(0, true), (1, true), (2, true), (3, true), (4, true), (5, true), (6, true), (7, true)], none)], lkP [], [], [], false, [], [], lkS [], 27⟩
theorem Q1q.hC : CxOK Tryz.prog Q1q.C := ⟨tabOK, FsOK.cons Q1w.ok (FsOK.nil), OsOK.nil, mixed, (fun t h => by cases h), (fun t e h => by cases h), SsOK.nil⟩
def Q1q.root : Code := bodyOf Tryz.f40
theorem Q1q.h0 : LsOK Tryz.prog Q1q.C Q1q.root (lkL [([0, 1, 0, 1, 1], Q1q.e0)]) :=
 LsOK.cons Q1q.hC (LsOK.nil) (by kernel_rfl) (fun iv x => by kernel_rfl)
theorem Q1q.ok : FnOK Tryz.prog 40 Q1q.fn :=
 FnOK.of (L := lkL [([0, 1, 0, 1, 1], Q1q.e0)]) (root := Q1q.root) Q1q.hC (enters_of (c := Q1q.root) Tryz.func40 (by kernel_rfl) (by kernel_rfl)) Tryz.func40 (by kernel_rfl) (rs := [.tmp 4]) (by kernel_rfl) (by kernel_rfl) Q1q.h0 (fun x => by kernel_rfl)
def Q6.s0 (v0_0 : (List (Int × (ByteArray × Int)))) (v0_1 : (List (Int × (ByteArray × Int)))) (v0_12 : Int) (x0_13 : Int) : Option (Int ⊕ (Bool ⊕ Unit)) :=
 (cb (decide (x0_13 < v0_12)) (ck (0 ≤ x0_13 ∧ x0_13 < ((List.length v0_0 : Nat) : Int)) (let y6 : (Int × (ByteArray × Int)) := (rd ((0 : Int), (ByteArray.empty, (0 : Int))) v0_0 x0_13); (ck (0 ≤ x0_13 ∧ x0_13 < ((List.length v0_1 : Nat) : Int)) (let y7 : (Int × (ByteArray × Int)) := (rd ((0 : Int), (ByteArray.empty, (0 : Int))) v0_1 x0_13); (cb (!((eqI y6.1 y7.1) && ((eqS y6.2.1 y7.2.1) && ((eqI y6.2.2 y7.2.2) && true)))) (some (.inr (.inl false))) (ck (InR (x0_13 + (1 : Int))) (some (.inl (x0_13 + (1 : Int)))))))))) (some (.inr (.inr ()))))
def Q6.l0 (v0_0 : (List (Int × (ByteArray × Int)))) (v0_1 : (List (Int × (ByteArray × Int)))) (v0_12 : Int) (x0_13 : Int) : Option (Bool ⊕ Unit) :=
 loopX (fun (x : Int) => Q6.s0 v0_0 v0_1 v0_12 x) x0_13
def Q6.e0 : Ent where
 pre := []
 inv := [(0, .val (.slice (.pair (.int .i64) (.pair .str (.int .i64))))), (1, .val (.slice (.pair (.int .i64) (.pair .str (.int .i64))))), (12, .val (.int .i64))]
 car := ⟨[(13, .val (.int .i64))], []⟩
 exits := [(.ret, ⟨[(4, .val .bool)], []⟩), (.exit 0, ⟨[], []⟩)]
 step := fun iv x => Q6.s0 iv.1 iv.2.1 iv.2.2 x
def Q6.f (a0 : (List (Int × (ByteArray × Int)))) (a1 : (List (Int × (ByteArray × Int)))) : Option Bool :=
 (let y1 : Int := ((List.length a0 : Nat) : Int); (let y2 : Int := ((List.length a1 : Nat) : Int); (cb (!decide (y1 = y2)) (some false) (let y3 : Int := ((List.length a0 : Nat) : Int); (ob (Q6.l0 a0 a1 y3 (0 : Int)) fun r8 => (caseS r8 (fun a9 => (some a9)) (fun b10 => (some true))))))))
def Q6.fn : TFn := ⟨[(.slice (.pair (.int .i64) (.pair .str (.int .i64)))), (.slice (.pair (.int .i64) (.pair .str (.int .i64))))], [.bool], fun x => Q6.f x.1 x.2⟩
def Q6.C : Cx := ⟨T, TYt, lkF [], lkO [], lkD [(6, 8, [(0, true), (1, true), (2, true), (3, true), (4, true), (5, true), (6, true), (7, true)], none)], lkP [], [], [], false, [59], [], lkS [], 26⟩
theorem Q6.hC : CxOK Tryz.prog Q6.C := ⟨tabOK, FsOK.nil, OsOK.nil, mixed, (fun t h => eqs_of [59] (by kernel_rfl) t h), (fun t e h => by cases h), SsOK.nil⟩
def Q6.root : Code := bodyOf Tryz.f56
theorem Q6.h0 : LsOK Tryz.prog Q6.C Q6.root (lkL [([0, 1, 0, 1, 1], Q6.e0)]) :=
 LsOK.cons Q6.hC (LsOK.nil) (by kernel_rfl) (fun iv x => by kernel_rfl)
theorem Q6.ok : FnOK Tryz.prog 56 Q6.fn :=
 FnOK.of (L := lkL [([0, 1, 0, 1, 1], Q6.e0)]) (root := Q6.root) Q6.hC (enters_of (c := Q6.root) Tryz.func56 (by kernel_rfl) (by kernel_rfl)) Tryz.func56 (by kernel_rfl) (rs := [.tmp 4]) (by kernel_rfl) (by kernel_rfl) Q6.h0 (fun x => by kernel_rfl)
def Q18.f (a0 : (List (ByteArray × (ByteArray × (ByteArray × (ByteArray × (Int × ((List ByteArray) × ByteArray)))))))) (a1 : (List (Int × (ByteArray × Int)))) (a2 : Int) (a3 : Int) : Option Bool :=
 (ob (Q1p.f a0) fun r1 => (ob (Qs.f a1) fun r2 => (ob (Q1o.f a0 a1 a2 a3) fun r3 => (ob (Q1k.f r1 r2 a2 a3) fun r4 => (ob (Qd.f a0 a1) fun r5 => (ob (Qh.f r1 r2) fun r6 => (cb (!decide (r5 = r6)) (some false) (cb (!decide (r3.2 = r4.2)) (some false) (ob (Qg.f r3.1 r4.1) fun r7 => (cb (!r7) (some false) (ob (Q2n.f a0 a1) fun r8 => (ob (Q2j.f r1 r2) fun r9 => (cb (decide (r8.2 = r9.2)) (ob (Qg.f r8.1 r9.1) fun r10 => (cb r10 (ob (Q1q.f a0 r1) fun r11 => (cb r11 (ob (Q6.f a1 r2) fun r12 => (cb r12 (ob (Q2k.f) fun r13 => (some r13)) (some false))) (some false))) (some false))) (some false))))))))))))))
def Q18.fn : TFn := ⟨[(.slice (.pair .str (.pair .str (.pair .str (.pair .str (.pair (.int .i64) (.pair (.slice .str) .str))))))), (.slice (.pair (.int .i64) (.pair .str (.int .i64)))), (.int .i64), (.int .i64)], [.bool], fun x => Q18.f x.1 x.2.1 x.2.2.1 x.2.2.2⟩
def Q18.C : Cx := ⟨T, TYt, lkF [((20, []), Q2k.fn), ((34, [0]), Q1p.fn), ((40, [0, 0]), Q1q.fn), ((44, [0, 0, 0, 0]), Q1o.fn), ((45, [0, 0]), Q2n.fn), ((49, [0]), Qs.fn), ((52, [0, 0]), Qg.fn), ((56, [0, 0]), Q6.fn), ((64, [0, 0, 0, 0]), Q1k.fn), ((65, [0, 0]), Qd.fn), ((66, [0, 0]), Qh.fn), ((67, [0, 0]), Q2j.fn)], lkO [], lkD [], lkP [], [], [], false, [], [], lkS [], 86⟩
theorem Q18.hC : CxOK Tryz.prog Q18.C := ⟨tabOK, FsOK.cons Q2k.ok (FsOK.cons Q1p.ok (FsOK.cons Q1q.ok (FsOK.cons Q1o.ok (FsOK.cons Q2n.ok (FsOK.cons Qs.ok (FsOK.cons Qg.ok (FsOK.cons Q6.ok (FsOK.cons Q1k.ok (FsOK.cons Qd.ok (FsOK.cons Qh.ok (FsOK.cons Q2j.ok (FsOK.nil)))))))))))), OsOK.nil, mixed, (fun t h => by cases h), (fun t e h => by cases h), SsOK.nil⟩
def Q18.root : Code := bodyOf Tryz.f17
theorem Q18.ok : FnOK Tryz.prog 17 Q18.fn :=
 FnOK.of (L := lkL []) (root := Q18.root) Q18.hC (enters_of (c := Q18.root) Tryz.func17 (by kernel_rfl) (by kernel_rfl)) Tryz.func17 (by kernel_rfl) (rs := [.tmp 8]) (by kernel_rfl) (by kernel_rfl) LsOK.nil (fun x => by kernel_rfl)
def Q27.f (a0 : (List (ByteArray × (ByteArray × ((List ByteArray) × (Int × Int)))))) (a1 : (ByteArray × (ByteArray × (ByteArray × (ByteArray × (Int × ((List ByteArray) × ByteArray))))))) : Option Int :=
 (ob (Qi.f a0) fun r1 => (cb (!decide (r1 = (0 : Int))) (some r1) (ob (Qb.f a1) fun r2 => (some r2))))
def Q27.fn : TFn := ⟨[(.slice (.pair .str (.pair .str (.pair (.slice .str) (.pair (.int .i64) (.int .i64)))))), (.pair .str (.pair .str (.pair .str (.pair .str (.pair (.int .i64) (.pair (.slice .str) .str))))))], [(.int .i64)], fun x => Q27.f x.1 x.2⟩
def Q27.C : Cx := ⟨T, TYt, lkF [((75, [0]), Qi.fn), ((84, [0]), Qb.fn)], lkO [], lkD [], lkP [], [3], [], false, [], [], lkS [], 13⟩
theorem Q27.hC : CxOK Tryz.prog Q27.C := ⟨tabOK, FsOK.cons Qi.ok (FsOK.cons Qb.ok (FsOK.nil)), OsOK.nil, mixed, (fun t h => by cases h), (fun t e h => by cases h), SsOK.nil⟩
def Q27.root : Code := bodyOf Tryz.f71
theorem Q27.ok : FnOK Tryz.prog 71 Q27.fn :=
 FnOK.of (L := lkL []) (root := Q27.root) Q27.hC (enters_of (c := Q27.root) Tryz.func71 (by kernel_rfl) (by kernel_rfl)) Tryz.func71 (by kernel_rfl) (rs := [.tmp 4]) (by kernel_rfl) (by kernel_rfl) LsOK.nil (fun x => by kernel_rfl)
end Go.Proofs.YtahlodpolggeiaaGreatDoor
end
