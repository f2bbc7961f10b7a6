/-
  The functions of the trust package and of its laws, printed, each with its proof that the code computes it. No condition.
-/
import Derived.Test.YtahlodpolggeiaaGreatDoorTypes
set_option linter.unusedVariables false
set_option maxRecDepth 100000
namespace Go.Proofs.YtahlodpolggeiaaGreatDoor
open Go Go.Proofs.YtahlodpolggeiaaGreatDoor.Eng
@[reducible] noncomputable def cxC (F : List ((Nat × List Nat) × TFn)) (n : Nat) : Cx := ⟨T, TYt, lkF F, lkO [], lkD [], lkP [], [], [], false, [], [], lkS [], n⟩
theorem cxq {F : List ((Nat × List Nat) × TFn)} {D : Nat → Option (Nat × List (Nat × Bool) × Option (Nat × List (Nat × Bool) × Nat × List (Nat × Bool)))} {DP : Nat → Option (Nat × Plan)} {FZ TR : List Nat} {wr : Bool} {n : Nat} (h : FsOK Tryz.prog F) : CxOK Tryz.prog ⟨T, TYt, lkF F, lkO [], D, DP, FZ, [], wr, [], TR, lkS [], n⟩ :=
 ⟨tabOK, h, OsOK.nil, mixed, (fun t h => by cases h), (fun t e h => by cases h), SsOK.nil⟩
def bs_ : ByteArray := ⟨#[]⟩
def Q2z : ByteArray := ⟨#[115]⟩
def Q30 : ByteArray := ⟨#[46]⟩
def Q2y : ByteArray := ⟨#[46, 46]⟩
def Q1y : ByteArray := ⟨#[46, 95, 45, 43]⟩
def Q2w : ByteArray := ⟨#[47]⟩
def Q1g : ByteArray := ⟨#[47, 47]⟩
def Q2k : ByteArray := ⟨#[47, 47, 97, 112, 112]⟩
def Q1f : ByteArray := ⟨#[47, 47, 97, 112, 112, 108, 101, 58, 120]⟩
def Q2e : ByteArray := ⟨#[48, 49, 50, 51, 52, 53, 54, 55, 56, 57, 97, 98, 99, 100, 101, 102]⟩
def Q2v : ByteArray := ⟨#[58]⟩
def Q2x : ByteArray := ⟨#[97]⟩
def Q18 : ByteArray := ⟨#[97, 98, 99, 100, 101, 102, 103, 104, 105, 106, 107, 108, 109, 110, 111, 112, 113, 114, 115, 116, 117, 118, 119, 120, 121, 122, 48, 49, 50, 51, 52, 53, 54, 55, 56, 57, 95, 45]⟩
noncomputable def Q1q.f (a0 : ByteArray) : Option Bool :=
 (let y1 : Int := ((ByteArray.size a0 : Nat) : Int); (cb (decide (y1 = (16 : Int))) (ob (Q2j.f a0 Q2e) fun r2 => (some (decide (r2 = bs_)))) (some false)))
noncomputable def Q1q.fn : TFn := ⟨[.str], [.bool], fun x => Q1q.f x⟩
noncomputable def Q1q.C : Cx := cxC [((121, [0, 0]), Q2j.fn)] 11
theorem Q1q.hC : CxOK Tryz.prog Q1q.C := cxq (FsOK.cons Q2j.ok (FsOK.nil))
noncomputable def Q1q.root : Code := Z6 Tryz.f69
theorem Q1q.ok : FnOK Tryz.prog 69 Q1q.fn := .qq Q1q.root Q1q.hC Tryz.func69 (lkL []) [.tmp 2] LsOK.nil fun x => by kernel_rfl
noncomputable def Q11.f (a0 : ByteArray) : Option Int :=
 none
noncomputable def Q11.fn : TFn := ⟨[.str], [(.int .i64)], fun x => Q11.f x⟩
noncomputable def Q11.C : Cx := cxC [] 10
theorem Q11.hC : CxOK Tryz.prog Q11.C := cxq FsOK.nil
noncomputable def Q11.root : Code := Z6 Tryz.f250
theorem Q11.ok : FnOK Tryz.prog 250 Q11.fn := .qq Q11.root Q11.hC Tryz.func250 (lkL []) [.tmp 2] LsOK.nil fun x => by kernel_rfl
noncomputable def Qr.f (a0 : ByteArray) : Option (Int × Int) :=
 (let y1 : Int := ((ByteArray.size a0 : Nat) : Int); (cb (decide (y1 < (1 : Int))) (some ((65533 : Int), (0 : Int))) (ck (0 ≤ (0 : Int) ∧ (0 : Int) < ((ByteArray.size a0 : Nat) : Int)) none)))
noncomputable def Qr.fn : TFn := ⟨[.str], [(.int .i32), (.int .i64)], fun x => Qr.f x⟩
noncomputable def Qr.C : Cx := ⟨T, TYt, lkF [], lkO [], lkD [], lkP [], [9], [], false, [], [], lkS [], 117⟩
theorem Qr.hC : CxOK Tryz.prog Qr.C := cxq FsOK.nil
noncomputable def Qr.root : Code := Z6 Tryz.f239
theorem Qr.ok : FnOK Tryz.prog 239 Qr.fn := .qq Qr.root Qr.hC Tryz.func239 (lkL []) [.tmp 2, .tmp 3] LsOK.nil fun x => by kernel_rfl
noncomputable def Qx.f (a0 : ByteArray) : Option (Int × Int) :=
 (cb (!decide (a0 = bs_)) (ck (0 ≤ (0 : Int) ∧ (0 : Int) < ((ByteArray.size a0 : Nat) : Int)) (cb (decide (((UInt8.toNat (bt a0 (0 : Int)) : Nat) : Int) < (128 : Int))) (ck (0 ≤ (0 : Int) ∧ (0 : Int) < ((ByteArray.size a0 : Nat) : Int)) (let y1 : Int := (IntKind.i32.wrap ((UInt8.toNat (bt a0 (0 : Int)) : Nat) : Int)); (some (y1, (1 : Int))))) (ob (Qr.f a0) fun r2 => (some (r2.1, r2.2))))) (ob (Qr.f a0) fun r3 => (some (r3.1, r3.2))))
noncomputable def Qx.fn : TFn := ⟨[.str], [(.int .i32), (.int .i64)], fun x => Qx.f x⟩
noncomputable def Qx.C : Cx := cxC [((239, [0]), Qr.fn)] 19
theorem Qx.hC : CxOK Tryz.prog Qx.C := cxq (FsOK.cons Qr.ok (FsOK.nil))
noncomputable def Qx.root : Code := Z6 Tryz.f206
theorem Qx.ok : FnOK Tryz.prog 206 Qx.fn := .qq Qx.root Qx.hC Tryz.func206 (lkL []) [.tmp 2, .tmp 3] LsOK.nil fun x => by kernel_rfl
noncomputable def Q10.s0 (v0_1 : Int) (x0_0 : ByteArray) (x0_7 : Int) (o0_0 : (List ByteArray)) : Option ((ByteArray × (Int × (List ByteArray))) ⊕ (ByteArray × (List ByteArray))) :=
 (ck (InR (v0_1 - (1 : Int))) (cb (decide (x0_7 < (v0_1 - (1 : Int)))) (ob (Qx.f x0_0) fun r5 => (ck (0 ≤ r5.2 ∧ r5.2 ≤ ((ByteArray.size x0_0 : Nat) : Int)) (let y6 : ByteArray := (ByteArray.extract x0_0 0 (Int.toNat r5.2)); (ck (0 ≤ x0_7 ∧ x0_7 < ((List.length o0_0 : Nat) : Int)) (ck ((Int.toNat x0_7) < List.length o0_0) (ck (0 ≤ r5.2 ∧ r5.2 ≤ ((ByteArray.size x0_0 : Nat) : Int)) (let y7 : ByteArray := (ByteArray.extract x0_0 (Int.toNat r5.2) (ByteArray.size x0_0)); (ck (InR (x0_7 + (1 : Int))) (some (.inl (y7, (x0_7 + (1 : Int)), (List.set o0_0 (Int.toNat x0_7) y6)))))))))))) (some (.inr (x0_0, o0_0)))))
noncomputable def Q10.l0 (v0_1 : Int) (x0_0 : ByteArray) (x0_7 : Int) (o0_0 : (List ByteArray)) : Option (ByteArray × (List ByteArray)) :=
 Zl (fun (x : (ByteArray × (Int × (List ByteArray)))) => Q10.s0 v0_1 x.1 x.2.1 x.2.2) (x0_0, x0_7, o0_0)
noncomputable def Q10.e0 : Ent where
 pre := []
 inv := [(1, .val (.int .i64))]
 car := ⟨[(0, .val .str), (6, .own 0 1), (7, .val (.int .i64))], [.row 9 .str]⟩
 exits := [(.exit 0, ⟨[(0, .val .str), (6, .own 0 1)], [.row 9 .str]⟩)]
 step := fun iv x => Q10.s0 iv x.1 x.2.1 x.2.2
noncomputable def Q10.f (a0 : ByteArray) (a1 : Int) : Option (List ByteArray) :=
 (ob (Q11.f a0) fun r1 => (cb (decide (a1 < (0 : Int))) (ck (0 ≤ r1 ∧ r1 * (16 : Int) ≤ 140737488355328) (ob (Q10.l0 r1 a0 (0 : Int) (List.replicate (Int.toNat r1) ByteArray.empty)) fun r8 => (cb (decide ((0 : Int) < r1)) (ck (InR (r1 - (1 : Int))) (ck (0 ≤ (r1 - (1 : Int)) ∧ (r1 - (1 : Int)) < ((List.length r8.2 : Nat) : Int)) (ck ((Int.toNat (r1 - (1 : Int))) < List.length r8.2) (some (List.set r8.2 (Int.toNat (r1 - (1 : Int))) r8.1))))) (some r8.2)))) (cb (decide (r1 < a1)) (ck (0 ≤ r1 ∧ r1 * (16 : Int) ≤ 140737488355328) (ob (Q10.l0 r1 a0 (0 : Int) (List.replicate (Int.toNat r1) ByteArray.empty)) fun r9 => (cb (decide ((0 : Int) < r1)) (ck (InR (r1 - (1 : Int))) (ck (0 ≤ (r1 - (1 : Int)) ∧ (r1 - (1 : Int)) < ((List.length r9.2 : Nat) : Int)) (ck ((Int.toNat (r1 - (1 : Int))) < List.length r9.2) (some (List.set r9.2 (Int.toNat (r1 - (1 : Int))) r9.1))))) (some r9.2)))) (ck (0 ≤ a1 ∧ a1 * (16 : Int) ≤ 140737488355328) (ob (Q10.l0 a1 a0 (0 : Int) (List.replicate (Int.toNat a1) ByteArray.empty)) fun r10 => (cb (decide ((0 : Int) < a1)) (ck (InR (a1 - (1 : Int))) (ck (0 ≤ (a1 - (1 : Int)) ∧ (a1 - (1 : Int)) < ((List.length r10.2 : Nat) : Int)) (ck ((Int.toNat (a1 - (1 : Int))) < List.length r10.2) (some (List.set r10.2 (Int.toNat (a1 - (1 : Int))) r10.1))))) (some r10.2)))))))
noncomputable def Q10.fn : TFn := ⟨[.str, (.int .i64)], [(.slice .str)], fun x => Q10.f x.1 x.2⟩
noncomputable def Q10.C : Cx := cxC [((206, [0]), Qx.fn), ((250, [0]), Q11.fn)] 50
theorem Q10.hC : CxOK Tryz.prog Q10.C := cxq (FsOK.cons Qx.ok (FsOK.cons Q11.ok (FsOK.nil)))
noncomputable def Q10.root : Code := Z6 Tryz.f230
theorem Q10.h0 : LsOK Tryz.prog Q10.C Q10.root (lkL [([0, 1, 0, 1, 1, 1, 1], Q10.e0)]) :=
 LsOK.cons Q10.hC (LsOK.nil) (by kernel_rfl) (fun iv x => by kernel_rfl)
theorem Q10.ok : FnOK Tryz.prog 230 Q10.fn := .qq Q10.root Q10.hC Tryz.func230 (lkL [([0, 1, 0, 1, 1, 1, 1], Q10.e0)]) [.tmp 4] Q10.h0 fun x => by kernel_rfl
noncomputable def Q2g.f (a0 : ByteArray) (a1 : ByteArray) : Option Int :=
 (ob (Q1p.f a0 a1) fun r1 => (some r1))
noncomputable def Q2g.fn : TFn := ⟨[.str, .str], [(.int .i64)], fun x => Q2g.f x.1 x.2⟩
noncomputable def Q2g.C : Cx := cxC [((198, [0, 0]), Q1p.fn)] 8
theorem Q2g.hC : CxOK Tryz.prog Q2g.C := cxq (FsOK.cons Q1p.ok (FsOK.nil))
noncomputable def Q2g.root : Code := Z6 Tryz.f232
theorem Q2g.ok : FnOK Tryz.prog 232 Q2g.fn := .qq Q2g.root Q2g.hC Tryz.func232 (lkL []) [.tmp 4] LsOK.nil fun x => by kernel_rfl
noncomputable def Qp.s0 (v0_1 : ByteArray) (v0_2 : Int) (v0_3 : Int) (x0_0 : ByteArray) (x0_10 : Int) (o0_0 : (List ByteArray)) : Option ((ByteArray × (Int × (List ByteArray))) ⊕ (ByteArray × (Int × (List ByteArray)))) :=
 (cb (decide (x0_10 < v0_3)) (ob (Q2g.f x0_0 v0_1) fun r9 => (cb (decide (r9 < (0 : Int))) (some (.inr (x0_0, x0_10, o0_0))) (ck (InR (r9 + v0_2)) (ck (0 ≤ (r9 + v0_2) ∧ (r9 + v0_2) ≤ ((ByteArray.size x0_0 : Nat) : Int)) (let y10 : ByteArray := (ByteArray.extract x0_0 0 (Int.toNat (r9 + v0_2))); (ck (0 ≤ x0_10 ∧ x0_10 < ((List.length o0_0 : Nat) : Int)) (ck ((Int.toNat x0_10) < List.length o0_0) (let y11 : Int := ((ByteArray.size v0_1 : Nat) : Int); (ck (InR (r9 + y11)) (ck (0 ≤ (r9 + y11) ∧ (r9 + y11) ≤ ((ByteArray.size x0_0 : Nat) : Int)) (let y12 : ByteArray := (ByteArray.extract x0_0 (Int.toNat (r9 + y11)) (ByteArray.size x0_0)); (ck (InR (x0_10 + (1 : Int))) (some (.inl (y12, (x0_10 + (1 : Int)), (List.set o0_0 (Int.toNat x0_10) y10)))))))))))))))) (some (.inr (x0_0, x0_10, o0_0))))
noncomputable def Qp.l0 (v0_1 : ByteArray) (v0_2 : Int) (v0_3 : Int) (x0_0 : ByteArray) (x0_10 : Int) (o0_0 : (List ByteArray)) : Option (ByteArray × (Int × (List ByteArray))) :=
 Zl (fun (x : (ByteArray × (Int × (List ByteArray)))) => Qp.s0 v0_1 v0_2 v0_3 x.1 x.2.1 x.2.2) (x0_0, x0_10, o0_0)
noncomputable def Qp.e0 : Ent where
 pre := []
 inv := [(1, .val .str), (2, .val (.int .i64)), (3, .val (.int .i64))]
 car := ⟨[(0, .val .str), (9, .own 0 1), (10, .val (.int .i64))], [.row 9 .str]⟩
 exits := [(.exit 0, ⟨[(0, .val .str), (9, .own 0 1), (10, .val (.int .i64))], [.row 9 .str]⟩)]
 step := fun iv x => Qp.s0 iv.1 iv.2.1 iv.2.2 x.1 x.2.1 x.2.2
noncomputable def Qp.f (a0 : ByteArray) (a1 : ByteArray) (a2 : Int) (a3 : Int) : Option (List ByteArray) :=
 (cb (decide (a3 = (0 : Int))) (some ([] : List ByteArray)) (cb (decide (a1 = bs_)) (ob (Q10.f a0 a3) fun r1 => (some r1)) (cb (decide (a3 < (0 : Int))) (ob (Q2t.f a0 a1) fun r2 => (ck (InR (r2 + (1 : Int))) (let y3 : Int := ((ByteArray.size a0 : Nat) : Int); (ck (InR (y3 + (1 : Int))) (let y4 : Int := (min (r2 + (1 : Int)) (y3 + (1 : Int))); (ck (0 ≤ y4 ∧ y4 * (16 : Int) ≤ 140737488355328) (ck (InR (y4 - (1 : Int))) (ob (Qp.l0 a1 a2 (y4 - (1 : Int)) a0 (0 : Int) (List.replicate (Int.toNat y4) ByteArray.empty)) fun r13 => (ck (0 ≤ r13.2.1 ∧ r13.2.1 < ((List.length r13.2.2 : Nat) : Int)) (ck ((Int.toNat r13.2.1) < List.length r13.2.2) (ck (InR (r13.2.1 + (1 : Int))) (ck (0 ≤ (r13.2.1 + (1 : Int)) ∧ (r13.2.1 + (1 : Int)) ≤ ((List.length (List.set r13.2.2 (Int.toNat r13.2.1) r13.1) : Nat) : Int)) (some (List.take (Int.toNat (r13.2.1 + (1 : Int))) (List.drop 0 (List.set r13.2.2 (Int.toNat r13.2.1) r13.1)))))))))))))))) (let y14 : Int := ((ByteArray.size a0 : Nat) : Int); (ck (InR (y14 + (1 : Int))) (let y15 : Int := (min a3 (y14 + (1 : Int))); (ck (0 ≤ y15 ∧ y15 * (16 : Int) ≤ 140737488355328) (ck (InR (y15 - (1 : Int))) (ob (Qp.l0 a1 a2 (y15 - (1 : Int)) a0 (0 : Int) (List.replicate (Int.toNat y15) ByteArray.empty)) fun r16 => (ck (0 ≤ r16.2.1 ∧ r16.2.1 < ((List.length r16.2.2 : Nat) : Int)) (ck ((Int.toNat r16.2.1) < List.length r16.2.2) (ck (InR (r16.2.1 + (1 : Int))) (ck (0 ≤ (r16.2.1 + (1 : Int)) ∧ (r16.2.1 + (1 : Int)) ≤ ((List.length (List.set r16.2.2 (Int.toNat r16.2.1) r16.1) : Nat) : Int)) (some (List.take (Int.toNat (r16.2.1 + (1 : Int))) (List.drop 0 (List.set r16.2.2 (Int.toNat r16.2.1) r16.1)))))))))))))))))
noncomputable def Qp.fn : TFn := ⟨[.str, .str, (.int .i64), (.int .i64)], [(.slice .str)], fun x => Qp.f x.1 x.2.1 x.2.2.1 x.2.2.2⟩
noncomputable def Qp.C : Cx := cxC [((230, [0, 0]), Q10.fn), ((231, [0, 0]), Q2t.fn), ((232, [0, 0]), Q2g.fn)] 66
theorem Qp.hC : CxOK Tryz.prog Qp.C := cxq (FsOK.cons Q10.ok (FsOK.cons Q2t.ok (FsOK.cons Q2g.ok (FsOK.nil))))
noncomputable def Qp.root : Code := Z6 Tryz.f199
theorem Qp.h0 : LsOK Tryz.prog Qp.C Qp.root (lkL [([0, 0, 1, 1, 1, 1, 1, 1, 1, 1], Qp.e0)]) :=
 LsOK.cons Qp.hC (LsOK.nil) (by kernel_rfl) (fun iv x => by kernel_rfl)
theorem Qp.ok : FnOK Tryz.prog 199 Qp.fn := .qq Qp.root Qp.hC Tryz.func199 (lkL [([0, 0, 1, 1, 1, 1, 1, 1, 1, 1], Qp.e0)]) [.tmp 8] Qp.h0 fun x => by kernel_rfl
noncomputable def Q1o.f (a0 : ByteArray) (a1 : ByteArray) : Option (List ByteArray) :=
 (ob (Qp.f a0 a1 (0 : Int) (-1 : Int)) fun r1 => (some r1))
noncomputable def Q1o.fn : TFn := ⟨[.str, .str], [(.slice .str)], fun x => Q1o.f x.1 x.2⟩
noncomputable def Q1o.C : Cx := cxC [((199, [0, 0, 0, 0]), Qp.fn)] 8
theorem Q1o.hC : CxOK Tryz.prog Q1o.C := cxq (FsOK.cons Qp.ok (FsOK.nil))
noncomputable def Q1o.root : Code := Z6 Tryz.f160
theorem Q1o.ok : FnOK Tryz.prog 160 Q1o.fn := .qq Q1o.root Q1o.hC Tryz.func160 (lkL []) [.tmp 4] LsOK.nil fun x => by kernel_rfl
noncomputable def Qo.f (a0 : ByteArray) (a1 : UInt8) : Option Int :=
 (ob (Q24.f a0 a1) fun r1 => (some r1))
noncomputable def Qo.fn : TFn := ⟨[.str, .byte], [(.int .i64)], fun x => Qo.f x.1 x.2⟩
noncomputable def Qo.C : Cx := cxC [((226, [0, 0]), Q24.fn)] 8
theorem Qo.hC : CxOK Tryz.prog Qo.C := cxq (FsOK.cons Q24.ok (FsOK.nil))
noncomputable def Qo.root : Code := Z6 Tryz.f256
theorem Qo.ok : FnOK Tryz.prog 256 Qo.fn := .qq Qo.root Qo.hC Tryz.func256 (lkL []) [.tmp 4] LsOK.nil fun x => by kernel_rfl
noncomputable def Q2l.f (a0 : UInt8) : Option Bool :=
 (cb (decide ((97 : Int) ≤ ((UInt8.toNat a0 : Nat) : Int))) (cb (decide (((UInt8.toNat a0 : Nat) : Int) ≤ (122 : Int))) (some true) (cb (decide ((65 : Int) ≤ ((UInt8.toNat a0 : Nat) : Int))) (cb (decide (((UInt8.toNat a0 : Nat) : Int) ≤ (90 : Int))) (some true) (cb (decide ((48 : Int) ≤ ((UInt8.toNat a0 : Nat) : Int))) (cb (decide (((UInt8.toNat a0 : Nat) : Int) ≤ (57 : Int))) (some true) (ob (Qo.f Q1y a0) fun r1 => (some (decide ((0 : Int) ≤ r1))))) (ob (Qo.f Q1y a0) fun r2 => (some (decide ((0 : Int) ≤ r2)))))) (cb (decide ((48 : Int) ≤ ((UInt8.toNat a0 : Nat) : Int))) (cb (decide (((UInt8.toNat a0 : Nat) : Int) ≤ (57 : Int))) (some true) (ob (Qo.f Q1y a0) fun r3 => (some (decide ((0 : Int) ≤ r3))))) (ob (Qo.f Q1y a0) fun r4 => (some (decide ((0 : Int) ≤ r4))))))) (cb (decide ((65 : Int) ≤ ((UInt8.toNat a0 : Nat) : Int))) (cb (decide (((UInt8.toNat a0 : Nat) : Int) ≤ (90 : Int))) (some true) (cb (decide ((48 : Int) ≤ ((UInt8.toNat a0 : Nat) : Int))) (cb (decide (((UInt8.toNat a0 : Nat) : Int) ≤ (57 : Int))) (some true) (ob (Qo.f Q1y a0) fun r5 => (some (decide ((0 : Int) ≤ r5))))) (ob (Qo.f Q1y a0) fun r6 => (some (decide ((0 : Int) ≤ r6)))))) (cb (decide ((48 : Int) ≤ ((UInt8.toNat a0 : Nat) : Int))) (cb (decide (((UInt8.toNat a0 : Nat) : Int) ≤ (57 : Int))) (some true) (ob (Qo.f Q1y a0) fun r7 => (some (decide ((0 : Int) ≤ r7))))) (ob (Qo.f Q1y a0) fun r8 => (some (decide ((0 : Int) ≤ r8)))))))
noncomputable def Q2l.fn : TFn := ⟨[.byte], [.bool], fun x => Q2l.f x⟩
noncomputable def Q2l.C : Cx := cxC [((256, [0, 0]), Qo.fn)] 30
theorem Q2l.hC : CxOK Tryz.prog Q2l.C := cxq (FsOK.cons Qo.ok (FsOK.nil))
noncomputable def Q2l.root : Code := Z6 Tryz.f242
theorem Q2l.ok : FnOK Tryz.prog 242 Q2l.fn := .qq Q2l.root Q2l.hC Tryz.func242 (lkL []) [.tmp 2] LsOK.nil fun x => by kernel_rfl
noncomputable def Q1b.s0 (v0_0 : ByteArray) (v0_5 : Int) (x0_6 : Int) : Option (Int ⊕ (Bool ⊕ Unit)) :=
 (cb (decide (x0_6 < v0_5)) (ck (0 ≤ x0_6 ∧ x0_6 < ((ByteArray.size v0_0 : Nat) : Int)) (ob (Q2l.f (bt v0_0 x0_6)) fun r3 => (cb (!r3) (some (.inr (.inl false))) (ck (InR (x0_6 + (1 : Int))) (some (.inl (x0_6 + (1 : Int)))))))) (some (.inr (.inr ()))))
noncomputable def Q1b.l0 (v0_0 : ByteArray) (v0_5 : Int) (x0_6 : Int) : Option (Bool ⊕ Unit) :=
 Zl (fun (x : Int) => Q1b.s0 v0_0 v0_5 x) x0_6
noncomputable def Q1b.e0 : Ent where
 pre := []
 inv := [(0, .val .str), (5, .val (.int .i64))]
 car := ⟨[(6, .val (.int .i64))], []⟩
 exits := [(.ret, ⟨[(2, .val .bool)], []⟩), (.exit 0, ⟨[], []⟩)]
 step := fun iv x => Q1b.s0 iv.1 iv.2 x
noncomputable def Q1b.f (a0 : ByteArray) : Option Bool :=
 (let y1 : Int := ((ByteArray.size a0 : Nat) : Int); (ob (Q1b.l0 a0 y1 (0 : Int)) fun r4 => (Z22 r4 (fun a5 => (some a5)) (fun b6 => (cb (!decide (a0 = bs_)) (cb (!decide (a0 = Q30)) (some (!decide (a0 = Q2y))) (some false)) (some false))))))
noncomputable def Q1b.fn : TFn := ⟨[.str], [.bool], fun x => Q1b.f x⟩
noncomputable def Q1b.C : Cx := cxC [((242, [0]), Q2l.fn)] 25
theorem Q1b.hC : CxOK Tryz.prog Q1b.C := cxq (FsOK.cons Q2l.ok (FsOK.nil))
noncomputable def Q1b.root : Code := Z6 Tryz.f210
theorem Q1b.h0 : LsOK Tryz.prog Q1b.C Q1b.root (lkL [([0, 1, 0, 1], Q1b.e0)]) :=
 LsOK.cons Q1b.hC (LsOK.nil) (by kernel_rfl) (fun iv x => by kernel_rfl)
theorem Q1b.ok : FnOK Tryz.prog 210 Q1b.fn := .qq Q1b.root Q1b.hC Tryz.func210 (lkL [([0, 1, 0, 1], Q1b.e0)]) [.tmp 2] Q1b.h0 fun x => by kernel_rfl
noncomputable def Q13.s0 (v0_14 : (List ByteArray)) (v0_15 : Int) (x0_16 : Int) : Option (Int ⊕ (Bool ⊕ Unit)) :=
 (cb (decide (x0_16 < v0_15)) (ck (0 ≤ x0_16 ∧ x0_16 < ((List.length v0_14 : Nat) : Int)) (let y7 : ByteArray := (rd ByteArray.empty v0_14 x0_16); (ob (Q1b.f y7) fun r8 => (cb (!r8) (some (.inr (.inl false))) (ck (InR (x0_16 + (1 : Int))) (some (.inl (x0_16 + (1 : Int))))))))) (some (.inr (.inr ()))))
noncomputable def Q13.l0 (v0_14 : (List ByteArray)) (v0_15 : Int) (x0_16 : Int) : Option (Bool ⊕ Unit) :=
 Zl (fun (x : Int) => Q13.s0 v0_14 v0_15 x) x0_16
noncomputable def Q13.e0 : Ent where
 pre := []
 inv := [(14, .val (.slice .str)), (15, .val (.int .i64))]
 car := ⟨[(16, .val (.int .i64))], []⟩
 exits := [(.ret, ⟨[(2, .val .bool)], []⟩), (.exit 0, ⟨[], []⟩)]
 step := fun iv x => Q13.s0 iv.1 iv.2 x
noncomputable def Q13.f (a0 : ByteArray) : Option Bool :=
 (let y1 : Int := ((ByteArray.size a0 : Nat) : Int); (cb (decide (y1 < (1 : Int))) (some false) (let y2 : Int := ((ByteArray.size a0 : Nat) : Int); (cb (decide ((200 : Int) < y2)) (some false) (ob (Q1o.f a0 Q2w) fun r3 => (let y4 : Int := ((List.length r3 : Nat) : Int); (ob (Q13.l0 r3 y4 (0 : Int)) fun r9 => (Z22 r9 (fun a10 => (some a10)) (fun b11 => (some true))))))))))
noncomputable def Q13.fn : TFn := ⟨[.str], [.bool], fun x => Q13.f x⟩
noncomputable def Q13.C : Cx := cxC [((160, [0, 0]), Q1o.fn), ((210, [0]), Q1b.fn)] 24
theorem Q13.hC : CxOK Tryz.prog Q13.C := cxq (FsOK.cons Q1o.ok (FsOK.cons Q1b.ok (FsOK.nil)))
noncomputable def Q13.root : Code := Z6 Tryz.f178
theorem Q13.h0 : LsOK Tryz.prog Q13.C Q13.root (lkL [([0, 1, 0, 1, 1], Q13.e0)]) :=
 LsOK.cons Q13.hC (LsOK.nil) (by kernel_rfl) (fun iv x => by kernel_rfl)
theorem Q13.ok : FnOK Tryz.prog 178 Q13.fn := .qq Q13.root Q13.hC Tryz.func178 (lkL [([0, 1, 0, 1, 1], Q13.e0)]) [.tmp 2] Q13.h0 fun x => by kernel_rfl
noncomputable def Qn.f (a0 : ByteArray) (a1 : ByteArray) : Option Bool :=
 (let y1 : Int := ((ByteArray.size a0 : Nat) : Int); (let y2 : Int := ((ByteArray.size a1 : Nat) : Int); (cb (decide (y2 ≤ y1)) (let y3 : Int := ((ByteArray.size a1 : Nat) : Int); (ck (0 ≤ y3 ∧ y3 ≤ ((ByteArray.size a0 : Nat) : Int)) (let y4 : ByteArray := (ByteArray.extract a0 0 (Int.toNat y3)); (some (decide (y4 = a1)))))) (some false))))
noncomputable def Qn.fn : TFn := ⟨[.str, .str], [.bool], fun x => Qn.f x.1 x.2⟩
noncomputable def Qn.C : Cx := cxC [] 18
theorem Qn.hC : CxOK Tryz.prog Qn.C := cxq FsOK.nil
noncomputable def Qn.root : Code := Z6 Tryz.f183
theorem Qn.ok : FnOK Tryz.prog 183 Qn.fn := .qq Qn.root Qn.hC Tryz.func183 (lkL []) [.tmp 4] LsOK.nil fun x => by kernel_rfl
noncomputable def Qw.f (a0 : ByteArray) (a1 : ByteArray) : Option (ByteArray × Bool) :=
 (ob (Qn.f a0 a1) fun r1 => (cb (!r1) (some (a0, false)) (let y2 : Int := ((ByteArray.size a1 : Nat) : Int); (ck (0 ≤ y2 ∧ y2 ≤ ((ByteArray.size a0 : Nat) : Int)) (let y3 : ByteArray := (ByteArray.extract a0 (Int.toNat y2) (ByteArray.size a0)); (some (y3, true)))))))
noncomputable def Qw.fn : TFn := ⟨[.str, .str], [.str, .bool], fun x => Qw.f x.1 x.2⟩
noncomputable def Qw.C : Cx := cxC [((183, [0, 0]), Qn.fn)] 15
theorem Qw.hC : CxOK Tryz.prog Qw.C := cxq (FsOK.cons Qn.ok (FsOK.nil))
noncomputable def Qw.root : Code := Z6 Tryz.f211
theorem Qw.ok : FnOK Tryz.prog 211 Qw.fn := .qq Qw.root Qw.hC Tryz.func211 (lkL []) [.tmp 4, .tmp 5] LsOK.nil fun x => by kernel_rfl
noncomputable def Q1a.f (a0 : ByteArray) (a1 : ByteArray) : Option (ByteArray × Bool) :=
 (ob (Qw.f a0 a1) fun r1 => (some (r1.1, r1.2)))
noncomputable def Q1a.fn : TFn := ⟨[.str, .str], [.str, .bool], fun x => Q1a.f x.1 x.2⟩
noncomputable def Q1a.C : Cx := cxC [((211, [0, 0]), Qw.fn)] 11
theorem Q1a.hC : CxOK Tryz.prog Q1a.C := cxq (FsOK.cons Qw.ok (FsOK.nil))
noncomputable def Q1a.root : Code := Z6 Tryz.f179
theorem Q1a.ok : FnOK Tryz.prog 179 Q1a.fn := .qq Q1a.root Q1a.hC Tryz.func179 (lkL []) [.tmp 4, .tmp 5] LsOK.nil fun x => by kernel_rfl
noncomputable def Q1d.f (a0 : ByteArray) (a1 : ByteArray) : Option (ByteArray × (ByteArray × Bool)) :=
 (ob (Q1p.f a0 a1) fun r1 => (cb (decide ((0 : Int) ≤ r1)) (ck (0 ≤ r1 ∧ r1 ≤ ((ByteArray.size a0 : Nat) : Int)) (let y2 : ByteArray := (ByteArray.extract a0 0 (Int.toNat r1)); (let y3 : Int := ((ByteArray.size a1 : Nat) : Int); (ck (InR (r1 + y3)) (ck (0 ≤ (r1 + y3) ∧ (r1 + y3) ≤ ((ByteArray.size a0 : Nat) : Int)) (let y4 : ByteArray := (ByteArray.extract a0 (Int.toNat (r1 + y3)) (ByteArray.size a0)); (some (y2, y4, true)))))))) (some (a0, bs_, false))))
noncomputable def Q1d.fn : TFn := ⟨[.str, .str], [.str, .str, .bool], fun x => Q1d.f x.1 x.2⟩
noncomputable def Q1d.C : Cx := ⟨T, TYt, lkF [((198, [0, 0]), Q1p.fn)], lkO [], lkD [(3, 10, [(0, true), (1, true), (2, true), (3, true), (4, true), (5, true), (6, true), (7, true), (8, true), (9, true)], none)], lkP [], [], [], false, [], [], lkS [], 23⟩
theorem Q1d.hC : CxOK Tryz.prog Q1d.C := cxq (FsOK.cons Q1p.ok (FsOK.nil))
noncomputable def Q1d.root : Code := Z6 Tryz.f159
theorem Q1d.ok : FnOK Tryz.prog 159 Q1d.fn := .qq Q1d.root Q1d.hC Tryz.func159 (lkL []) [.tmp 4, .tmp 5, .tmp 6] LsOK.nil fun x => by kernel_rfl
noncomputable def Q27.f (a0 : ByteArray) (a1 : ByteArray) : Option (ByteArray × (ByteArray × Bool)) :=
 (ob (Q1d.f a0 a1) fun r1 => (some (r1.1, r1.2.1, r1.2.2)))
noncomputable def Q27.fn : TFn := ⟨[.str, .str], [.str, .str, .bool], fun x => Q27.f x.1 x.2⟩
noncomputable def Q27.C : Cx := cxC [((159, [0, 0]), Q1d.fn)] 13
theorem Q27.hC : CxOK Tryz.prog Q27.C := cxq (FsOK.cons Q1d.ok (FsOK.nil))
noncomputable def Q27.root : Code := Z6 Tryz.f104
theorem Q27.ok : FnOK Tryz.prog 104 Q27.fn := .qq Q27.root Q27.hC Tryz.func104 (lkL []) [.tmp 4, .tmp 5, .tmp 6] LsOK.nil fun x => by kernel_rfl
noncomputable def Q2.s0 (v0_0 : ByteArray) (v0_1 : UInt8) (x0_5 : Int) : Option (Int ⊕ (Int ⊕ Unit)) :=
 (cb (decide ((0 : Int) ≤ x0_5)) (ck (0 ≤ x0_5 ∧ x0_5 < ((ByteArray.size v0_0 : Nat) : Int)) (cb (decide (((UInt8.toNat (bt v0_0 x0_5) : Nat) : Int) = ((UInt8.toNat v0_1 : Nat) : Int))) (some (.inr (.inl x0_5))) (ck (InR (x0_5 - (1 : Int))) (some (.inl (x0_5 - (1 : Int))))))) (some (.inr (.inr ()))))
noncomputable def Q2.l0 (v0_0 : ByteArray) (v0_1 : UInt8) (x0_5 : Int) : Option (Int ⊕ Unit) :=
 Zl (fun (x : Int) => Q2.s0 v0_0 v0_1 x) x0_5
noncomputable def Q2.e0 : Ent where
 pre := []
 inv := [(0, .val .str), (1, .val .byte)]
 car := ⟨[(5, .val (.int .i64))], []⟩
 exits := [(.ret, ⟨[(4, .val (.int .i64))], []⟩), (.exit 0, ⟨[], []⟩)]
 step := fun iv x => Q2.s0 iv.1 iv.2 x
noncomputable def Q2.f (a0 : ByteArray) (a1 : UInt8) : Option Int :=
 (let y1 : Int := ((ByteArray.size a0 : Nat) : Int); (ck (InR (y1 - (1 : Int))) (ob (Q2.l0 a0 a1 (y1 - (1 : Int))) fun r2 => (Z22 r2 (fun a3 => (some a3)) (fun b4 => (some (-1 : Int)))))))
noncomputable def Q2.fn : TFn := ⟨[.str, .byte], [(.int .i64)], fun x => Q2.f x.1 x.2⟩
noncomputable def Q2.C : Cx := cxC [] 19
theorem Q2.hC : CxOK Tryz.prog Q2.C := cxq FsOK.nil
noncomputable def Q2.root : Code := Z6 Tryz.f243
theorem Q2.h0 : LsOK Tryz.prog Q2.C Q2.root (lkL [([0, 1, 0, 1], Q2.e0)]) :=
 LsOK.cons Q2.hC (LsOK.nil) (by kernel_rfl) (fun iv x => by kernel_rfl)
theorem Q2.ok : FnOK Tryz.prog 243 Q2.fn := .qq Q2.root Q2.hC Tryz.func243 (lkL [([0, 1, 0, 1], Q2.e0)]) [.tmp 4] Q2.h0 fun x => by kernel_rfl
noncomputable def Q19.f (a0 : ByteArray) (a1 : UInt8) : Option Int :=
 (ob (Q2.f a0 a1) fun r1 => (some r1))
noncomputable def Q19.fn : TFn := ⟨[.str, .byte], [(.int .i64)], fun x => Q19.f x.1 x.2⟩
noncomputable def Q19.C : Cx := cxC [((243, [0, 0]), Q2.fn)] 8
theorem Q19.hC : CxOK Tryz.prog Q19.C := cxq (FsOK.cons Q2.ok (FsOK.nil))
noncomputable def Q19.root : Code := Z6 Tryz.f212
theorem Q19.ok : FnOK Tryz.prog 212 Q19.fn := .qq Q19.root Q19.hC Tryz.func212 (lkL []) [.tmp 4] LsOK.nil fun x => by kernel_rfl
noncomputable def Q2f.f (a0 : ByteArray) : Option ByteArray :=
 (ob (Q19.f a0 (UInt8.ofInt (47 : Int))) fun r1 => (ck (InR (r1 + (1 : Int))) (ck (0 ≤ (r1 + (1 : Int)) ∧ (r1 + (1 : Int)) ≤ ((ByteArray.size a0 : Nat) : Int)) (let y2 : ByteArray := (ByteArray.extract a0 (Int.toNat (r1 + (1 : Int))) (ByteArray.size a0)); (some y2)))))
noncomputable def Q2f.fn : TFn := ⟨[.str], [.str], fun x => Q2f.f x⟩
noncomputable def Q2f.C : Cx := cxC [((212, [0, 0]), Q19.fn)] 8
theorem Q2f.hC : CxOK Tryz.prog Q2f.C := cxq (FsOK.cons Q19.ok (FsOK.nil))
noncomputable def Q2f.root : Code := Z6 Tryz.f180
theorem Q2f.ok : FnOK Tryz.prog 180 Q2f.fn := .qq Q2f.root Q2f.hC Tryz.func180 (lkL []) [.tmp 2] LsOK.nil fun x => by kernel_rfl
noncomputable def Q14.f (a0 : (ByteArray × ByteArray)) : Option Int :=
 (cb (!decide (a0.1 = bs_)) (ob (Q13.f a0.1) fun r1 => (cb (!r1) (some (3 : Int)) (ob (Q13.f a0.2) fun r2 => (cb (!r2) (some (3 : Int)) (some (0 : Int)))))) (ob (Q13.f a0.2) fun r3 => (cb (!r3) (some (3 : Int)) (some (0 : Int)))))
noncomputable def Q14.fn : TFn := ⟨[(.pair .str .str)], [(.int .i64)], fun x => Q14.f x⟩
noncomputable def Q14.C : Cx := ⟨T, TYt, lkF [((178, [0]), Q13.fn)], lkO [], lkD [], lkP [], [1], [], false, [], [], lkS [], 18⟩
theorem Q14.hC : CxOK Tryz.prog Q14.C := cxq (FsOK.cons Q13.ok (FsOK.nil))
noncomputable def Q14.root : Code := Z6 Tryz.f181
theorem Q14.ok : FnOK Tryz.prog 181 Q14.fn := .qq Q14.root Q14.hC Tryz.func181 (lkL []) [.tmp 2] LsOK.nil fun x => by kernel_rfl
noncomputable def Q20.f (a0 : ByteArray) (a1 : ByteArray) : Option ((ByteArray × ByteArray) × Int) :=
 (cb (!decide (a1 = bs_)) (ob (Q13.f a1) fun r1 => (cb (!r1) (some ((bs_, bs_), (3 : Int))) (ob (Q1a.f a0 Q1g) fun r2 => (ob (Q1a.f a0 Q2v) fun r3 => (cb r2.2 (ob (Q27.f r2.1 Q2v) fun r4 => (cb (!r4.2.2) (ob (Q2f.f r4.1) fun r5 => (ob (Q14.f (r4.1, r5)) fun r6 => (cb (!decide (r6 = (0 : Int))) (some ((bs_, bs_), (10 : Int))) (some ((r4.1, r5), (0 : Int)))))) (ob (Q14.f (r4.1, r4.2.1)) fun r7 => (cb (!decide (r7 = (0 : Int))) (some ((bs_, bs_), (10 : Int))) (some ((r4.1, r4.2.1), (0 : Int))))))) (cb r3.2 (ob (Q14.f (a1, r3.1)) fun r8 => (cb (!decide (r8 = (0 : Int))) (some ((bs_, bs_), (10 : Int))) (some ((a1, r3.1), (0 : Int))))) (ob (Q14.f (bs_, bs_)) fun r9 => (cb (!decide (r9 = (0 : Int))) (some ((bs_, bs_), (10 : Int))) (some ((bs_, bs_), (0 : Int))))))))))) (ob (Q1a.f a0 Q1g) fun r10 => (ob (Q1a.f a0 Q2v) fun r11 => (cb r10.2 (ob (Q27.f r10.1 Q2v) fun r12 => (cb (!r12.2.2) (ob (Q2f.f r12.1) fun r13 => (ob (Q14.f (r12.1, r13)) fun r14 => (cb (!decide (r14 = (0 : Int))) (some ((bs_, bs_), (10 : Int))) (some ((r12.1, r13), (0 : Int)))))) (ob (Q14.f (r12.1, r12.2.1)) fun r15 => (cb (!decide (r15 = (0 : Int))) (some ((bs_, bs_), (10 : Int))) (some ((r12.1, r12.2.1), (0 : Int))))))) (cb r11.2 (ob (Q14.f (a1, r11.1)) fun r16 => (cb (!decide (r16 = (0 : Int))) (some ((bs_, bs_), (10 : Int))) (some ((a1, r11.1), (0 : Int))))) (ob (Q14.f (bs_, bs_)) fun r17 => (cb (!decide (r17 = (0 : Int))) (some ((bs_, bs_), (10 : Int))) (some ((bs_, bs_), (0 : Int))))))))))
noncomputable def Q20.fn : TFn := ⟨[.str, .str], [(.pair .str .str), (.int .i64)], fun x => Q20.f x.1 x.2⟩
noncomputable def Q20.C : Cx := cxC [((104, [0, 0]), Q27.fn), ((178, [0]), Q13.fn), ((179, [0, 0]), Q1a.fn), ((180, [0]), Q2f.fn), ((181, [0]), Q14.fn)] 56
theorem Q20.hC : CxOK Tryz.prog Q20.C := cxq (FsOK.cons Q27.ok (FsOK.cons Q13.ok (FsOK.cons Q1a.ok (FsOK.cons Q2f.ok (FsOK.cons Q14.ok (FsOK.nil))))))
noncomputable def Q20.root : Code := Z6 Tryz.f126
theorem Q20.ok : FnOK Tryz.prog 126 Q20.fn := .qq Q20.root Q20.hC Tryz.func126 (lkL []) [.cell 4 154, .tmp 5] LsOK.nil fun x => by kernel_rfl
noncomputable def Q2d.f (a0 : (ByteArray × ByteArray)) : Option ByteArray :=
 (ck (((ByteArray.size Q1g + ByteArray.size a0.1 : Nat) : Int) ≤ 9223372036854775807) (ck (((ByteArray.size (Q1g ++ a0.1) + ByteArray.size Q2v : Nat) : Int) ≤ 9223372036854775807) (let y1 : ByteArray := ((Q1g ++ a0.1) ++ Q2v); (ck (((ByteArray.size y1 + ByteArray.size a0.2 : Nat) : Int) ≤ 9223372036854775807) (some (y1 ++ a0.2))))))
noncomputable def Q2d.fn : TFn := ⟨[(.pair .str .str)], [.str], fun x => Q2d.f x⟩
noncomputable def Q2d.C : Cx := ⟨T, TYt, lkF [], lkO [], lkD [], lkP [], [1], [], false, [], [], lkS [], 10⟩
theorem Q2d.hC : CxOK Tryz.prog Q2d.C := cxq FsOK.nil
noncomputable def Q2d.root : Code := Z6 Tryz.f127
theorem Q2d.ok : FnOK Tryz.prog 127 Q2d.fn := .qq Q2d.root Q2d.hC Tryz.func127 (lkL []) [.tmp 2] LsOK.nil fun x => by kernel_rfl
noncomputable def Q1j.f (a0 : ByteArray) : Option Bool :=
 (ob (Q20.f a0 bs_) fun r1 => (cb (decide (r1.2 = (0 : Int))) (ob (Q2d.f r1.1) fun r2 => (some (decide (r2 = a0)))) (some false)))
noncomputable def Q1j.fn : TFn := ⟨[.str], [.bool], fun x => Q1j.f x⟩
noncomputable def Q1j.C : Cx := ⟨T, TYt, lkF [((126, [0, 0]), Q20.fn), ((127, [0]), Q2d.fn)], lkO [], lkD [], lkP [], [3], [], false, [], [], lkS [], 18⟩
theorem Q1j.hC : CxOK Tryz.prog Q1j.C := cxq (FsOK.cons Q20.ok (FsOK.cons Q2d.ok (FsOK.nil)))
noncomputable def Q1j.root : Code := Z6 Tryz.f77
theorem Q1j.ok : FnOK Tryz.prog 77 Q1j.fn := .qq Q1j.root Q1j.hC Tryz.func77 (lkL []) [.tmp 2] LsOK.nil fun x => by kernel_rfl
noncomputable def Q1r.f (a0 : ByteArray) : Option Bool :=
 (let y1 : Int := ((ByteArray.size a0 : Nat) : Int); (cb (decide (y1 < (1 : Int))) (some false) (let y2 : Int := ((ByteArray.size a0 : Nat) : Int); (cb (decide ((40 : Int) < y2)) (some false) (ck (0 ≤ (0 : Int) ∧ (0 : Int) < ((ByteArray.size a0 : Nat) : Int)) (cb (decide (((UInt8.toNat (bt a0 (0 : Int)) : Nat) : Int) < (97 : Int))) (some false) (ck (0 ≤ (0 : Int) ∧ (0 : Int) < ((ByteArray.size a0 : Nat) : Int)) (cb (decide ((122 : Int) < ((UInt8.toNat (bt a0 (0 : Int)) : Nat) : Int))) (some false) (ob (Q2j.f a0 Q18) fun r3 => (some (decide (r3 = bs_))))))))))))
noncomputable def Q1r.fn : TFn := ⟨[.str], [.bool], fun x => Q1r.f x⟩
noncomputable def Q1r.C : Cx := cxC [((121, [0, 0]), Q2j.fn)] 24
theorem Q1r.hC : CxOK Tryz.prog Q1r.C := cxq (FsOK.cons Q2j.ok (FsOK.nil))
noncomputable def Q1r.root : Code := Z6 Tryz.f76
theorem Q1r.ok : FnOK Tryz.prog 76 Q1r.fn := .qq Q1r.root Q1r.hC Tryz.func76 (lkL []) [.tmp 2] LsOK.nil fun x => by kernel_rfl
noncomputable def Q1k.f (a0 : Int) (a1 : Int) (a2 : Int) : Option Bool :=
 (cb (decide (a1 ≤ a0)) (some (decide (a0 ≤ a2))) (some false))
noncomputable def Q1k.fn : TFn := ⟨[(.int .i64), (.int .i64), (.int .i64)], [.bool], fun x => Q1k.f x.1 x.2.1 x.2.2⟩
noncomputable def Q1k.C : Cx := cxC [] 15
theorem Q1k.hC : CxOK Tryz.prog Q1k.C := cxq FsOK.nil
noncomputable def Q1k.root : Code := Z6 Tryz.f70
theorem Q1k.ok : FnOK Tryz.prog 70 Q1k.fn := .qq Q1k.root Q1k.hC Tryz.func70 (lkL []) [.tmp 6] LsOK.nil fun x => by kernel_rfl
noncomputable def Qd.s0 (v0_1 : (ByteArray × (ByteArray × (ByteArray × (ByteArray × (Int × ((List ByteArray) × ByteArray))))))) (v0_36 : (List ByteArray)) (v0_37 : Int) (x0_38 : Int) : Option (Int ⊕ (Int ⊕ Unit)) :=
 (cb (decide (x0_38 < v0_37)) (ck (0 ≤ x0_38 ∧ x0_38 < ((List.length v0_36 : Nat) : Int)) (let y11 : ByteArray := (rd ByteArray.empty v0_36 x0_38); (ob (Q1q.f y11) fun r12 => (cb (!r12) (some (.inr (.inl (3 : Int)))) (cb (decide ((0 : Int) < x0_38)) (ck (InR (x0_38 - (1 : Int))) (ck (0 ≤ (x0_38 - (1 : Int)) ∧ (x0_38 - (1 : Int)) < ((List.length v0_1.2.2.2.2.2.1 : Nat) : Int)) (let y13 : ByteArray := (rd ByteArray.empty v0_1.2.2.2.2.2.1 (x0_38 - (1 : Int))); (cb (Za8 y11 y13 || decide (y11 = y13)) (some (.inr (.inl (8 : Int)))) (ck (InR (x0_38 + (1 : Int))) (some (.inl (x0_38 + (1 : Int))))))))) (ck (InR (x0_38 + (1 : Int))) (some (.inl (x0_38 + (1 : Int)))))))))) (some (.inr (.inr ()))))
noncomputable def Qd.l0 (v0_1 : (ByteArray × (ByteArray × (ByteArray × (ByteArray × (Int × ((List ByteArray) × ByteArray))))))) (v0_36 : (List ByteArray)) (v0_37 : Int) (x0_38 : Int) : Option (Int ⊕ Unit) :=
 Zl (fun (x : Int) => Qd.s0 v0_1 v0_36 v0_37 x) x0_38
noncomputable def Qd.e0 : Ent where
 pre := []
 inv := [(1, .rp (.pair .str (.pair .str (.pair .str (.pair .str (.pair (.int .i64) (.pair (.slice .str) .str))))))), (36, .val (.slice .str)), (37, .val (.int .i64))]
 car := ⟨[(38, .val (.int .i64))], []⟩
 exits := [(.ret, ⟨[(2, .val (.int .i64))], []⟩), (.exit 1, ⟨[], []⟩)]
 step := fun iv x => Qd.s0 iv.1 iv.2.1 iv.2.2 x
noncomputable def Qd.f (a0 : (ByteArray × (ByteArray × (ByteArray × (ByteArray × (Int × ((List ByteArray) × ByteArray))))))) : Option Int :=
 (ob (Q1q.f a0.1) fun r1 => (cb (!r1) (some (3 : Int)) (ob (Q1j.f a0.2.1) fun r2 => (cb (!r2) (some (10 : Int)) (ob (Q1q.f a0.2.2.1) fun r3 => (cb (!r3) (some (3 : Int)) (ob (Q1r.f a0.2.2.2.1) fun r4 => (cb (!r4) (some (5 : Int)) (ob (Q1k.f a0.2.2.2.2.1 (0 : Int) (1000000000 : Int)) fun r5 => (cb (!r5) (some (1 : Int)) (let y6 : Int := ((List.length a0.2.2.2.2.2.1 : Nat) : Int); (cb (decide ((50 : Int) < y6)) (some (2 : Int)) (let y7 : Int := ((List.length a0.2.2.2.2.2.1 : Nat) : Int); (ob (Qd.l0 a0 a0.2.2.2.2.2.1 y7 (0 : Int)) fun r14 => (Z22 r14 (fun a15 => (some a15)) (fun b16 => (cb (!decide (a0.2.2.2.2.2.2 = bs_)) (ob (Q1q.f a0.2.2.2.2.2.2) fun r17 => (cb (!r17) (some (3 : Int)) (some (0 : Int)))) (some (0 : Int)))))))))))))))))))
noncomputable def Qd.fn : TFn := ⟨[(.pair .str (.pair .str (.pair .str (.pair .str (.pair (.int .i64) (.pair (.slice .str) .str))))))], [(.int .i64)], fun x => Qd.f x⟩
noncomputable def Qd.C : Cx := ⟨T, TYt, lkF [((69, [0]), Q1q.fn), ((70, [0, 0, 0]), Q1k.fn), ((76, [0]), Q1r.fn), ((77, [0]), Q1j.fn)], lkO [], lkD [], lkP [], [1], [], false, [], [], lkS [], 68⟩
theorem Qd.hC : CxOK Tryz.prog Qd.C := cxq (FsOK.cons Q1q.ok (FsOK.cons Q1k.ok (FsOK.cons Q1r.ok (FsOK.cons Q1j.ok (FsOK.nil)))))
noncomputable def Qd.root : Code := Z6 Tryz.f84
theorem Qd.h0 : LsOK Tryz.prog Qd.C Qd.root (lkL [([0, 1, 0, 1, 1], Qd.e0)]) :=
 LsOK.cons Qd.hC (LsOK.nil) (by kernel_rfl) (fun iv x => by kernel_rfl)
theorem Qd.ok : FnOK Tryz.prog 84 Qd.fn := .qq Qd.root Qd.hC Tryz.func84 (lkL [([0, 1, 0, 1, 1], Qd.e0)]) [.tmp 2] Qd.h0 fun x => by kernel_rfl
noncomputable def Qm.s0 (v0_0 : (List (ByteArray × (ByteArray × (ByteArray × (ByteArray × (Int × ((List ByteArray) × ByteArray)))))))) (v0_9 : (List (ByteArray × (ByteArray × (ByteArray × (ByteArray × (Int × ((List ByteArray) × ByteArray)))))))) (v0_10 : Int) (x0_11 : Int) : Option (Int ⊕ (Int ⊕ Unit)) :=
 (cb (decide (x0_11 < v0_10)) (ck (0 ≤ x0_11 ∧ x0_11 < ((List.length v0_9 : Nat) : Int)) (let y6 : (ByteArray × (ByteArray × (ByteArray × (ByteArray × (Int × ((List ByteArray) × ByteArray)))))) := (rd (ByteArray.empty, (ByteArray.empty, (ByteArray.empty, (ByteArray.empty, ((0 : Int), (([] : (List ByteArray)), ByteArray.empty)))))) v0_9 x0_11); (ob (Qd.f y6) fun r7 => (cb (!decide (r7 = (0 : Int))) (some (.inr (.inl r7))) (cb (decide (y6.2.2.2.2.2.2 = bs_)) (some (.inr (.inl (3 : Int)))) (cb (decide ((0 : Int) < x0_11)) (ck (InR (x0_11 - (1 : Int))) (ck (0 ≤ (x0_11 - (1 : Int)) ∧ (x0_11 - (1 : Int)) < ((List.length v0_0 : Nat) : Int)) (let y8 : Int := (rd (ByteArray.empty, (ByteArray.empty, (ByteArray.empty, (ByteArray.empty, ((0 : Int), (([] : (List ByteArray)), ByteArray.empty)))))) v0_0 (x0_11 - (1 : Int))).2.2.2.2.1; (cb (decide (y6.2.2.2.2.1 < y8)) (some (.inr (.inl (8 : Int)))) (ck (InR (x0_11 + (1 : Int))) (some (.inl (x0_11 + (1 : Int))))))))) (ck (InR (x0_11 + (1 : Int))) (some (.inl (x0_11 + (1 : Int))))))))))) (some (.inr (.inr ()))))
noncomputable def Qm.l0 (v0_0 : (List (ByteArray × (ByteArray × (ByteArray × (ByteArray × (Int × ((List ByteArray) × ByteArray)))))))) (v0_9 : (List (ByteArray × (ByteArray × (ByteArray × (ByteArray × (Int × ((List ByteArray) × ByteArray)))))))) (v0_10 : Int) (x0_11 : Int) : Option (Int ⊕ Unit) :=
 Zl (fun (x : Int) => Qm.s0 v0_0 v0_9 v0_10 x) x0_11
noncomputable def Qm.e0 : Ent where
 pre := []
 inv := [(0, .val (.slice (.pair .str (.pair .str (.pair .str (.pair .str (.pair (.int .i64) (.pair (.slice .str) .str)))))))), (9, .val (.slice (.pair .str (.pair .str (.pair .str (.pair .str (.pair (.int .i64) (.pair (.slice .str) .str)))))))), (10, .val (.int .i64))]
 car := ⟨[(11, .val (.int .i64))], []⟩
 exits := [(.ret, ⟨[(2, .val (.int .i64))], []⟩), (.exit 0, ⟨[], []⟩)]
 step := fun iv x => Qm.s0 iv.1 iv.2.1 iv.2.2 x
noncomputable def Qm.f (a0 : (List (ByteArray × (ByteArray × (ByteArray × (ByteArray × (Int × ((List ByteArray) × ByteArray)))))))) : Option Int :=
 (let y1 : Int := ((List.length a0 : Nat) : Int); (cb (decide ((1000 : Int) < y1)) (some (2 : Int)) (let y2 : Int := ((List.length a0 : Nat) : Int); (ob (Qm.l0 a0 a0 y2 (0 : Int)) fun r9 => (Z22 r9 (fun a10 => (some a10)) (fun b11 => (some (0 : Int))))))))
noncomputable def Qm.fn : TFn := ⟨[(.slice (.pair .str (.pair .str (.pair .str (.pair .str (.pair (.int .i64) (.pair (.slice .str) .str)))))))], [(.int .i64)], fun x => Qm.f x⟩
noncomputable def Qm.C : Cx := ⟨T, TYt, lkF [((84, [0]), Qd.fn)], lkO [], lkD [(11, 11, [(0, true), (1, true), (2, true), (3, true), (4, true), (5, true), (6, true), (7, true), (8, true), (9, true), (10, true)], none)], lkP [], [4], [], false, [], [], lkS [], 38⟩
theorem Qm.hC : CxOK Tryz.prog Qm.C := cxq (FsOK.cons Qd.ok (FsOK.nil))
noncomputable def Qm.root : Code := Z6 Tryz.f36
theorem Qm.h0 : LsOK Tryz.prog Qm.C Qm.root (lkL [([0, 1, 0, 1, 1], Qm.e0)]) :=
 LsOK.cons Qm.hC (LsOK.nil) (by kernel_rfl) (fun iv x => by kernel_rfl)
theorem Qm.ok : FnOK Tryz.prog 36 Qm.fn := .qq Qm.root Qm.hC Tryz.func36 (lkL [([0, 1, 0, 1, 1], Qm.e0)]) [.tmp 2] Qm.h0 fun x => by kernel_rfl
noncomputable def Qe.s0 (v0_0 : (List (ByteArray × (ByteArray × (ByteArray × (ByteArray × (Int × ((List ByteArray) × ByteArray)))))))) (v0_1 : (List (Int × (ByteArray × Int)))) (v0_16 : (List (Int × (ByteArray × Int)))) (v0_17 : Int) (x0_18 : Int) : Option (Int ⊕ (Int ⊕ Unit)) :=
 (cb (decide (x0_18 < v0_17)) (ck (0 ≤ x0_18 ∧ x0_18 < ((List.length v0_16 : Nat) : Int)) (let y11 : (Int × (ByteArray × Int)) := (rd ((0 : Int), (ByteArray.empty, (0 : Int))) v0_16 x0_18); (let y12 : Int := ((List.length v0_0 : Nat) : Int); (ck (InR (y12 - (1 : Int))) (ob (Q1k.f y11.1 (0 : Int) (y12 - (1 : Int))) fun r13 => (cb (!r13) (some (.inr (.inl (9 : Int)))) (ob (Q1q.f y11.2.1) fun r14 => (cb (!r14) (some (.inr (.inl (3 : Int)))) (ck (0 ≤ y11.1 ∧ y11.1 < ((List.length v0_0 : Nat) : Int)) (let y15 : Int := (rd (ByteArray.empty, (ByteArray.empty, (ByteArray.empty, (ByteArray.empty, ((0 : Int), (([] : (List ByteArray)), ByteArray.empty)))))) v0_0 y11.1).2.2.2.2.1; (ob (Q1k.f y11.2.2 y15 (1000000000 : Int)) fun r16 => (cb (!r16) (some (.inr (.inl (1 : Int)))) (cb (decide ((0 : Int) < x0_18)) (ck (InR (x0_18 - (1 : Int))) (ck (0 ≤ (x0_18 - (1 : Int)) ∧ (x0_18 - (1 : Int)) < ((List.length v0_1 : Nat) : Int)) (let y17 : Int := (rd ((0 : Int), (ByteArray.empty, (0 : Int))) v0_1 (x0_18 - (1 : Int))).2.2; (cb (decide (y11.2.2 < y17)) (some (.inr (.inl (8 : Int)))) (ck (InR (x0_18 + (1 : Int))) (some (.inl (x0_18 + (1 : Int))))))))) (ck (InR (x0_18 + (1 : Int))) (some (.inl (x0_18 + (1 : Int)))))))))))))))))) (some (.inr (.inr ()))))
noncomputable def Qe.l0 (v0_0 : (List (ByteArray × (ByteArray × (ByteArray × (ByteArray × (Int × ((List ByteArray) × ByteArray)))))))) (v0_1 : (List (Int × (ByteArray × Int)))) (v0_16 : (List (Int × (ByteArray × Int)))) (v0_17 : Int) (x0_18 : Int) : Option (Int ⊕ Unit) :=
 Zl (fun (x : Int) => Qe.s0 v0_0 v0_1 v0_16 v0_17 x) x0_18
noncomputable def Qe.e0 : Ent where
 pre := []
 inv := [(0, .val (.slice (.pair .str (.pair .str (.pair .str (.pair .str (.pair (.int .i64) (.pair (.slice .str) .str)))))))), (1, .val (.slice (.pair (.int .i64) (.pair .str (.int .i64))))), (16, .val (.slice (.pair (.int .i64) (.pair .str (.int .i64))))), (17, .val (.int .i64))]
 car := ⟨[(18, .val (.int .i64))], []⟩
 exits := [(.ret, ⟨[(4, .val (.int .i64))], []⟩), (.exit 0, ⟨[], []⟩)]
 step := fun iv x => Qe.s0 iv.1 iv.2.1 iv.2.2.1 iv.2.2.2 x
noncomputable def Qe.f (a0 : (List (ByteArray × (ByteArray × (ByteArray × (ByteArray × (Int × ((List ByteArray) × ByteArray)))))))) (a1 : (List (Int × (ByteArray × Int)))) : Option Int :=
 (ob (Qm.f a0) fun r1 => (cb (!decide (r1 = (0 : Int))) (some r1) (let y2 : Int := ((List.length a1 : Nat) : Int); (cb (decide ((1000 : Int) < y2)) (some (2 : Int)) (let y3 : Int := ((List.length a1 : Nat) : Int); (ob (Qe.l0 a0 a1 a1 y3 (0 : Int)) fun r18 => (Z22 r18 (fun a19 => (some a19)) (fun b20 => (some (0 : Int))))))))))
noncomputable def Qe.fn : TFn := ⟨[(.slice (.pair .str (.pair .str (.pair .str (.pair .str (.pair (.int .i64) (.pair (.slice .str) .str))))))), (.slice (.pair (.int .i64) (.pair .str (.int .i64))))], [(.int .i64)], fun x => Qe.f x.1 x.2⟩
noncomputable def Qe.C : Cx := ⟨T, TYt, lkF [((36, [0]), Qm.fn), ((69, [0]), Q1q.fn), ((70, [0, 0, 0]), Q1k.fn)], lkO [], lkD [(13, 8, [(0, true), (1, true), (2, true), (3, true), (4, true), (5, true), (6, true), (7, true)], none), (15, 11, [(0, true), (1, true), (2, true), (3, true), (4, true), (5, true), (6, true), (7, true), (8, true), (9, true), (10, true)], none)], lkP [], [7], [], false, [], [], lkS [], 62⟩
theorem Qe.hC : CxOK Tryz.prog Qe.C := cxq (FsOK.cons Qm.ok (FsOK.cons Q1q.ok (FsOK.cons Q1k.ok (FsOK.nil))))
noncomputable def Qe.root : Code := Z6 Tryz.f65
theorem Qe.h0 : LsOK Tryz.prog Qe.C Qe.root (lkL [([0, 1, 0, 1, 1, 1], Qe.e0)]) :=
 LsOK.cons Qe.hC (LsOK.nil) (by kernel_rfl) (fun iv x => by kernel_rfl)
theorem Qe.ok : FnOK Tryz.prog 65 Qe.fn := .qq Qe.root Qe.hC Tryz.func65 (lkL [([0, 1, 0, 1, 1, 1], Qe.e0)]) [.tmp 4] Qe.h0 fun x => by kernel_rfl
noncomputable def Qk.s0 (v0_0 : (List (ByteArray × (ByteArray × (ByteArray × (ByteArray × (Int × ((List ByteArray) × ByteArray)))))))) (v0_16 : (List (Int × (ByteArray × Int)))) (v0_17 : Int) (x0_18 : Int) (o0_0_0 : (List Bool)) (o0_0_1 : (List Bool)) (o0_0_2 : (List (ByteArray × Bool))) (o0_1 : (List Bool)) (o0_2 : (List Bool)) (o0_3 : (List (ByteArray × Bool))) : Option ((Int × ((List Bool) × ((List Bool) × ((List (ByteArray × Bool)) × ((List Bool) × ((List Bool) × (List (ByteArray × Bool)))))))) ⊕ ((List Bool) × ((List Bool) × ((List (ByteArray × Bool)) × ((List Bool) × ((List Bool) × (List (ByteArray × Bool)))))))) :=
 (cb (decide (x0_18 < v0_17)) (ck (0 ≤ x0_18 ∧ x0_18 < ((List.length v0_16 : Nat) : Int)) (let y5 : (Int × (ByteArray × Int)) := (rd ((0 : Int), (ByteArray.empty, (0 : Int))) v0_16 x0_18); (ck (0 ≤ y5.1 ∧ y5.1 < ((List.length o0_1 : Nat) : Int)) (ck ((Int.toNat y5.1) < List.length o0_1) (ck (0 ≤ y5.1 ∧ y5.1 < ((List.length v0_0 : Nat) : Int)) (let y6 : ByteArray := (rd (ByteArray.empty, (ByteArray.empty, (ByteArray.empty, (ByteArray.empty, ((0 : Int), (([] : (List ByteArray)), ByteArray.empty)))))) v0_0 y5.1).2.2.1; (cb (!decide (y5.2.1 = y6)) (ck (0 ≤ y5.1 ∧ y5.1 < ((List.length o0_2 : Nat) : Int)) (ck ((Int.toNat y5.1) < List.length o0_2) (ck (0 ≤ y5.1 ∧ y5.1 < ((List.length v0_0 : Nat) : Int)) (let y7 : ByteArray := (rd (ByteArray.empty, (ByteArray.empty, (ByteArray.empty, (ByteArray.empty, ((0 : Int), (([] : (List ByteArray)), ByteArray.empty)))))) v0_0 y5.1).2.2.2.1; (ck (InR (x0_18 + (1 : Int))) (some (.inl ((x0_18 + (1 : Int)), o0_0_0, o0_0_1, o0_0_2, (List.set o0_1 (Int.toNat y5.1) true), (List.set o0_2 (Int.toNat y5.1) true), (mset y7 true o0_3))))))))) (ck (InR (x0_18 + (1 : Int))) (some (.inl ((x0_18 + (1 : Int)), o0_0_0, o0_0_1, o0_0_2, (List.set o0_1 (Int.toNat y5.1) true), o0_2, o0_3))))))))))) (some (.inr (o0_0_0, o0_0_1, o0_0_2, o0_1, o0_2, o0_3))))
noncomputable def Qk.l0 (v0_0 : (List (ByteArray × (ByteArray × (ByteArray × (ByteArray × (Int × ((List ByteArray) × ByteArray)))))))) (v0_16 : (List (Int × (ByteArray × Int)))) (v0_17 : Int) (x0_18 : Int) (o0_0_0 : (List Bool)) (o0_0_1 : (List Bool)) (o0_0_2 : (List (ByteArray × Bool))) (o0_1 : (List Bool)) (o0_2 : (List Bool)) (o0_3 : (List (ByteArray × Bool))) : Option ((List Bool) × ((List Bool) × ((List (ByteArray × Bool)) × ((List Bool) × ((List Bool) × (List (ByteArray × Bool))))))) :=
 Zl (fun (x : (Int × ((List Bool) × ((List Bool) × ((List (ByteArray × Bool)) × ((List Bool) × ((List Bool) × (List (ByteArray × Bool))))))))) => Qk.s0 v0_0 v0_16 v0_17 x.1 x.2.1 x.2.2.1 x.2.2.2.1 x.2.2.2.2.1 x.2.2.2.2.2.1 x.2.2.2.2.2.2) (x0_18, o0_0_0, o0_0_1, o0_0_2, o0_1, o0_2, o0_3)
noncomputable def Qk.e0 : Ent where
 pre := []
 inv := [(0, .val (.slice (.pair .str (.pair .str (.pair .str (.pair .str (.pair (.int .i64) (.pair (.slice .str) .str)))))))), (16, .val (.slice (.pair (.int .i64) (.pair .str (.int .i64))))), (17, .val (.int .i64))]
 car := ⟨[(4, .ptr 0 3), (5, .ptr 4 3), (18, .val (.int .i64))], [.box 112 [.val (.slice .bool), .val (.slice .bool), .val (.mp .bool)], .row 4 .bool, .row 4 .bool, .mapo .bool, .box 112 [.own 1 1, .own 2 1, .nm 3 []]]⟩
 exits := [(.exit 0, ⟨[(4, .ptr 0 3), (5, .ptr 4 3)], [.box 112 [.val (.slice .bool), .val (.slice .bool), .val (.mp .bool)], .row 4 .bool, .row 4 .bool, .mapo .bool, .box 112 [.own 1 1, .own 2 1, .nm 3 []]]⟩)]
 step := fun iv x => Qk.s0 iv.1 iv.2.1 iv.2.2 x.1 x.2.1 x.2.2.1 x.2.2.2.1 x.2.2.2.2.1 x.2.2.2.2.2.1 x.2.2.2.2.2.2
noncomputable def Qk.f (a0 : (List (ByteArray × (ByteArray × (ByteArray × (ByteArray × (Int × ((List ByteArray) × ByteArray)))))))) (a1 : (List (Int × (ByteArray × Int)))) : Option ((List Bool) × ((List Bool) × (List (ByteArray × Bool)))) :=
 (both (ck (0 ≤ ((List.length a0 : Nat) : Int) ∧ ((List.length a0 : Nat) : Int) * (1 : Int) ≤ 140737488355328) (both (ck (0 ≤ ((List.length a0 : Nat) : Int) ∧ ((List.length a0 : Nat) : Int) * (1 : Int) ≤ 140737488355328) (mix (.node .leaf .leaf) (let y1 : Int := ((List.length a1 : Nat) : Int); (ob (Qk.l0 a0 a1 y1 (0 : Int) ([] : List Bool) ([] : List Bool) ([] : (List (ByteArray × Bool))) (List.replicate (Int.toNat ((List.length a0 : Nat) : Int)) false) (List.replicate (Int.toNat ((List.length a0 : Nat) : Int)) false) ([] : List (ByteArray × Bool))) fun r8 => (some r8.2.2.2))))) (mix (.node (.node .leaf .leaf) (.node .leaf .leaf)) (ck (0 ≤ ((List.length a0 : Nat) : Int) ∧ ((List.length a0 : Nat) : Int) * (1 : Int) ≤ 140737488355328) (let y1 : Int := ((List.length a1 : Nat) : Int); (ob (Qk.l0 a0 a1 y1 (0 : Int) ([] : List Bool) ([] : List Bool) ([] : (List (ByteArray × Bool))) (List.replicate (Int.toNat ((List.length a0 : Nat) : Int)) false) (List.replicate (Int.toNat ((List.length a0 : Nat) : Int)) false) ([] : List (ByteArray × Bool))) fun r2 => (some r2.2.2.2))))))) (both (ck (0 ≤ ((List.length a0 : Nat) : Int) ∧ ((List.length a0 : Nat) : Int) * (1 : Int) ≤ 140737488355328) (both (ck (0 ≤ ((List.length a0 : Nat) : Int) ∧ ((List.length a0 : Nat) : Int) * (1 : Int) ≤ 140737488355328) (mix (.node .leaf .leaf) (let y1 : Int := ((List.length a1 : Nat) : Int); (ob (Qk.l0 a0 a1 y1 (0 : Int) ([] : List Bool) ([] : List Bool) ([] : (List (ByteArray × Bool))) (List.replicate (Int.toNat ((List.length a0 : Nat) : Int)) false) (List.replicate (Int.toNat ((List.length a0 : Nat) : Int)) false) ([] : List (ByteArray × Bool))) fun r2 => (some r2.2.2.2))))) (mix (.node (.node .leaf .leaf) (.node .leaf .leaf)) (ck (0 ≤ ((List.length a0 : Nat) : Int) ∧ ((List.length a0 : Nat) : Int) * (1 : Int) ≤ 140737488355328) (let y1 : Int := ((List.length a1 : Nat) : Int); (ob (Qk.l0 a0 a1 y1 (0 : Int) ([] : List Bool) ([] : List Bool) ([] : (List (ByteArray × Bool))) (List.replicate (Int.toNat ((List.length a0 : Nat) : Int)) false) (List.replicate (Int.toNat ((List.length a0 : Nat) : Int)) false) ([] : List (ByteArray × Bool))) fun r2 => (some r2.2.2.2))))))) (mix (.node .leaf .leaf) (both (ck (0 ≤ ((List.length a0 : Nat) : Int) ∧ ((List.length a0 : Nat) : Int) * (1 : Int) ≤ 140737488355328) (mix (.node .leaf .leaf) (ck (0 ≤ ((List.length a0 : Nat) : Int) ∧ ((List.length a0 : Nat) : Int) * (1 : Int) ≤ 140737488355328) (let y1 : Int := ((List.length a1 : Nat) : Int); (ob (Qk.l0 a0 a1 y1 (0 : Int) ([] : List Bool) ([] : List Bool) ([] : (List (ByteArray × Bool))) (List.replicate (Int.toNat ((List.length a0 : Nat) : Int)) false) (List.replicate (Int.toNat ((List.length a0 : Nat) : Int)) false) ([] : List (ByteArray × Bool))) fun r2 => (some r2.2.2.2)))))) (both (ck (0 ≤ ((List.length a0 : Nat) : Int) ∧ ((List.length a0 : Nat) : Int) * (1 : Int) ≤ 140737488355328) (mix (.node .leaf .leaf) (ck (0 ≤ ((List.length a0 : Nat) : Int) ∧ ((List.length a0 : Nat) : Int) * (1 : Int) ≤ 140737488355328) (let y1 : Int := ((List.length a1 : Nat) : Int); (ob (Qk.l0 a0 a1 y1 (0 : Int) ([] : List Bool) ([] : List Bool) ([] : (List (ByteArray × Bool))) (List.replicate (Int.toNat ((List.length a0 : Nat) : Int)) false) (List.replicate (Int.toNat ((List.length a0 : Nat) : Int)) false) ([] : List (ByteArray × Bool))) fun r2 => (some r2.2.2.2)))))) (mix (.node .leaf .leaf) (ck (0 ≤ ((List.length a0 : Nat) : Int) ∧ ((List.length a0 : Nat) : Int) * (1 : Int) ≤ 140737488355328) (ck (0 ≤ ((List.length a0 : Nat) : Int) ∧ ((List.length a0 : Nat) : Int) * (1 : Int) ≤ 140737488355328) (let y1 : Int := ((List.length a1 : Nat) : Int); (ob (Qk.l0 a0 a1 y1 (0 : Int) ([] : List Bool) ([] : List Bool) ([] : (List (ByteArray × Bool))) (List.replicate (Int.toNat ((List.length a0 : Nat) : Int)) false) (List.replicate (Int.toNat ((List.length a0 : Nat) : Int)) false) ([] : List (ByteArray × Bool))) fun r2 => (some r2.2.2.2)))))))))))
noncomputable def Qk.fn : TFn := ⟨[(.slice (.pair .str (.pair .str (.pair .str (.pair .str (.pair (.int .i64) (.pair (.slice .str) .str))))))), (.slice (.pair (.int .i64) (.pair .str (.int .i64))))], [(.pair (.slice .bool) (.pair (.slice .bool) (.mp .bool)))], fun x => Qk.f x.1 x.2⟩
noncomputable def Qk.C : Cx := ⟨T, TYt, lkF [], lkO [], lkD [(6, 8, [(0, true), (1, true), (2, true), (3, true), (4, true), (5, true), (6, true), (7, true)], none), (8, 8, [(0, true), (1, true), (2, true), (3, true), (4, true), (5, true), (6, true), (7, true)], none)], lkP [(1, 9, (.take 0 (.take 1 (.take 3 (.take 4 (.alt 2 (.alt 5 (.alt 6 (.take 7 (.alt 8 .done .no)) (.alt 8 (.alt 6 (.take 7 (.swp 2 .done)) .no) .no)) (.alt 6 (.alt 5 (.take 7 (.alt 8 (.swp 3 .done) .no)) (.alt 8 (.alt 5 (.take 7 (.swp 2 (.swp 3 .done))) .no) .no)) (.alt 8 (.alt 5 (.alt 6 (.take 7 (.swp 3 (.swp 2 .done))) .no) (.alt 6 (.alt 5 (.take 7 (.swp 3 (.swp 2 (.swp 3 .done)))) .no) .no)) .no))) (.alt 5 (.alt 2 (.alt 6 (.take 7 (.alt 8 (.swp 4 .done) .no)) (.alt 8 (.alt 6 (.take 7 (.swp 4 (.swp 2 .done))) .no) .no)) (.alt 6 (.alt 2 (.take 7 (.alt 8 (.swp 3 (.swp 4 .done)) .no)) (.alt 8 (.alt 2 (.take 7 (.swp 2 (.swp 3 (.swp 4 .done)))) .no) .no)) (.alt 8 (.alt 2 (.alt 6 (.take 7 (.swp 3 (.swp 2 (.swp 4 .done)))) .no) (.alt 6 (.alt 2 (.take 7 (.swp 3 (.swp 2 (.swp 3 (.swp 4 .done))))) .no) .no)) .no))) (.alt 6 (.alt 2 (.alt 5 (.take 7 (.alt 8 (.swp 4 (.swp 3 .done)) .no)) (.alt 8 (.alt 5 (.take 7 (.swp 4 (.swp 2 (.swp 3 .done)))) .no) .no)) (.alt 5 (.alt 2 (.take 7 (.alt 8 (.swp 4 (.swp 3 (.swp 4 .done))) .no)) (.alt 8 (.alt 2 (.take 7 (.swp 4 (.swp 2 (.swp 3 (.swp 4 .done))))) .no) .no)) (.alt 8 (.alt 2 (.alt 5 (.take 7 (.swp 3 (.swp 2 (.swp 4 (.swp 3 .done))))) .no) (.alt 5 (.alt 2 (.take 7 (.swp 3 (.swp 2 (.swp 4 (.swp 3 (.swp 4 .done)))))) .no) .no)) .no))) (.alt 8 (.alt 2 (.alt 5 (.alt 6 (.take 7 (.swp 4 (.swp 3 (.swp 2 .done)))) .no) (.alt 6 (.alt 5 (.take 7 (.swp 4 (.swp 3 (.swp 2 (.swp 3 .done))))) .no) .no)) (.alt 5 (.alt 2 (.alt 6 (.take 7 (.swp 4 (.swp 3 (.swp 2 (.swp 4 .done))))) .no) (.alt 6 (.alt 2 (.take 7 (.swp 4 (.swp 3 (.swp 2 (.swp 3 (.swp 4 .done)))))) .no) .no)) (.alt 6 (.alt 2 (.alt 5 (.take 7 (.swp 4 (.swp 3 (.swp 2 (.swp 4 (.swp 3 .done)))))) .no) (.alt 5 (.alt 2 (.take 7 (.swp 4 (.swp 3 (.swp 2 (.swp 4 (.swp 3 (.swp 4 .done))))))) .no) .no)) .no))) .no)))))))))], [5, 7], [(103, 4)], false, [], [], lkS [], 51⟩
theorem Qk.hC : CxOK Tryz.prog Qk.C := ⟨tabOK, FsOK.nil, OsOK.nil, mixed, (fun t h => by cases h), (Zbg [(103, 4)] (by kernel_rfl)), SsOK.nil⟩
noncomputable def Qk.root : Code := Z6 Tryz.f95
theorem Qk.h0 : LsOK Tryz.prog Qk.C Qk.root (lkL [([0, 1, 0, 1, 1], Qk.e0)]) :=
 LsOK.cons Qk.hC (LsOK.nil) (by kernel_rfl) (fun iv x => by kernel_rfl)
theorem Qk.ok : FnOK Tryz.prog 95 Qk.fn := .qq Qk.root Qk.hC Tryz.func95 (lkL [([0, 1, 0, 1, 1], Qk.e0)]) [.cell 4 112] Qk.h0 fun x => by kernel_rfl
noncomputable def Qy.s0 (v0_6 : (List Bool)) (v0_7 : Int) (x0_8 : Int) (o0_0 : (List Int)) : Option ((Int × (List Int)) ⊕ (List Int)) :=
 (cb (decide (x0_8 < v0_7)) (ck (0 ≤ x0_8 ∧ x0_8 < ((List.length v0_6 : Nat) : Int)) (cb (rd false v0_6 x0_8) (ck ((List.length o0_0 + List.length ([x0_8] : List Int)) * 8 ≤ 140737488355328) (ck (InR (x0_8 + (1 : Int))) (some (.inl ((x0_8 + (1 : Int)), (o0_0 ++ ([x0_8] : List Int))))))) (ck (InR (x0_8 + (1 : Int))) (some (.inl ((x0_8 + (1 : Int)), o0_0)))))) (some (.inr o0_0)))
noncomputable def Qy.l0 (v0_6 : (List Bool)) (v0_7 : Int) (x0_8 : Int) (o0_0 : (List Int)) : Option (List Int) :=
 Zl (fun (x : (Int × (List Int))) => Qy.s0 v0_6 v0_7 x.1 x.2) (x0_8, o0_0)
noncomputable def Qy.e0 : Ent where
 pre := [.nil 3 3 (.int .i64)]
 inv := [(6, .val (.slice .bool)), (7, .val (.int .i64))]
 car := ⟨[(3, .own 0 1), (8, .val (.int .i64))], [.row 3 (.int .i64)]⟩
 exits := [(.exit 0, ⟨[(3, .own 0 1)], [.row 3 (.int .i64)]⟩)]
 step := fun iv x => Qy.s0 iv.1 iv.2 x.1 x.2
noncomputable def Qy.f (a0 : (List Bool)) : Option (List Int) :=
 (let y1 : Int := ((List.length a0 : Nat) : Int); (ob (Qy.l0 a0 y1 (0 : Int) ([] : List Int)) fun r2 => (some r2)))
noncomputable def Qy.fn : TFn := ⟨[(.slice .bool)], [(.slice (.int .i64))], fun x => Qy.f x⟩
noncomputable def Qy.C : Cx := cxC [] 20
theorem Qy.hC : CxOK Tryz.prog Qy.C := cxq FsOK.nil
noncomputable def Qy.root : Code := Z6 Tryz.f93
theorem Qy.h0 : LsOK Tryz.prog Qy.C Qy.root (lkL [([0, 1, 0, 1, 1], Qy.e0)]) :=
 LsOK.cons Qy.hC (LsOK.nil) (by kernel_rfl) (fun iv x => by kernel_rfl)
theorem Qy.ok : FnOK Tryz.prog 93 Qy.fn := .qq Qy.root Qy.hC Tryz.func93 (lkL [([0, 1, 0, 1, 1], Qy.e0)]) [.tmp 2] Qy.h0 fun x => by kernel_rfl
noncomputable def Qa.s0 (o0_0 : (List (ByteArray × Int))) (o0_1 : (List (ByteArray × Bool))) (e : Option (ByteArray × Bool)) : Option (((List (ByteArray × Int)) × (List (ByteArray × Bool))) ⊕ ((List (ByteArray × Int)) × (List (ByteArray × Bool)))) :=
 (match e with | none => (some (.inr (o0_0, o0_1))) | some e => (some (.inl ((mset e.1 (-1 : Int) o0_0), o0_1))))
noncomputable def Qa.l0 (es : List (ByteArray × Bool)) (o0_0 : (List (ByteArray × Int))) (o0_1 : (List (ByteArray × Bool))) : Option ((List (ByteArray × Int)) × (List (ByteArray × Bool))) :=
 Zef (fun (x : ((List (ByteArray × Int)) × (List (ByteArray × Bool)))) e => Qa.s0 x.1 x.2 e) es (o0_0, o0_1)
noncomputable def Qa.e0 : EntM where
 it := 14
 k := 2
 t := .bool
 pre := []
 inv := [(1, .val (.slice (.pair .str (.pair .str (.pair .str (.pair .str (.pair (.int .i64) (.pair (.slice .str) .str)))))))), (2, .rp (.pair (.slice .bool) (.pair (.slice .bool) (.mp .bool))))]
 car := ⟨[(5, .nm 0 []), (6, .nm 1 [])], [.mapo (.int .i64), .mapo .bool, .dead]⟩
 exits := [(.exit 0, ⟨[(5, .nm 0 []), (6, .nm 1 [])], [.mapo (.int .i64), .mapo .bool, .dead]⟩)]
 step := fun iv x e => Qa.s0 x.1 x.2 e
noncomputable def Qa.s1 (v1_2 : ((List Bool) × ((List Bool) × (List (ByteArray × Bool))))) (v1_21 : (List (ByteArray × (ByteArray × (ByteArray × (ByteArray × (Int × ((List ByteArray) × ByteArray)))))))) (v1_22 : Int) (x1_23 : Int) (o1_0 : (List (ByteArray × Int))) (o1_1 : (List (ByteArray × Bool))) : Option ((Int × ((List (ByteArray × Int)) × (List (ByteArray × Bool)))) ⊕ ((List (ByteArray × Int)) × (List (ByteArray × Bool)))) :=
 (cb (decide (x1_23 < v1_22)) (ck (0 ≤ x1_23 ∧ x1_23 < ((List.length v1_21 : Nat) : Int)) (let y4 : (ByteArray × (ByteArray × (ByteArray × (ByteArray × (Int × ((List ByteArray) × ByteArray)))))) := (rd (ByteArray.empty, (ByteArray.empty, (ByteArray.empty, (ByteArray.empty, ((0 : Int), (([] : (List ByteArray)), ByteArray.empty)))))) v1_21 x1_23); (ck (0 ≤ x1_23 ∧ x1_23 < ((List.length v1_2.2.1 : Nat) : Int)) (cb (rd false v1_2.2.1 x1_23) (ck (InR (x1_23 + (1 : Int))) (some (.inl ((x1_23 + (1 : Int)), o1_0, (mset y4.2.2.2.1 true o1_1))))) (ck (0 ≤ x1_23 ∧ x1_23 < ((List.length v1_2.1 : Nat) : Int)) (cb (rd false v1_2.1 x1_23) (cb (Option.getD (mget y4.2.2.2.1 v1_2.2.2) false) (cb (!(Option.getD (mget y4.2.2.2.1 o1_1) false)) (ck (InR (x1_23 + (1 : Int))) (some (.inl ((x1_23 + (1 : Int)), (mset y4.2.2.2.1 x1_23 o1_0), o1_1)))) (ck (InR (x1_23 + (1 : Int))) (some (.inl ((x1_23 + (1 : Int)), o1_0, o1_1))))) (ck (InR (x1_23 + (1 : Int))) (some (.inl ((x1_23 + (1 : Int)), o1_0, o1_1))))) (ck (InR (x1_23 + (1 : Int))) (some (.inl ((x1_23 + (1 : Int)), o1_0, o1_1)))))))))) (some (.inr (o1_0, o1_1))))
noncomputable def Qa.l1 (v1_2 : ((List Bool) × ((List Bool) × (List (ByteArray × Bool))))) (v1_21 : (List (ByteArray × (ByteArray × (ByteArray × (ByteArray × (Int × ((List ByteArray) × ByteArray)))))))) (v1_22 : Int) (x1_23 : Int) (o1_0 : (List (ByteArray × Int))) (o1_1 : (List (ByteArray × Bool))) : Option ((List (ByteArray × Int)) × (List (ByteArray × Bool))) :=
 Zl (fun (x : (Int × ((List (ByteArray × Int)) × (List (ByteArray × Bool))))) => Qa.s1 v1_2 v1_21 v1_22 x.1 x.2.1 x.2.2) (x1_23, o1_0, o1_1)
noncomputable def Qa.e1 : Ent where
 pre := []
 inv := [(2, .rp (.pair (.slice .bool) (.pair (.slice .bool) (.mp .bool)))), (21, .val (.slice (.pair .str (.pair .str (.pair .str (.pair .str (.pair (.int .i64) (.pair (.slice .str) .str)))))))), (22, .val (.int .i64))]
 car := ⟨[(5, .nm 0 []), (6, .nm 1 []), (23, .val (.int .i64))], [.mapo (.int .i64), .mapo .bool, .dead]⟩
 exits := [(.exit 2, ⟨[(5, .nm 0 [])], [.mapo (.int .i64), .mapo .bool, .dead]⟩)]
 step := fun iv x => Qa.s1 iv.1 iv.2.1 iv.2.2 x.1 x.2.1 x.2.2
noncomputable def Qa.f (a0 : ((List Bool) × ((List Bool) × (List (ByteArray × Bool))))) (a1 : (List (ByteArray × (ByteArray × (ByteArray × (ByteArray × (Int × ((List ByteArray) × ByteArray)))))))) : Option (List (ByteArray × Int)) :=
 (ob (Qa.l0 a0.2.2 ([] : List (ByteArray × Int)) ([] : List (ByteArray × Bool))) fun r1 => (let y2 : Int := ((List.length a1 : Nat) : Int); (ob (Qa.l1 a0 a1 y2 (0 : Int) r1.1 r1.2) fun r5 => (some r5.1))))
noncomputable def Qa.fn : TFn := ⟨[(.pair (.slice .bool) (.pair (.slice .bool) (.mp .bool))), (.slice (.pair .str (.pair .str (.pair .str (.pair .str (.pair (.int .i64) (.pair (.slice .str) .str)))))))], [(.mp (.int .i64))], fun x => Qa.f x.1 x.2⟩
noncomputable def Qa.C : Cx := ⟨T, TYt, lkF [], lkO [], lkD [], lkP [], [2, 9], [(103, 4), (162, 3)], false, [], [], lkS [], 63⟩
theorem Qa.hC : CxOK Tryz.prog Qa.C := ⟨tabOK, FsOK.nil, OsOK.nil, mixed, (fun t h => by cases h), (Zbg [(103, 4), (162, 3)] (by kernel_rfl)), SsOK.nil⟩
noncomputable def Qa.root : Code := Z6 Tryz.f139
theorem Qa.h0 : LsOK Tryz.prog Qa.C Qa.root (lkL [([0, 1, 0, 1, 1], Qa.e0)]) :=
 LsOK.consM Qa.hC (LsOK.nil) (by kernel_rfl) (fun g iv x e => by cases e <;> kernel_rfl)
theorem Qa.h1 : LsOK Tryz.prog Qa.C Qa.root (lkL [([0, 1, 0, 1, 1, 1], Qa.e1), ([0, 1, 0, 1, 1], Qa.e0)]) :=
 LsOK.cons Qa.hC (Qa.h0) (by kernel_rfl) (fun iv x => by kernel_rfl)
theorem Qa.ok : FnOK Tryz.prog 139 Qa.fn := .qq Qa.root Qa.hC Tryz.func139 (lkL [([0, 1, 0, 1, 1, 1], Qa.e1), ([0, 1, 0, 1, 1], Qa.e0)]) [.tmp 4] Qa.h1 fun x => by kernel_rfl
noncomputable def Q21.f (a0 : ByteArray) (a1 : (List (ByteArray × Bool))) (a2 : (List (ByteArray × Bool))) : Option Bool :=
 (cb (Option.getD (mget a0 a1) false) (some (!(Option.getD (mget a0 a2) false))) (some false))
noncomputable def Q21.fn : TFn := ⟨[.str, (.ref (.mp .bool)), (.ref (.mp .bool))], [.bool], fun x => Q21.f x.1 x.2.1 x.2.2⟩
noncomputable def Q21.C : Cx := ⟨T, TYt, lkF [], lkO [], lkD [], lkP [], [], [(103, 4)], false, [], [], lkS [], 14⟩
theorem Q21.hC : CxOK Tryz.prog Q21.C := ⟨tabOK, FsOK.nil, OsOK.nil, mixed, (fun t h => by cases h), (Zbg [(103, 4)] (by kernel_rfl)), SsOK.nil⟩
noncomputable def Q21.root : Code := Z6 Tryz.f140
theorem Q21.ok : FnOK Tryz.prog 140 Q21.fn := .qq Q21.root Q21.hC Tryz.func140 (lkL []) [.tmp 4] LsOK.nil fun x => by kernel_rfl
noncomputable def Q4.s0 (v0_0 : (List ByteArray)) (v0_1 : ((List (ByteArray × Bool)) × (List (ByteArray × Bool)))) (v0_7 : Int) (x0_8 : Int) : Option (Int ⊕ (Int ⊕ Unit)) :=
 (cb (decide (x0_8 < v0_7)) (ck (0 ≤ x0_8 ∧ x0_8 < ((List.length v0_0 : Nat) : Int)) (let y4 : ByteArray := (rd ByteArray.empty v0_0 x0_8); (ob (Q21.f y4 v0_1.1 v0_1.2) fun r5 => (cb r5 (some (.inr (.inl x0_8))) (ck (InR (x0_8 + (1 : Int))) (some (.inl (x0_8 + (1 : Int))))))))) (some (.inr (.inr ()))))
noncomputable def Q4.l0 (v0_0 : (List ByteArray)) (v0_1 : ((List (ByteArray × Bool)) × (List (ByteArray × Bool)))) (v0_7 : Int) (x0_8 : Int) : Option (Int ⊕ Unit) :=
 Zl (fun (x : Int) => Q4.s0 v0_0 v0_1 v0_7 x) x0_8
noncomputable def Q4.e0 : Ent where
 pre := []
 inv := [(0, .val (.slice .str)), (1, .val (.clo 140 (.pair (.ref (.mp .bool)) (.ref (.mp .bool))))), (7, .val (.int .i64))]
 car := ⟨[(8, .val (.int .i64))], []⟩
 exits := [(.ret, ⟨[(4, .val (.int .i64))], []⟩), (.exit 0, ⟨[], []⟩)]
 step := fun iv x => Q4.s0 iv.1 iv.2.1 iv.2.2 x
noncomputable def Q4.f (a0 : (List ByteArray)) (a1 : ((List (ByteArray × Bool)) × (List (ByteArray × Bool)))) : Option Int :=
 (let y1 : Int := ((List.length a0 : Nat) : Int); (ob (Q4.l0 a0 a1 y1 (0 : Int)) fun r6 => (Z22 r6 (fun a7 => (some a7)) (fun b8 => (some (-1 : Int))))))
noncomputable def Q4.fn : TFn := ⟨[(.slice .str), (.clo 140 (.pair (.ref (.mp .bool)) (.ref (.mp .bool))))], [(.int .i64)], fun x => Q4.f x.1 x.2⟩
noncomputable def Q4.C : Cx := cxC [((140, [0]), Q21.fn)] 19
theorem Q4.hC : CxOK Tryz.prog Q4.C := cxq (FsOK.cons Q21.ok (FsOK.nil))
noncomputable def Q4.root : Code := Z6 Tryz.f182
theorem Q4.h0 : LsOK Tryz.prog Q4.C Q4.root (lkL [([0, 1, 0, 1], Q4.e0)]) :=
 LsOK.cons Q4.hC (LsOK.nil) (by kernel_rfl) (fun iv x => by kernel_rfl)
theorem Q4.ok : FnOK Tryz.prog 182 Q4.fn := .qq Q4.root Q4.hC Tryz.func182 (lkL [([0, 1, 0, 1], Q4.e0)]) [.tmp 4] Q4.h0 fun x => by kernel_rfl
noncomputable def Qf.f (a0 : (List ByteArray)) (a1 : ((List (ByteArray × Bool)) × (List (ByteArray × Bool)))) : Option Bool :=
 (ob (Q4.f a0 a1) fun r1 => (some (decide ((0 : Int) ≤ r1))))
noncomputable def Qf.fn : TFn := ⟨[(.slice .str), (.clo 140 (.pair (.ref (.mp .bool)) (.ref (.mp .bool))))], [.bool], fun x => Qf.f x.1 x.2⟩
noncomputable def Qf.C : Cx := cxC [((182, [0, 142]), Q4.fn)] 9
theorem Qf.hC : CxOK Tryz.prog Qf.C := cxq (FsOK.cons Q4.ok (FsOK.nil))
noncomputable def Qf.root : Code := Z6 Tryz.f128
theorem Qf.ok : FnOK Tryz.prog 128 Qf.fn := .qq Qf.root Qf.hC Tryz.func128 (lkL []) [.tmp 4] LsOK.nil fun x => by kernel_rfl
noncomputable def Qz.s0 (v0_5 : ((List Bool) × ((List Bool) × (List (ByteArray × Bool))))) (v0_6 : (List (ByteArray × Int))) (v0_25 : (List (ByteArray × (ByteArray × (ByteArray × (ByteArray × (Int × ((List ByteArray) × ByteArray)))))))) (v0_26 : Int) (x0_27 : Int) (o0_1 : (List Bool)) (o0_2 : (List (ByteArray × Bool))) (o0_3 : (List (ByteArray × Bool))) : Option ((Int × ((List Bool) × ((List (ByteArray × Bool)) × (List (ByteArray × Bool))))) ⊕ ((List Bool) × ((List (ByteArray × Bool)) × (List (ByteArray × Bool))))) :=
 (cb (decide (x0_27 < v0_26)) (ck (0 ≤ x0_27 ∧ x0_27 < ((List.length v0_25 : Nat) : Int)) (let y10 : (ByteArray × (ByteArray × (ByteArray × (ByteArray × (Int × ((List ByteArray) × ByteArray)))))) := (rd (ByteArray.empty, (ByteArray.empty, (ByteArray.empty, (ByteArray.empty, ((0 : Int), (([] : (List ByteArray)), ByteArray.empty)))))) v0_25 x0_27); (let y11 : Int := (Option.getD (mget y10.2.2.2.1 v0_6) (0 : Int)); (ck (0 ≤ x0_27 ∧ x0_27 < ((List.length v0_5.2.1 : Nat) : Int)) (cb (rd false v0_5.2.1 x0_27) (ck (0 ≤ x0_27 ∧ x0_27 < ((List.length o0_1 : Nat) : Int)) (ck ((Int.toNat x0_27) < List.length o0_1) (ck (0 ≤ x0_27 ∧ x0_27 < ((List.length (List.set o0_1 (Int.toNat x0_27) true) : Nat) : Int)) (ck ((Int.toNat x0_27) < List.length (List.set o0_1 (Int.toNat x0_27) true)) (cb (List.getD (List.set o0_1 (Int.toNat x0_27) true) (Int.toNat x0_27) false) (ck (InR (x0_27 + (1 : Int))) (some (.inl ((x0_27 + (1 : Int)), (List.set o0_1 (Int.toNat x0_27) true), (mset y10.2.2.1 true o0_2), o0_3)))) (ck (InR (x0_27 + (1 : Int))) (some (.inl ((x0_27 + (1 : Int)), (List.set o0_1 (Int.toNat x0_27) true), o0_2, (mset y10.2.2.1 true o0_3)))))))))) (cb (Option.isSome (mget y10.2.2.2.1 v0_6)) (ck (0 ≤ x0_27 ∧ x0_27 < ((List.length v0_5.1 : Nat) : Int)) (cb (!(rd false v0_5.1 x0_27)) (cb (decide (y11 < x0_27)) (ck (0 ≤ x0_27 ∧ x0_27 < ((List.length o0_1 : Nat) : Int)) (ck ((Int.toNat x0_27) < List.length o0_1) (ck (0 ≤ x0_27 ∧ x0_27 < ((List.length (List.set o0_1 (Int.toNat x0_27) true) : Nat) : Int)) (ck ((Int.toNat x0_27) < List.length (List.set o0_1 (Int.toNat x0_27) true)) (cb (List.getD (List.set o0_1 (Int.toNat x0_27) true) (Int.toNat x0_27) false) (ck (InR (x0_27 + (1 : Int))) (some (.inl ((x0_27 + (1 : Int)), (List.set o0_1 (Int.toNat x0_27) true), (mset y10.2.2.1 true o0_2), o0_3)))) (ck (InR (x0_27 + (1 : Int))) (some (.inl ((x0_27 + (1 : Int)), (List.set o0_1 (Int.toNat x0_27) true), o0_2, (mset y10.2.2.1 true o0_3)))))))))) (ob (Qf.f y10.2.2.2.2.2.1 (o0_2, o0_3)) fun r12 => (ck (0 ≤ x0_27 ∧ x0_27 < ((List.length o0_1 : Nat) : Int)) (ck ((Int.toNat x0_27) < List.length o0_1) (ck (0 ≤ x0_27 ∧ x0_27 < ((List.length (List.set o0_1 (Int.toNat x0_27) r12) : Nat) : Int)) (ck ((Int.toNat x0_27) < List.length (List.set o0_1 (Int.toNat x0_27) r12)) (cb (List.getD (List.set o0_1 (Int.toNat x0_27) r12) (Int.toNat x0_27) false) (ck (InR (x0_27 + (1 : Int))) (some (.inl ((x0_27 + (1 : Int)), (List.set o0_1 (Int.toNat x0_27) r12), (mset y10.2.2.1 true o0_2), o0_3)))) (ck (InR (x0_27 + (1 : Int))) (some (.inl ((x0_27 + (1 : Int)), (List.set o0_1 (Int.toNat x0_27) r12), o0_2, (mset y10.2.2.1 true o0_3)))))))))))) (ob (Qf.f y10.2.2.2.2.2.1 (o0_2, o0_3)) fun r13 => (ck (0 ≤ x0_27 ∧ x0_27 < ((List.length o0_1 : Nat) : Int)) (ck ((Int.toNat x0_27) < List.length o0_1) (ck (0 ≤ x0_27 ∧ x0_27 < ((List.length (List.set o0_1 (Int.toNat x0_27) r13) : Nat) : Int)) (ck ((Int.toNat x0_27) < List.length (List.set o0_1 (Int.toNat x0_27) r13)) (cb (List.getD (List.set o0_1 (Int.toNat x0_27) r13) (Int.toNat x0_27) false) (ck (InR (x0_27 + (1 : Int))) (some (.inl ((x0_27 + (1 : Int)), (List.set o0_1 (Int.toNat x0_27) r13), (mset y10.2.2.1 true o0_2), o0_3)))) (ck (InR (x0_27 + (1 : Int))) (some (.inl ((x0_27 + (1 : Int)), (List.set o0_1 (Int.toNat x0_27) r13), o0_2, (mset y10.2.2.1 true o0_3))))))))))))) (ob (Qf.f y10.2.2.2.2.2.1 (o0_2, o0_3)) fun r14 => (ck (0 ≤ x0_27 ∧ x0_27 < ((List.length o0_1 : Nat) : Int)) (ck ((Int.toNat x0_27) < List.length o0_1) (ck (0 ≤ x0_27 ∧ x0_27 < ((List.length (List.set o0_1 (Int.toNat x0_27) r14) : Nat) : Int)) (ck ((Int.toNat x0_27) < List.length (List.set o0_1 (Int.toNat x0_27) r14)) (cb (List.getD (List.set o0_1 (Int.toNat x0_27) r14) (Int.toNat x0_27) false) (ck (InR (x0_27 + (1 : Int))) (some (.inl ((x0_27 + (1 : Int)), (List.set o0_1 (Int.toNat x0_27) r14), (mset y10.2.2.1 true o0_2), o0_3)))) (ck (InR (x0_27 + (1 : Int))) (some (.inl ((x0_27 + (1 : Int)), (List.set o0_1 (Int.toNat x0_27) r14), o0_2, (mset y10.2.2.1 true o0_3))))))))))))))))) (some (.inr (o0_1, o0_2, o0_3))))
noncomputable def Qz.l0 (v0_5 : ((List Bool) × ((List Bool) × (List (ByteArray × Bool))))) (v0_6 : (List (ByteArray × Int))) (v0_25 : (List (ByteArray × (ByteArray × (ByteArray × (ByteArray × (Int × ((List ByteArray) × ByteArray)))))))) (v0_26 : Int) (x0_27 : Int) (o0_1 : (List Bool)) (o0_2 : (List (ByteArray × Bool))) (o0_3 : (List (ByteArray × Bool))) : Option ((List Bool) × ((List (ByteArray × Bool)) × (List (ByteArray × Bool)))) :=
 Zl (fun (x : (Int × ((List Bool) × ((List (ByteArray × Bool)) × (List (ByteArray × Bool)))))) => Qz.s0 v0_5 v0_6 v0_25 v0_26 x.1 x.2.1 x.2.2.1 x.2.2.2) (x0_27, o0_1, o0_2, o0_3)
noncomputable def Qz.e0 : Ent where
 pre := []
 inv := [(5, .rp (.pair (.slice .bool) (.pair (.slice .bool) (.mp .bool)))), (6, .val (.mp (.int .i64))), (25, .val (.slice (.pair .str (.pair .str (.pair .str (.pair .str (.pair (.int .i64) (.pair (.slice .str) .str)))))))), (26, .val (.int .i64))]
 car := ⟨[(7, .own 1 1), (8, .ptr 4 1), (9, .ptr 5 1), (27, .val (.int .i64))], [.dead, .row 4 .bool, .mapo .bool, .mapo .bool, .box 103 [.nm 2 []], .box 103 [.nm 3 []]]⟩
 exits := [(.exit 0, ⟨[(7, .own 1 1)], [.dead, .row 4 .bool, .mapo .bool, .mapo .bool, .box 103 [.nm 2 []], .box 103 [.nm 3 []]]⟩)]
 step := fun iv x => Qz.s0 iv.1 iv.2.1 iv.2.2.1 iv.2.2.2 x.1 x.2.1 x.2.2.1 x.2.2.2
noncomputable def Qz.f (a0 : (List (ByteArray × (ByteArray × (ByteArray × (ByteArray × (Int × ((List ByteArray) × ByteArray)))))))) (a1 : (List (Int × (ByteArray × Int)))) : Option (List Bool) :=
 (ob (Qk.f a0 a1) fun r1 => (ob (Qa.f r1 a0) fun r2 => (let y3 : Int := ((List.length a0 : Nat) : Int); (ck (0 ≤ y3 ∧ y3 * (1 : Int) ≤ 140737488355328) (let y4 : Int := ((List.length a0 : Nat) : Int); (ob (Qz.l0 r1 r2 a0 y4 (0 : Int) (List.replicate (Int.toNat y3) false) ([] : List (ByteArray × Bool)) ([] : List (ByteArray × Bool))) fun r15 => (some r15.1)))))))
noncomputable def Qz.fn : TFn := ⟨[(.slice (.pair .str (.pair .str (.pair .str (.pair .str (.pair (.int .i64) (.pair (.slice .str) .str))))))), (.slice (.pair (.int .i64) (.pair .str (.int .i64))))], [(.slice .bool)], fun x => Qz.f x.1 x.2⟩
noncomputable def Qz.C : Cx := ⟨T, TYt, lkF [((95, [0, 0]), Qk.fn), ((128, [0, 142]), Qf.fn), ((139, [0, 0]), Qa.fn)], lkO [], lkD [], lkP [], [5, 11], [(103, 4), (162, 3)], false, [], [], lkS [], 81⟩
theorem Qz.hC : CxOK Tryz.prog Qz.C := ⟨tabOK, FsOK.cons Qk.ok (FsOK.cons Qf.ok (FsOK.cons Qa.ok (FsOK.nil))), OsOK.nil, mixed, (fun t h => by cases h), (Zbg [(103, 4), (162, 3)] (by kernel_rfl)), SsOK.nil⟩
noncomputable def Qz.root : Code := Z6 Tryz.f91
theorem Qz.h0 : LsOK Tryz.prog Qz.C Qz.root (lkL [([0, 1, 0, 1, 1, 1, 1, 1], Qz.e0)]) :=
 LsOK.cons Qz.hC (LsOK.nil) (by kernel_rfl) (fun iv x => by kernel_rfl)
theorem Qz.ok : FnOK Tryz.prog 91 Qz.fn := .qq Qz.root Qz.hC Tryz.func91 (lkL [([0, 1, 0, 1, 1, 1, 1, 1], Qz.e0)]) [.tmp 4] Qz.h0 fun x => by kernel_rfl
noncomputable def Q23.f (a0 : (List (ByteArray × (ByteArray × (ByteArray × (ByteArray × (Int × ((List ByteArray) × ByteArray)))))))) (a1 : (List (Int × (ByteArray × Int)))) : Option ((List Int) × Int) :=
 (ob (Qe.f a0 a1) fun r1 => (cb (!decide (r1 = (0 : Int))) (some (([] : List Int), r1)) (ob (Qz.f a0 a1) fun r2 => (ob (Qy.f r2) fun r3 => (some (r3, (0 : Int)))))))
noncomputable def Q23.fn : TFn := ⟨[(.slice (.pair .str (.pair .str (.pair .str (.pair .str (.pair (.int .i64) (.pair (.slice .str) .str))))))), (.slice (.pair (.int .i64) (.pair .str (.int .i64))))], [(.slice (.int .i64)), (.int .i64)], fun x => Q23.f x.1 x.2⟩
noncomputable def Q23.C : Cx := cxC [((65, [0, 0]), Qe.fn), ((91, [0, 0]), Qz.fn), ((93, [0]), Qy.fn)] 17
theorem Q23.hC : CxOK Tryz.prog Q23.C := cxq (FsOK.cons Qe.ok (FsOK.cons Qz.ok (FsOK.cons Qy.ok (FsOK.nil))))
noncomputable def Q23.root : Code := Z6 Tryz.f42
theorem Q23.ok : FnOK Tryz.prog 42 Q23.fn := .qq Q23.root Q23.hC Tryz.func42 (lkL []) [.tmp 4, .tmp 5] LsOK.nil fun x => by kernel_rfl
noncomputable def Q1w.f (a0 : (List (ByteArray × (ByteArray × (ByteArray × (ByteArray × (Int × ((List ByteArray) × ByteArray)))))))) (a1 : (List (Int × (ByteArray × Int)))) : Option ((List ByteArray) × Int) :=
 (ob (Qe.f a0 a1) fun r1 => (cb (!decide (r1 = (0 : Int))) (some (([] : List ByteArray), r1)) (ob (Qk.f a0 a1) fun r2 => (ob (Q1l.f r2.2.2) fun r3 => (ob (Q28.f r3) fun r4 => (some (r4, (0 : Int))))))))
noncomputable def Q1w.fn : TFn := ⟨[(.slice (.pair .str (.pair .str (.pair .str (.pair .str (.pair (.int .i64) (.pair (.slice .str) .str))))))), (.slice (.pair (.int .i64) (.pair .str (.int .i64))))], [(.slice .str), (.int .i64)], fun x => Q1w.f x.1 x.2⟩
noncomputable def Q1w.C : Cx := cxC [((65, [0, 0]), Qe.fn), ((95, [0, 0]), Qk.fn), ((97, [146]), Q28.fn), ((98, [0]), Q1l.fn)] 19
theorem Q1w.hC : CxOK Tryz.prog Q1w.C := cxq (FsOK.cons Qe.ok (FsOK.cons Qk.ok (FsOK.cons Q28.ok (FsOK.cons Q1l.ok (FsOK.nil)))))
noncomputable def Q1w.root : Code := Z6 Tryz.f46
theorem Q1w.ok : FnOK Tryz.prog 46 Q1w.fn := .qq Q1w.root Q1w.hC Tryz.func46 (lkL []) [.tmp 4, .tmp 5] LsOK.nil fun x => by kernel_rfl
noncomputable def Q1z.f (a0 : ByteArray) : Option Bool :=
 (ob (Q2b.f a0 ()) fun r1 => (some (!r1)))
noncomputable def Q1z.fn : TFn := ⟨[.str], [.bool], fun x => Q1z.f x⟩
noncomputable def Q1z.C : Cx := cxC [((185, [0, 188]), Q2b.fn)] 6
theorem Q1z.hC : CxOK Tryz.prog Q1z.C := cxq (FsOK.cons Q2b.ok (FsOK.nil))
noncomputable def Q1z.root : Code := Z6 Tryz.f133
theorem Q1z.ok : FnOK Tryz.prog 133 Q1z.fn := .qq Q1z.root Q1z.hC Tryz.func133 (lkL []) [.tmp 2] LsOK.nil fun x => by kernel_rfl
noncomputable def Q25.f (a0 : ByteArray) : Option Bool :=
 (let y1 : Int := ((ByteArray.size a0 : Nat) : Int); (cb (decide ((1 : Int) ≤ y1)) (let y2 : Int := ((ByteArray.size a0 : Nat) : Int); (cb (decide (y2 ≤ (100 : Int))) (ob (Q1z.f a0) fun r3 => (some r3)) (some false))) (some false)))
noncomputable def Q25.fn : TFn := ⟨[.str], [.bool], fun x => Q25.f x⟩
noncomputable def Q25.C : Cx := cxC [((133, [0]), Q1z.fn)] 15
theorem Q25.hC : CxOK Tryz.prog Q25.C := cxq (FsOK.cons Q1z.ok (FsOK.nil))
noncomputable def Q25.root : Code := Z6 Tryz.f83
theorem Q25.ok : FnOK Tryz.prog 83 Q25.fn := .qq Q25.root Q25.hC Tryz.func83 (lkL []) [.tmp 2] LsOK.nil fun x => by kernel_rfl
noncomputable def Q1i.f (a0 : ByteArray) (a1 : ByteArray) : Option Bool :=
 (ob (Qn.f a0 a1) fun r1 => (some r1))
noncomputable def Q1i.fn : TFn := ⟨[.str, .str], [.bool], fun x => Q1i.f x.1 x.2⟩
noncomputable def Q1i.C : Cx := cxC [((183, [0, 0]), Qn.fn)] 8
theorem Q1i.hC : CxOK Tryz.prog Q1i.C := cxq (FsOK.cons Qn.ok (FsOK.nil))
noncomputable def Q1i.root : Code := Z6 Tryz.f130
theorem Q1i.ok : FnOK Tryz.prog 130 Q1i.fn := .qq Q1i.root Q1i.hC Tryz.func130 (lkL []) [.tmp 4] LsOK.nil fun x => by kernel_rfl
noncomputable def Qq.s0 (v0_1 : (ByteArray × (ByteArray × ((List ByteArray) × (Int × Int))))) (v0_21 : (List ByteArray)) (v0_22 : Int) (x0_23 : Int) : Option (Int ⊕ (Int ⊕ Unit)) :=
 (cb (decide (x0_23 < v0_22)) (ck (0 ≤ x0_23 ∧ x0_23 < ((List.length v0_21 : Nat) : Int)) (let y10 : ByteArray := (rd ByteArray.empty v0_21 x0_23); (ob (Q1i.f y10 Q1g) fun r11 => (cb (!r11) (some (.inr (.inl (3 : Int)))) (let y12 : Int := ((ByteArray.size y10 : Nat) : Int); (cb (decide ((1000 : Int) < y12)) (some (.inr (.inl (3 : Int)))) (ob (Q1z.f y10) fun r13 => (cb (!r13) (some (.inr (.inl (3 : Int)))) (cb (decide ((0 : Int) < x0_23)) (ck (InR (x0_23 - (1 : Int))) (ck (0 ≤ (x0_23 - (1 : Int)) ∧ (x0_23 - (1 : Int)) < ((List.length v0_1.2.2.1 : Nat) : Int)) (let y14 : ByteArray := (rd ByteArray.empty v0_1.2.2.1 (x0_23 - (1 : Int))); (cb (Za8 y10 y14 || decide (y10 = y14)) (some (.inr (.inl (8 : Int)))) (ck (InR (x0_23 + (1 : Int))) (some (.inl (x0_23 + (1 : Int))))))))) (ck (InR (x0_23 + (1 : Int))) (some (.inl (x0_23 + (1 : Int)))))))))))))) (some (.inr (.inr ()))))
noncomputable def Qq.l0 (v0_1 : (ByteArray × (ByteArray × ((List ByteArray) × (Int × Int))))) (v0_21 : (List ByteArray)) (v0_22 : Int) (x0_23 : Int) : Option (Int ⊕ Unit) :=
 Zl (fun (x : Int) => Qq.s0 v0_1 v0_21 v0_22 x) x0_23
noncomputable def Qq.e0 : Ent where
 pre := []
 inv := [(1, .rp (.pair .str (.pair .str (.pair (.slice .str) (.pair (.int .i64) (.int .i64)))))), (21, .val (.slice .str)), (22, .val (.int .i64))]
 car := ⟨[(23, .val (.int .i64))], []⟩
 exits := [(.ret, ⟨[(2, .val (.int .i64))], []⟩), (.exit 1, ⟨[], []⟩)]
 step := fun iv x => Qq.s0 iv.1 iv.2.1 iv.2.2 x
noncomputable def Qq.f (a0 : (ByteArray × (ByteArray × ((List ByteArray) × (Int × Int))))) : Option Int :=
 (ob (Q1r.f a0.1) fun r1 => (cb (!r1) (some (5 : Int)) (ob (Q25.f a0.2.1) fun r2 => (cb (!r2) (some (3 : Int)) (let y3 : Int := ((List.length a0.2.2.1 : Nat) : Int); (cb (decide ((30 : Int) < y3)) (some (2 : Int)) (let y4 : Int := ((List.length a0.2.2.1 : Nat) : Int); (ob (Qq.l0 a0 a0.2.2.1 y4 (0 : Int)) fun r15 => (Z22 r15 (fun a16 => (some a16)) (fun b17 => (ob (Q1k.f a0.2.2.2.1 (0 : Int) (1000000000 : Int)) fun r18 => (cb (!r18) (some (1 : Int)) (ob (Q1k.f a0.2.2.2.2 (0 : Int) (1000000001 : Int)) fun r19 => (cb (!r19) (some (1 : Int)) (cb (decide (a0.2.2.2.2 ≤ a0.2.2.2.1)) (some (8 : Int)) (some (0 : Int)))))))))))))))))
noncomputable def Qq.fn : TFn := ⟨[(.pair .str (.pair .str (.pair (.slice .str) (.pair (.int .i64) (.int .i64)))))], [(.int .i64)], fun x => Qq.f x⟩
noncomputable def Qq.C : Cx := ⟨T, TYt, lkF [((70, [0, 0, 0]), Q1k.fn), ((76, [0]), Q1r.fn), ((83, [0]), Q25.fn), ((130, [0, 0]), Q1i.fn), ((133, [0]), Q1z.fn)], lkO [], lkD [], lkP [], [1], [], false, [], [], lkS [], 69⟩
theorem Qq.hC : CxOK Tryz.prog Qq.C := cxq (FsOK.cons Q1k.ok (FsOK.cons Q1r.ok (FsOK.cons Q25.ok (FsOK.cons Q1i.ok (FsOK.cons Q1z.ok (FsOK.nil))))))
noncomputable def Qq.root : Code := Z6 Tryz.f125
theorem Qq.h0 : LsOK Tryz.prog Qq.C Qq.root (lkL [([0, 1, 0, 1, 1], Qq.e0)]) :=
 LsOK.cons Qq.hC (LsOK.nil) (by kernel_rfl) (fun iv x => by kernel_rfl)
theorem Qq.ok : FnOK Tryz.prog 125 Qq.fn := .qq Qq.root Qq.hC Tryz.func125 (lkL [([0, 1, 0, 1, 1], Qq.e0)]) [.tmp 2] Qq.h0 fun x => by kernel_rfl
noncomputable def Qh.s0 (v0_0 : (List (ByteArray × (ByteArray × ((List ByteArray) × (Int × Int)))))) (v0_9 : (List (ByteArray × (ByteArray × ((List ByteArray) × (Int × Int)))))) (v0_10 : Int) (x0_11 : Int) : Option (Int ⊕ (Int ⊕ Unit)) :=
 (cb (decide (x0_11 < v0_10)) (ck (0 ≤ x0_11 ∧ x0_11 < ((List.length v0_9 : Nat) : Int)) (let y6 : (ByteArray × (ByteArray × ((List ByteArray) × (Int × Int)))) := (rd (ByteArray.empty, (ByteArray.empty, (([] : (List ByteArray)), ((0 : Int), (0 : Int))))) v0_9 x0_11); (ob (Qq.f y6) fun r7 => (cb (!decide (r7 = (0 : Int))) (some (.inr (.inl r7))) (cb (decide ((0 : Int) < x0_11)) (ck (InR (x0_11 - (1 : Int))) (ck (0 ≤ (x0_11 - (1 : Int)) ∧ (x0_11 - (1 : Int)) < ((List.length v0_0 : Nat) : Int)) (let y8 : ByteArray := (rd (ByteArray.empty, (ByteArray.empty, (([] : (List ByteArray)), ((0 : Int), (0 : Int))))) v0_0 (x0_11 - (1 : Int))).1; (cb (Za8 y6.1 y8 || decide (y6.1 = y8)) (some (.inr (.inl (8 : Int)))) (ck (InR (x0_11 + (1 : Int))) (some (.inl (x0_11 + (1 : Int))))))))) (ck (InR (x0_11 + (1 : Int))) (some (.inl (x0_11 + (1 : Int)))))))))) (some (.inr (.inr ()))))
noncomputable def Qh.l0 (v0_0 : (List (ByteArray × (ByteArray × ((List ByteArray) × (Int × Int)))))) (v0_9 : (List (ByteArray × (ByteArray × ((List ByteArray) × (Int × Int)))))) (v0_10 : Int) (x0_11 : Int) : Option (Int ⊕ Unit) :=
 Zl (fun (x : Int) => Qh.s0 v0_0 v0_9 v0_10 x) x0_11
noncomputable def Qh.e0 : Ent where
 pre := []
 inv := [(0, .val (.slice (.pair .str (.pair .str (.pair (.slice .str) (.pair (.int .i64) (.int .i64))))))), (9, .val (.slice (.pair .str (.pair .str (.pair (.slice .str) (.pair (.int .i64) (.int .i64))))))), (10, .val (.int .i64))]
 car := ⟨[(11, .val (.int .i64))], []⟩
 exits := [(.ret, ⟨[(2, .val (.int .i64))], []⟩), (.exit 0, ⟨[], []⟩)]
 step := fun iv x => Qh.s0 iv.1 iv.2.1 iv.2.2 x
noncomputable def Qh.f (a0 : (List (ByteArray × (ByteArray × ((List ByteArray) × (Int × Int)))))) : Option Int :=
 (let y1 : Int := ((List.length a0 : Nat) : Int); (cb (decide ((50 : Int) < y1)) (some (2 : Int)) (let y2 : Int := ((List.length a0 : Nat) : Int); (ob (Qh.l0 a0 a0 y2 (0 : Int)) fun r9 => (Z22 r9 (fun a10 => (some a10)) (fun b11 => (some (0 : Int))))))))
noncomputable def Qh.fn : TFn := ⟨[(.slice (.pair .str (.pair .str (.pair (.slice .str) (.pair (.int .i64) (.int .i64))))))], [(.int .i64)], fun x => Qh.f x⟩
noncomputable def Qh.C : Cx := ⟨T, TYt, lkF [((125, [0]), Qq.fn)], lkO [], lkD [(9, 11, [(0, true), (1, true), (2, true), (3, true), (4, true), (5, true), (6, true), (7, true), (8, true), (9, true), (10, true)], none)], lkP [], [4], [], false, [], [], lkS [], 35⟩
theorem Qh.hC : CxOK Tryz.prog Qh.C := cxq (FsOK.cons Qq.ok (FsOK.nil))
noncomputable def Qh.root : Code := Z6 Tryz.f75
theorem Qh.h0 : LsOK Tryz.prog Qh.C Qh.root (lkL [([0, 1, 0, 1, 1], Qh.e0)]) :=
 LsOK.cons Qh.hC (LsOK.nil) (by kernel_rfl) (fun iv x => by kernel_rfl)
theorem Qh.ok : FnOK Tryz.prog 75 Qh.fn := .qq Qh.root Qh.hC Tryz.func75 (lkL [([0, 1, 0, 1, 1], Qh.e0)]) [.tmp 2] Qh.h0 fun x => by kernel_rfl
noncomputable def Q2h.f (a0 : (ByteArray × (ByteArray × ((List ByteArray) × (Int × Int))))) (a1 : ByteArray) : Option Int :=
 (ob (Q2u.f a0.1 a1) fun r1 => (some r1))
noncomputable def Q2h.fn : TFn := ⟨[(.pair .str (.pair .str (.pair (.slice .str) (.pair (.int .i64) (.int .i64))))), .str], [(.int .i64)], fun x => Q2h.f x.1 x.2⟩
noncomputable def Q2h.C : Cx := ⟨T, TYt, lkF [((124, [0, 0]), Q2u.fn)], lkO [], lkD [], lkP [], [2], [], false, [], [], lkS [], 9⟩
theorem Q2h.hC : CxOK Tryz.prog Q2h.C := cxq (FsOK.cons Q2u.ok (FsOK.nil))
noncomputable def Q2h.root : Code := Z6 Tryz.f123
theorem Q2h.ok : FnOK Tryz.prog 123 Q2h.fn := .qq Q2h.root Q2h.hC Tryz.func123 (lkL []) [.tmp 4] LsOK.nil fun x => by kernel_rfl
noncomputable def Q0.s0 (v0_0 : (List (ByteArray × (ByteArray × ((List ByteArray) × (Int × Int)))))) (v0_1 : ByteArray) (x0_9 : Int) (x0_10 : Int) : Option ((Int × Int) ⊕ Int) :=
 (cb (decide (x0_9 < x0_10)) (ck (InR (x0_9 + x0_10)) (let y7 : Int := (IntKind.u64.wrap (x0_9 + x0_10)); (let y8 : Int := (Int.fdiv y7 (2 ^ min (Int.toNat (1 : Int)) (IntKind.bits .u64))); (ck (0 ≤ (IntKind.i64.wrap y8) ∧ (IntKind.i64.wrap y8) < ((List.length v0_0 : Nat) : Int)) (let y9 : (ByteArray × (ByteArray × ((List ByteArray) × (Int × Int)))) := (rd (ByteArray.empty, (ByteArray.empty, (([] : (List ByteArray)), ((0 : Int), (0 : Int))))) v0_0 (IntKind.i64.wrap y8)); (ob (Q2h.f y9 v0_1) fun r10 => (cb (decide (r10 < (0 : Int))) (ck (InR ((IntKind.i64.wrap y8) + (1 : Int))) (let y11 : Int := ((IntKind.i64.wrap y8) + (1 : Int)); (some (.inl (y11, x0_10))))) (some (.inl (x0_9, (IntKind.i64.wrap y8))))))))))) (some (.inr x0_9)))
noncomputable def Q0.l0 (v0_0 : (List (ByteArray × (ByteArray × ((List ByteArray) × (Int × Int)))))) (v0_1 : ByteArray) (x0_9 : Int) (x0_10 : Int) : Option Int :=
 Zl (fun (x : (Int × Int)) => Q0.s0 v0_0 v0_1 x.1 x.2) (x0_9, x0_10)
noncomputable def Q0.e0 : Ent where
 pre := []
 inv := [(0, .val (.slice (.pair .str (.pair .str (.pair (.slice .str) (.pair (.int .i64) (.int .i64))))))), (1, .val .str), (2, .fn 123), (8, .val (.int .i64))]
 car := ⟨[(9, .val (.int .i64)), (10, .val (.int .i64))], []⟩
 exits := [(.exit 0, ⟨[(9, .val (.int .i64))], []⟩)]
 step := fun iv x => Q0.s0 iv.1 iv.2.1 x.1 x.2
noncomputable def Q0.f (a0 : (List (ByteArray × (ByteArray × ((List ByteArray) × (Int × Int)))))) (a1 : ByteArray) (a2 : Unit) : Option (Int × Bool) :=
 (let y1 : Int := ((List.length a0 : Nat) : Int); (ob (Q0.l0 a0 a1 (0 : Int) y1) fun r12 => (cb (decide (r12 < y1)) (ck (0 ≤ r12 ∧ r12 < ((List.length a0 : Nat) : Int)) (let y13 : (ByteArray × (ByteArray × ((List ByteArray) × (Int × Int)))) := (rd (ByteArray.empty, (ByteArray.empty, (([] : (List ByteArray)), ((0 : Int), (0 : Int))))) a0 r12); (ob (Q2h.f y13 a1) fun r14 => (some (r12, (decide (r14 = (0 : Int)))))))) (some (r12, false)))))
noncomputable def Q0.fn : TFn := ⟨[(.slice (.pair .str (.pair .str (.pair (.slice .str) (.pair (.int .i64) (.int .i64)))))), .str, (.fnc 123)], [(.int .i64), .bool], fun x => Q0.f x.1 x.2.1 x.2.2⟩
noncomputable def Q0.C : Cx := cxC [((123, [0, 0]), Q2h.fn)] 49
theorem Q0.hC : CxOK Tryz.prog Q0.C := cxq (FsOK.cons Q2h.ok (FsOK.nil))
noncomputable def Q0.root : Code := Z6 Tryz.f122
theorem Q0.h0 : LsOK Tryz.prog Q0.C Q0.root (lkL [([0, 0, 1, 1, 1], Q0.e0)]) :=
 LsOK.cons Q0.hC (LsOK.nil) (by kernel_rfl) (fun iv x => by kernel_rfl)
theorem Q0.ok : FnOK Tryz.prog 122 Q0.fn := .qq Q0.root Q0.hC Tryz.func122 (lkL [([0, 0, 1, 1, 1], Q0.e0)]) [.tmp 6, .tmp 7] Q0.h0 fun x => by kernel_rfl
noncomputable def Q2r.f (a0 : (List (ByteArray × (ByteArray × ((List ByteArray) × (Int × Int)))))) (a1 : ByteArray) : Option ((ByteArray × (ByteArray × ((List ByteArray) × (Int × Int)))) × Bool) :=
 (ob (Q0.f a0 a1 ()) fun r1 => (cb (!r1.2) (some ((bs_, (bs_, (([] : List ByteArray), ((0 : Int), (0 : Int))))), false)) (ck (0 ≤ r1.1 ∧ r1.1 < ((List.length a0 : Nat) : Int)) (let y2 : (ByteArray × (ByteArray × ((List ByteArray) × (Int × Int)))) := (rd (ByteArray.empty, (ByteArray.empty, (([] : (List ByteArray)), ((0 : Int), (0 : Int))))) a0 r1.1); (some (y2, true))))))
noncomputable def Q2r.fn : TFn := ⟨[(.slice (.pair .str (.pair .str (.pair (.slice .str) (.pair (.int .i64) (.int .i64)))))), .str], [(.pair .str (.pair .str (.pair (.slice .str) (.pair (.int .i64) (.int .i64))))), .bool], fun x => Q2r.f x.1 x.2⟩
noncomputable def Q2r.C : Cx := cxC [((122, [0, 0, 125]), Q0.fn)] 21
theorem Q2r.hC : CxOK Tryz.prog Q2r.C := cxq (FsOK.cons Q0.ok (FsOK.nil))
noncomputable def Q2r.root : Code := Z6 Tryz.f72
theorem Q2r.ok : FnOK Tryz.prog 72 Q2r.fn := .qq Q2r.root Q2r.hC Tryz.func72 (lkL []) [.cell 4 91, .tmp 5] LsOK.nil fun x => by kernel_rfl
noncomputable def Q2n.f (a0 : ByteArray) (a1 : ByteArray) : Option Bool :=
 (ob (Q1i.f a1 a0) fun r1 => (some r1))
noncomputable def Q2n.fn : TFn := ⟨[.str, (.ref .str)], [.bool], fun x => Q2n.f x.1 x.2⟩
noncomputable def Q2n.C : Cx := cxC [((130, [0, 0]), Q1i.fn)] 7
theorem Q2n.hC : CxOK Tryz.prog Q2n.C := cxq (FsOK.cons Q1i.ok (FsOK.nil))
noncomputable def Q2n.root : Code := Z6 Tryz.f129
theorem Q2n.ok : FnOK Tryz.prog 129 Q2n.fn := .qq Q2n.root Q2n.hC Tryz.func129 (lkL []) [.tmp 3] LsOK.nil fun x => by kernel_rfl
noncomputable def Q3.s0 (v0_0 : (List ByteArray)) (v0_1 : ByteArray) (v0_7 : Int) (x0_8 : Int) : Option (Int ⊕ (Int ⊕ Unit)) :=
 (cb (decide (x0_8 < v0_7)) (ck (0 ≤ x0_8 ∧ x0_8 < ((List.length v0_0 : Nat) : Int)) (let y4 : ByteArray := (rd ByteArray.empty v0_0 x0_8); (ob (Q2n.f y4 v0_1) fun r5 => (cb r5 (some (.inr (.inl x0_8))) (ck (InR (x0_8 + (1 : Int))) (some (.inl (x0_8 + (1 : Int))))))))) (some (.inr (.inr ()))))
noncomputable def Q3.l0 (v0_0 : (List ByteArray)) (v0_1 : ByteArray) (v0_7 : Int) (x0_8 : Int) : Option (Int ⊕ Unit) :=
 Zl (fun (x : Int) => Q3.s0 v0_0 v0_1 v0_7 x) x0_8
noncomputable def Q3.e0 : Ent where
 pre := []
 inv := [(0, .val (.slice .str)), (1, .val (.clo 129 (.ref .str))), (7, .val (.int .i64))]
 car := ⟨[(8, .val (.int .i64))], []⟩
 exits := [(.ret, ⟨[(4, .val (.int .i64))], []⟩), (.exit 0, ⟨[], []⟩)]
 step := fun iv x => Q3.s0 iv.1 iv.2.1 iv.2.2 x
noncomputable def Q3.f (a0 : (List ByteArray)) (a1 : ByteArray) : Option Int :=
 (let y1 : Int := ((List.length a0 : Nat) : Int); (ob (Q3.l0 a0 a1 y1 (0 : Int)) fun r6 => (Z22 r6 (fun a7 => (some a7)) (fun b8 => (some (-1 : Int))))))
noncomputable def Q3.fn : TFn := ⟨[(.slice .str), (.clo 129 (.ref .str))], [(.int .i64)], fun x => Q3.f x.1 x.2⟩
noncomputable def Q3.C : Cx := cxC [((129, [0]), Q2n.fn)] 19
theorem Q3.hC : CxOK Tryz.prog Q3.C := cxq (FsOK.cons Q2n.ok (FsOK.nil))
noncomputable def Q3.root : Code := Z6 Tryz.f182
theorem Q3.h0 : LsOK Tryz.prog Q3.C Q3.root (lkL [([0, 1, 0, 1], Q3.e0)]) :=
 LsOK.cons Q3.hC (LsOK.nil) (by kernel_rfl) (fun iv x => by kernel_rfl)
theorem Q3.ok : FnOK Tryz.prog 182 Q3.fn := .qq Q3.root Q3.hC Tryz.func182 (lkL [([0, 1, 0, 1], Q3.e0)]) [.tmp 4] Q3.h0 fun x => by kernel_rfl
noncomputable def Qi.f (a0 : (List ByteArray)) (a1 : ByteArray) : Option Bool :=
 (ob (Q3.f a0 a1) fun r1 => (some (decide ((0 : Int) ≤ r1))))
noncomputable def Qi.fn : TFn := ⟨[(.slice .str), (.clo 129 (.ref .str))], [.bool], fun x => Qi.f x.1 x.2⟩
noncomputable def Qi.C : Cx := cxC [((182, [0, 131]), Q3.fn)] 9
theorem Qi.hC : CxOK Tryz.prog Qi.C := cxq (FsOK.cons Q3.ok (FsOK.nil))
noncomputable def Qi.root : Code := Z6 Tryz.f128
theorem Qi.ok : FnOK Tryz.prog 128 Qi.fn := .qq Qi.root Qi.hC Tryz.func128 (lkL []) [.tmp 4] LsOK.nil fun x => by kernel_rfl
noncomputable def Q2s.f (a0 : (ByteArray × (ByteArray × ((List ByteArray) × (Int × Int))))) (a1 : ByteArray) (a2 : Int) : Option Bool :=
 (cb (decide (a0.2.2.2.1 ≤ a2)) (cb (decide (a2 < a0.2.2.2.2)) (ob (Qi.f a0.2.2.1 a1) fun r1 => (some r1)) (some false)) (some false))
noncomputable def Q2s.fn : TFn := ⟨[(.pair .str (.pair .str (.pair (.slice .str) (.pair (.int .i64) (.int .i64))))), .str, (.int .i64)], [.bool], fun x => Q2s.f x.1 x.2.1 x.2.2⟩
noncomputable def Q2s.C : Cx := ⟨T, TYt, lkF [((128, [0, 131]), Qi.fn)], lkO [], lkD [], lkP [], [3], [], false, [], [], lkS [], 23⟩
theorem Q2s.hC : CxOK Tryz.prog Q2s.C := cxq (FsOK.cons Qi.ok (FsOK.nil))
noncomputable def Q2s.root : Code := Z6 Tryz.f78
theorem Q2s.ok : FnOK Tryz.prog 78 Q2s.fn := .qq Q2s.root Q2s.hC Tryz.func78 (lkL []) [.tmp 6] LsOK.nil fun x => by kernel_rfl
noncomputable def Q2o.f (a0 : (List (ByteArray × (ByteArray × ((List ByteArray) × (Int × Int)))))) (a1 : ByteArray) (a2 : ByteArray) (a3 : Int) : Option (Bool × Int) :=
 (ob (Qh.f a0) fun r1 => (cb (!decide (r1 = (0 : Int))) (some (false, r1)) (ob (Q1r.f a1) fun r2 => (cb (!r2) (some (false, (5 : Int))) (ob (Q1j.f a2) fun r3 => (cb (!r3) (some (false, (10 : Int))) (ob (Q1k.f a3 (0 : Int) (1000000000 : Int)) fun r4 => (cb (!r4) (some (false, (1 : Int))) (ob (Q2r.f a0 a1) fun r5 => (cb r5.2 (ob (Q2s.f r5.1 a2 a3) fun r6 => (some (r6, (0 : Int)))) (some (false, (0 : Int)))))))))))))
noncomputable def Q2o.fn : TFn := ⟨[(.slice (.pair .str (.pair .str (.pair (.slice .str) (.pair (.int .i64) (.int .i64)))))), .str, .str, (.int .i64)], [.bool, (.int .i64)], fun x => Q2o.f x.1 x.2.1 x.2.2.1 x.2.2.2⟩
noncomputable def Q2o.C : Cx := ⟨T, TYt, lkF [((70, [0, 0, 0]), Q1k.fn), ((72, [0, 0]), Q2r.fn), ((75, [0]), Qh.fn), ((76, [0]), Q1r.fn), ((77, [0]), Q1j.fn), ((78, [0, 0, 0]), Q2s.fn)], lkO [], lkD [], lkP [], [11], [], false, [], [], lkS [], 43⟩
theorem Q2o.hC : CxOK Tryz.prog Q2o.C := cxq (FsOK.cons Q1k.ok (FsOK.cons Q2r.ok (FsOK.cons Qh.ok (FsOK.cons Q1r.ok (FsOK.cons Q1j.ok (FsOK.cons Q2s.ok (FsOK.nil)))))))
noncomputable def Q2o.root : Code := Z6 Tryz.f23
theorem Q2o.ok : FnOK Tryz.prog 23 Q2o.fn := .qq Q2o.root Q2o.hC Tryz.func23 (lkL []) [.tmp 8, .tmp 9] LsOK.nil fun x => by kernel_rfl
noncomputable def Q2m.f : Option Bool :=
 (ob (Q2o.f ([(Q2x, (Q2z, (([Q2k] : List ByteArray), ((0 : Int), (5 : Int)))))] : List (ByteArray × (ByteArray × ((List ByteArray) × (Int × Int))))) Q2x Q1f (4 : Int)) fun r1 => (ob (Q2o.f ([(Q2x, (Q2z, (([Q2k] : List ByteArray), ((0 : Int), (5 : Int)))))] : List (ByteArray × (ByteArray × ((List ByteArray) × (Int × Int))))) Q2x Q1f (5 : Int)) fun r2 => (cb (decide (r1.2 = (0 : Int))) (cb (decide (r2.2 = (0 : Int))) (cb r1.1 (some (!r2.1)) (some false)) (some false)) (some false))))
noncomputable def Q2m.fn : TFn := ⟨[], [.bool], fun x => Q2m.f⟩
noncomputable def Q2m.C : Cx := cxC [((23, [0, 0, 0, 0]), Q2o.fn)] 32
theorem Q2m.hC : CxOK Tryz.prog Q2m.C := cxq (FsOK.cons Q2o.ok (FsOK.nil))
noncomputable def Q2m.root : Code := Z6 Tryz.f20
theorem Q2m.ok : FnOK Tryz.prog 20 Q2m.fn := .qq Q2m.root Q2m.hC Tryz.func20 (lkL []) [.tmp 0] LsOK.nil fun x => by kernel_rfl
noncomputable def Q8.s0 (v0_0 : (List ByteArray)) (v0_1 : (List ByteArray)) (v0_12 : Int) (x0_13 : Int) : Option (Int ⊕ (Bool ⊕ Unit)) :=
 (cb (decide (x0_13 < v0_12)) (ck (0 ≤ x0_13 ∧ x0_13 < ((List.length v0_0 : Nat) : Int)) (let y6 : ByteArray := (rd ByteArray.empty v0_0 x0_13); (ck (0 ≤ x0_13 ∧ x0_13 < ((List.length v0_1 : Nat) : Int)) (let y7 : ByteArray := (rd ByteArray.empty v0_1 x0_13); (cb (!decide (y6 = y7)) (some (.inr (.inl false))) (ck (InR (x0_13 + (1 : Int))) (some (.inl (x0_13 + (1 : Int)))))))))) (some (.inr (.inr ()))))
noncomputable def Q8.l0 (v0_0 : (List ByteArray)) (v0_1 : (List ByteArray)) (v0_12 : Int) (x0_13 : Int) : Option (Bool ⊕ Unit) :=
 Zl (fun (x : Int) => Q8.s0 v0_0 v0_1 v0_12 x) x0_13
noncomputable def Q8.e0 : Ent where
 pre := []
 inv := [(0, .val (.slice .str)), (1, .val (.slice .str)), (12, .val (.int .i64))]
 car := ⟨[(13, .val (.int .i64))], []⟩
 exits := [(.ret, ⟨[(4, .val .bool)], []⟩), (.exit 0, ⟨[], []⟩)]
 step := fun iv x => Q8.s0 iv.1 iv.2.1 iv.2.2 x
noncomputable def Q8.f (a0 : (List ByteArray)) (a1 : (List ByteArray)) : Option Bool :=
 (let y1 : Int := ((List.length a0 : Nat) : Int); (let y2 : Int := ((List.length a1 : Nat) : Int); (cb (!decide (y1 = y2)) (some false) (let y3 : Int := ((List.length a0 : Nat) : Int); (ob (Q8.l0 a0 a1 y3 (0 : Int)) fun r8 => (Z22 r8 (fun a9 => (some a9)) (fun b10 => (some true))))))))
noncomputable def Q8.fn : TFn := ⟨[(.slice .str), (.slice .str)], [.bool], fun x => Q8.f x.1 x.2⟩
noncomputable def Q8.C : Cx := ⟨T, TYt, lkF [], lkO [], lkD [(6, 8, [(0, true), (1, true), (2, true), (3, true), (4, true), (5, true), (6, true), (7, true)], none)], lkP [], [], [], false, [], [], lkS [], 26⟩
theorem Q8.hC : CxOK Tryz.prog Q8.C := cxq FsOK.nil
noncomputable def Q8.root : Code := Z6 Tryz.f38
theorem Q8.h0 : LsOK Tryz.prog Q8.C Q8.root (lkL [([0, 1, 0, 1, 1], Q8.e0)]) :=
 LsOK.cons Q8.hC (LsOK.nil) (by kernel_rfl) (fun iv x => by kernel_rfl)
theorem Q8.ok : FnOK Tryz.prog 38 Q8.fn := .qq Q8.root Q8.hC Tryz.func38 (lkL [([0, 1, 0, 1, 1], Q8.e0)]) [.tmp 4] Q8.h0 fun x => by kernel_rfl
noncomputable def Q12.f (a0 : (List ByteArray)) : Option (List ByteArray) :=
 (nq (¬ a0 = ([] : List ByteArray)) (ck ((List.length ([] : List ByteArray) + List.length a0) * 16 ≤ 140737488355328) (some (([] : List ByteArray) ++ a0))) (some ([] : List ByteArray)))
noncomputable def Q12.fn : TFn := ⟨[(.slice .str)], [(.slice .str)], fun x => Q12.f x⟩
noncomputable def Q12.C : Cx := cxC [] 8
theorem Q12.hC : CxOK Tryz.prog Q12.C := cxq FsOK.nil
noncomputable def Q12.root : Code := Z6 Tryz.f73
theorem Q12.ok : FnOK Tryz.prog 73 Q12.fn := .qq Q12.root Q12.hC Tryz.func73 (lkL []) [.tmp 2] LsOK.nil fun x => by kernel_rfl
noncomputable def Q1u.f (a0 : (ByteArray × (ByteArray × (ByteArray × (ByteArray × (Int × ((List ByteArray) × ByteArray))))))) : Option (ByteArray × (ByteArray × (ByteArray × (ByteArray × (Int × ((List ByteArray) × ByteArray)))))) :=
 (ob (Q12.f a0.2.2.2.2.2.1) fun r1 => (some (a0.1, (a0.2.1, (a0.2.2.1, (a0.2.2.2.1, (a0.2.2.2.2.1, (r1, a0.2.2.2.2.2.2))))))))
noncomputable def Q1u.fn : TFn := ⟨[(.pair .str (.pair .str (.pair .str (.pair .str (.pair (.int .i64) (.pair (.slice .str) .str))))))], [(.pair .str (.pair .str (.pair .str (.pair .str (.pair (.int .i64) (.pair (.slice .str) .str))))))], fun x => Q1u.f x⟩
noncomputable def Q1u.C : Cx := cxC [((73, [0]), Q12.fn)] 8
theorem Q1u.hC : CxOK Tryz.prog Q1u.C := cxq (FsOK.cons Q12.ok (FsOK.nil))
noncomputable def Q1u.root : Code := Z6 Tryz.f27
theorem Q1u.ok : FnOK Tryz.prog 27 Q1u.fn := .qq Q1u.root Q1u.hC Tryz.func27 (lkL []) [.cell 2 34] LsOK.nil fun x => by kernel_rfl
noncomputable def Q1n.s0 (v0_6 : (List (ByteArray × (ByteArray × (ByteArray × (ByteArray × (Int × ((List ByteArray) × ByteArray)))))))) (v0_7 : Int) (x0_8 : Int) (o0_0 : (List (ByteArray × (ByteArray × (ByteArray × (ByteArray × (Int × ((List ByteArray) × ByteArray)))))))) : Option ((Int × (List (ByteArray × (ByteArray × (ByteArray × (ByteArray × (Int × ((List ByteArray) × ByteArray)))))))) ⊕ (List (ByteArray × (ByteArray × (ByteArray × (ByteArray × (Int × ((List ByteArray) × ByteArray)))))))) :=
 (cb (decide (x0_8 < v0_7)) (ck (0 ≤ x0_8 ∧ x0_8 < ((List.length v0_6 : Nat) : Int)) (let y4 : (ByteArray × (ByteArray × (ByteArray × (ByteArray × (Int × ((List ByteArray) × ByteArray)))))) := (rd (ByteArray.empty, (ByteArray.empty, (ByteArray.empty, (ByteArray.empty, ((0 : Int), (([] : (List ByteArray)), ByteArray.empty)))))) v0_6 x0_8); (ob (Q1u.f y4) fun r5 => (ck ((List.length o0_0 + List.length ([r5] : List (ByteArray × (ByteArray × (ByteArray × (ByteArray × (Int × ((List ByteArray) × ByteArray)))))))) * 112 ≤ 140737488355328) (ck (InR (x0_8 + (1 : Int))) (some (.inl ((x0_8 + (1 : Int)), (o0_0 ++ ([r5] : List (ByteArray × (ByteArray × (ByteArray × (ByteArray × (Int × ((List ByteArray) × ByteArray)))))))))))))))) (some (.inr o0_0)))
noncomputable def Q1n.l0 (v0_6 : (List (ByteArray × (ByteArray × (ByteArray × (ByteArray × (Int × ((List ByteArray) × ByteArray)))))))) (v0_7 : Int) (x0_8 : Int) (o0_0 : (List (ByteArray × (ByteArray × (ByteArray × (ByteArray × (Int × ((List ByteArray) × ByteArray)))))))) : Option (List (ByteArray × (ByteArray × (ByteArray × (ByteArray × (Int × ((List ByteArray) × ByteArray))))))) :=
 Zl (fun (x : (Int × (List (ByteArray × (ByteArray × (ByteArray × (ByteArray × (Int × ((List ByteArray) × ByteArray))))))))) => Q1n.s0 v0_6 v0_7 x.1 x.2) (x0_8, o0_0)
noncomputable def Q1n.e0 : Ent where
 pre := [.nil 3 34 (.pair .str (.pair .str (.pair .str (.pair .str (.pair (.int .i64) (.pair (.slice .str) .str))))))]
 inv := [(6, .val (.slice (.pair .str (.pair .str (.pair .str (.pair .str (.pair (.int .i64) (.pair (.slice .str) .str)))))))), (7, .val (.int .i64))]
 car := ⟨[(3, .own 0 7), (8, .val (.int .i64))], [.row 34 (.pair .str (.pair .str (.pair .str (.pair .str (.pair (.int .i64) (.pair (.slice .str) .str))))))]⟩
 exits := [(.exit 0, ⟨[(3, .own 0 7)], [.row 34 (.pair .str (.pair .str (.pair .str (.pair .str (.pair (.int .i64) (.pair (.slice .str) .str))))))]⟩)]
 step := fun iv x => Q1n.s0 iv.1 iv.2 x.1 x.2
noncomputable def Q1n.f (a0 : (List (ByteArray × (ByteArray × (ByteArray × (ByteArray × (Int × ((List ByteArray) × ByteArray)))))))) : Option (List (ByteArray × (ByteArray × (ByteArray × (ByteArray × (Int × ((List ByteArray) × ByteArray))))))) :=
 (let y1 : Int := ((List.length a0 : Nat) : Int); (ob (Q1n.l0 a0 y1 (0 : Int) ([] : List (ByteArray × (ByteArray × (ByteArray × (ByteArray × (Int × ((List ByteArray) × ByteArray)))))))) fun r6 => (some r6)))
noncomputable def Q1n.fn : TFn := ⟨[(.slice (.pair .str (.pair .str (.pair .str (.pair .str (.pair (.int .i64) (.pair (.slice .str) .str)))))))], [(.slice (.pair .str (.pair .str (.pair .str (.pair .str (.pair (.int .i64) (.pair (.slice .str) .str)))))))], fun x => Q1n.f x⟩
noncomputable def Q1n.C : Cx := ⟨T, TYt, lkF [((27, [0]), Q1u.fn)], lkO [], lkD [], lkP [], [5], [], false, [], [], lkS [], 19⟩
theorem Q1n.hC : CxOK Tryz.prog Q1n.C := cxq (FsOK.cons Q1u.ok (FsOK.nil))
noncomputable def Q1n.root : Code := Z6 Tryz.f34
theorem Q1n.h0 : LsOK Tryz.prog Q1n.C Q1n.root (lkL [([0, 1, 0, 1, 1], Q1n.e0)]) :=
 LsOK.cons Q1n.hC (LsOK.nil) (by kernel_rfl) (fun iv x => by kernel_rfl)
theorem Q1n.ok : FnOK Tryz.prog 34 Q1n.fn := .qq Q1n.root Q1n.hC Tryz.func34 (lkL [([0, 1, 0, 1, 1], Q1n.e0)]) [.tmp 2] Q1n.h0 fun x => by kernel_rfl
noncomputable def Qs.f (a0 : (List (Int × (ByteArray × Int)))) : Option (List (Int × (ByteArray × Int))) :=
 (nq (¬ a0 = ([] : List (Int × (ByteArray × Int)))) (ck ((List.length ([] : List (Int × (ByteArray × Int))) + List.length a0) * 32 ≤ 140737488355328) (some (([] : List (Int × (ByteArray × Int))) ++ a0))) (some ([] : List (Int × (ByteArray × Int)))))
noncomputable def Qs.fn : TFn := ⟨[(.slice (.pair (.int .i64) (.pair .str (.int .i64))))], [(.slice (.pair (.int .i64) (.pair .str (.int .i64))))], fun x => Qs.f x⟩
noncomputable def Qs.C : Cx := cxC [] 8
theorem Qs.hC : CxOK Tryz.prog Qs.C := cxq FsOK.nil
noncomputable def Qs.root : Code := Z6 Tryz.f49
theorem Qs.ok : FnOK Tryz.prog 49 Qs.fn := .qq Qs.root Qs.hC Tryz.func49 (lkL []) [.tmp 2] LsOK.nil fun x => by kernel_rfl
noncomputable def Q1s.f (a0 : ByteArray) : Option Bool :=
 (let y1 : Int := ((ByteArray.size a0 : Nat) : Int); (cb (decide (y1 = (16 : Int))) (ob (Q2j.f a0 Q2e) fun r2 => (some (decide (r2 = bs_)))) (some false)))
noncomputable def Q1s.fn : TFn := ⟨[.str], [.bool], fun x => Q1s.f x⟩
noncomputable def Q1s.C : Cx := cxC [((121, [0, 0]), Q2j.fn)] 11
theorem Q1s.hC : CxOK Tryz.prog Q1s.C := cxq (FsOK.cons Q2j.ok (FsOK.nil))
noncomputable def Q1s.root : Code := Z6 Tryz.f89
theorem Q1s.ok : FnOK Tryz.prog 89 Q1s.fn := .qq Q1s.root Q1s.hC Tryz.func89 (lkL []) [.tmp 2] LsOK.nil fun x => by kernel_rfl
noncomputable def Q1c.s0 (v0_0 : ByteArray) (v0_6 : Int) (x0_7 : Int) : Option (Int ⊕ (Bool ⊕ Unit)) :=
 (cb (decide (x0_7 < v0_6)) (ck (0 ≤ x0_7 ∧ x0_7 < ((ByteArray.size v0_0 : Nat) : Int)) (cb (decide (((UInt8.toNat (bt v0_0 x0_7) : Nat) : Int) < (97 : Int))) (cb (decide (((UInt8.toNat (bt v0_0 x0_7) : Nat) : Int) < (65 : Int))) (cb (decide (((UInt8.toNat (bt v0_0 x0_7) : Nat) : Int) < (48 : Int))) (ob (Qo.f Q1y (bt v0_0 x0_7)) fun r10 => (cb (decide (r10 < (0 : Int))) (some (.inr (.inl false))) (ck (InR (x0_7 + (1 : Int))) (some (.inl (x0_7 + (1 : Int))))))) (cb (decide ((57 : Int) < ((UInt8.toNat (bt v0_0 x0_7) : Nat) : Int))) (ob (Qo.f Q1y (bt v0_0 x0_7)) fun r11 => (cb (decide (r11 < (0 : Int))) (some (.inr (.inl false))) (ck (InR (x0_7 + (1 : Int))) (some (.inl (x0_7 + (1 : Int))))))) (ck (InR (x0_7 + (1 : Int))) (some (.inl (x0_7 + (1 : Int))))))) (cb (decide ((90 : Int) < ((UInt8.toNat (bt v0_0 x0_7) : Nat) : Int))) (cb (decide (((UInt8.toNat (bt v0_0 x0_7) : Nat) : Int) < (48 : Int))) (ob (Qo.f Q1y (bt v0_0 x0_7)) fun r12 => (cb (decide (r12 < (0 : Int))) (some (.inr (.inl false))) (ck (InR (x0_7 + (1 : Int))) (some (.inl (x0_7 + (1 : Int))))))) (cb (decide ((57 : Int) < ((UInt8.toNat (bt v0_0 x0_7) : Nat) : Int))) (ob (Qo.f Q1y (bt v0_0 x0_7)) fun r13 => (cb (decide (r13 < (0 : Int))) (some (.inr (.inl false))) (ck (InR (x0_7 + (1 : Int))) (some (.inl (x0_7 + (1 : Int))))))) (ck (InR (x0_7 + (1 : Int))) (some (.inl (x0_7 + (1 : Int))))))) (ck (InR (x0_7 + (1 : Int))) (some (.inl (x0_7 + (1 : Int))))))) (cb (decide ((122 : Int) < ((UInt8.toNat (bt v0_0 x0_7) : Nat) : Int))) (cb (decide (((UInt8.toNat (bt v0_0 x0_7) : Nat) : Int) < (65 : Int))) (cb (decide (((UInt8.toNat (bt v0_0 x0_7) : Nat) : Int) < (48 : Int))) (ob (Qo.f Q1y (bt v0_0 x0_7)) fun r14 => (cb (decide (r14 < (0 : Int))) (some (.inr (.inl false))) (ck (InR (x0_7 + (1 : Int))) (some (.inl (x0_7 + (1 : Int))))))) (cb (decide ((57 : Int) < ((UInt8.toNat (bt v0_0 x0_7) : Nat) : Int))) (ob (Qo.f Q1y (bt v0_0 x0_7)) fun r15 => (cb (decide (r15 < (0 : Int))) (some (.inr (.inl false))) (ck (InR (x0_7 + (1 : Int))) (some (.inl (x0_7 + (1 : Int))))))) (ck (InR (x0_7 + (1 : Int))) (some (.inl (x0_7 + (1 : Int))))))) (cb (decide ((90 : Int) < ((UInt8.toNat (bt v0_0 x0_7) : Nat) : Int))) (cb (decide (((UInt8.toNat (bt v0_0 x0_7) : Nat) : Int) < (48 : Int))) (ob (Qo.f Q1y (bt v0_0 x0_7)) fun r16 => (cb (decide (r16 < (0 : Int))) (some (.inr (.inl false))) (ck (InR (x0_7 + (1 : Int))) (some (.inl (x0_7 + (1 : Int))))))) (cb (decide ((57 : Int) < ((UInt8.toNat (bt v0_0 x0_7) : Nat) : Int))) (ob (Qo.f Q1y (bt v0_0 x0_7)) fun r17 => (cb (decide (r17 < (0 : Int))) (some (.inr (.inl false))) (ck (InR (x0_7 + (1 : Int))) (some (.inl (x0_7 + (1 : Int))))))) (ck (InR (x0_7 + (1 : Int))) (some (.inl (x0_7 + (1 : Int))))))) (ck (InR (x0_7 + (1 : Int))) (some (.inl (x0_7 + (1 : Int))))))) (ck (InR (x0_7 + (1 : Int))) (some (.inl (x0_7 + (1 : Int)))))))) (some (.inr (.inr ()))))
noncomputable def Q1c.l0 (v0_0 : ByteArray) (v0_6 : Int) (x0_7 : Int) : Option (Bool ⊕ Unit) :=
 Zl (fun (x : Int) => Q1c.s0 v0_0 v0_6 x) x0_7
noncomputable def Q1c.e0 : Ent where
 pre := []
 inv := [(0, .val .str), (6, .val (.int .i64))]
 car := ⟨[(7, .val (.int .i64))], []⟩
 exits := [(.ret, ⟨[(2, .val .bool)], []⟩), (.exit 0, ⟨[], []⟩)]
 step := fun iv x => Q1c.s0 iv.1 iv.2 x
noncomputable def Q1c.f (a0 : ByteArray) : Option Bool :=
 (let y1 : Int := ((ByteArray.size a0 : Nat) : Int); (ob (Q1c.l0 a0 y1 (0 : Int)) fun r18 => (Z22 r18 (fun a19 => (some a19)) (fun b20 => (cb (!decide (a0 = bs_)) (cb (!decide (a0 = Q30)) (some (!decide (a0 = Q2y))) (some false)) (some false))))))
noncomputable def Q1c.fn : TFn := ⟨[.str], [.bool], fun x => Q1c.f x⟩
noncomputable def Q1c.C : Cx := cxC [((256, [0, 0]), Qo.fn)] 51
theorem Q1c.hC : CxOK Tryz.prog Q1c.C := cxq (FsOK.cons Qo.ok (FsOK.nil))
noncomputable def Q1c.root : Code := Z6 Tryz.f258
theorem Q1c.h0 : LsOK Tryz.prog Q1c.C Q1c.root (lkL [([0, 1, 0, 1], Q1c.e0)]) :=
 LsOK.cons Q1c.hC (LsOK.nil) (by kernel_rfl) (fun iv x => by kernel_rfl)
theorem Q1c.ok : FnOK Tryz.prog 258 Q1c.fn := .qq Q1c.root Q1c.hC Tryz.func258 (lkL [([0, 1, 0, 1], Q1c.e0)]) [.tmp 2] Q1c.h0 fun x => by kernel_rfl
noncomputable def Q2p.f (a0 : Int) (a1 : Int) (a2 : Int) : Option Bool :=
 (cb (decide (a1 ≤ a0)) (some (decide (a0 ≤ a2))) (some false))
noncomputable def Q2p.fn : TFn := ⟨[(.int .i64), (.int .i64), (.int .i64)], [.bool], fun x => Q2p.f x.1 x.2.1 x.2.2⟩
noncomputable def Q2p.C : Cx := cxC [] 15
theorem Q2p.hC : CxOK Tryz.prog Q2p.C := cxq FsOK.nil
noncomputable def Q2p.root : Code := Z6 Tryz.f259
theorem Q2p.ok : FnOK Tryz.prog 259 Q2p.fn := .qq Q2p.root Q2p.hC Tryz.func259 (lkL []) [.tmp 6] LsOK.nil fun x => by kernel_rfl
noncomputable def Q17.s0 (v0_6 : (List ByteArray)) (v0_7 : Int) (x0_8 : Int) : Option (Int ⊕ (Bool ⊕ Unit)) :=
 (cb (decide (x0_8 < v0_7)) (ck (0 ≤ x0_8 ∧ x0_8 < ((List.length v0_6 : Nat) : Int)) (let y5 : ByteArray := (rd ByteArray.empty v0_6 x0_8); (ob (Q1c.f y5) fun r6 => (cb (!r6) (some (.inr (.inl false))) (ck (InR (x0_8 + (1 : Int))) (some (.inl (x0_8 + (1 : Int))))))))) (some (.inr (.inr ()))))
noncomputable def Q17.l0 (v0_6 : (List ByteArray)) (v0_7 : Int) (x0_8 : Int) : Option (Bool ⊕ Unit) :=
 Zl (fun (x : Int) => Q17.s0 v0_6 v0_7 x) x0_8
noncomputable def Q17.e0 : Ent where
 pre := []
 inv := [(0, .val .str), (6, .val (.slice .str)), (7, .val (.int .i64))]
 car := ⟨[(8, .val (.int .i64))], []⟩
 exits := [(.ret, ⟨[(2, .val .bool)], []⟩), (.exit 0, ⟨[], []⟩)]
 step := fun iv x => Q17.s0 iv.2.1 iv.2.2 x
noncomputable def Q17.f (a0 : ByteArray) : Option Bool :=
 (ob (Q1o.f a0 Q2w) fun r1 => (let y2 : Int := ((List.length r1 : Nat) : Int); (ob (Q17.l0 r1 y2 (0 : Int)) fun r7 => (Z22 r7 (fun a8 => (some a8)) (fun b9 => (let y10 : Int := ((ByteArray.size a0 : Nat) : Int); (ob (Q2p.f y10 (1 : Int) (200 : Int)) fun r11 => (some r11))))))))
noncomputable def Q17.fn : TFn := ⟨[.str], [.bool], fun x => Q17.f x⟩
noncomputable def Q17.C : Cx := cxC [((160, [0, 0]), Q1o.fn), ((258, [0]), Q1c.fn), ((259, [0, 0, 0]), Q2p.fn)] 19
theorem Q17.hC : CxOK Tryz.prog Q17.C := cxq (FsOK.cons Q1o.ok (FsOK.cons Q1c.ok (FsOK.cons Q2p.ok (FsOK.nil))))
noncomputable def Q17.root : Code := Z6 Tryz.f245
theorem Q17.h0 : LsOK Tryz.prog Q17.C Q17.root (lkL [([0, 1, 0, 1], Q17.e0)]) :=
 LsOK.cons Q17.hC (LsOK.nil) (by kernel_rfl) (fun iv x => by kernel_rfl)
theorem Q17.ok : FnOK Tryz.prog 245 Q17.fn := .qq Q17.root Q17.hC Tryz.func245 (lkL [([0, 1, 0, 1], Q17.e0)]) [.tmp 2] Q17.h0 fun x => by kernel_rfl
noncomputable def Q2i.f (a0 : ByteArray) : Option Bool :=
 (cb (decide (a0 = bs_)) (some true) (ob (Q17.f a0) fun r1 => (some r1)))
noncomputable def Q2i.fn : TFn := ⟨[.str], [.bool], fun x => Q2i.f x⟩
noncomputable def Q2i.C : Cx := cxC [((245, [0]), Q17.fn)] 9
theorem Q2i.hC : CxOK Tryz.prog Q2i.C := cxq (FsOK.cons Q17.ok (FsOK.nil))
noncomputable def Q2i.root : Code := Z6 Tryz.f214
theorem Q2i.ok : FnOK Tryz.prog 214 Q2i.fn := .qq Q2i.root Q2i.hC Tryz.func214 (lkL []) [.tmp 2] LsOK.nil fun x => by kernel_rfl
noncomputable def Q2q.f (a0 : ByteArray) : Option ByteArray :=
 (ob (Q19.f a0 (UInt8.ofInt (47 : Int))) fun r1 => (ck (InR (r1 + (1 : Int))) (ck (0 ≤ (r1 + (1 : Int)) ∧ (r1 + (1 : Int)) ≤ ((ByteArray.size a0 : Nat) : Int)) (let y2 : ByteArray := (ByteArray.extract a0 (Int.toNat (r1 + (1 : Int))) (ByteArray.size a0)); (some y2)))))
noncomputable def Q2q.fn : TFn := ⟨[.str], [.str], fun x => Q2q.f x⟩
noncomputable def Q2q.C : Cx := cxC [((212, [0, 0]), Q19.fn)] 8
theorem Q2q.hC : CxOK Tryz.prog Q2q.C := cxq (FsOK.cons Q19.ok (FsOK.nil))
noncomputable def Q2q.root : Code := Z6 Tryz.f215
theorem Q2q.ok : FnOK Tryz.prog 215 Q2q.fn := .qq Q2q.root Q2q.hC Tryz.func215 (lkL []) [.tmp 2] LsOK.nil fun x => by kernel_rfl
noncomputable def Q1h.f (a0 : (ByteArray × ByteArray)) : Option Int :=
 (ob (Q2i.f a0.1) fun r1 => (cb (!r1) (some (3 : Int)) (ob (Q17.f a0.2) fun r2 => (cb (!r2) (some (3 : Int)) (some (0 : Int))))))
noncomputable def Q1h.fn : TFn := ⟨[(.pair .str .str)], [(.int .i64)], fun x => Q1h.f x⟩
noncomputable def Q1h.C : Cx := ⟨T, TYt, lkF [((214, [0]), Q2i.fn), ((245, [0]), Q17.fn)], lkO [], lkD [], lkP [], [1], [], false, [], [], lkS [], 13⟩
theorem Q1h.hC : CxOK Tryz.prog Q1h.C := cxq (FsOK.cons Q2i.ok (FsOK.cons Q17.ok (FsOK.nil)))
noncomputable def Q1h.root : Code := Z6 Tryz.f216
theorem Q1h.ok : FnOK Tryz.prog 216 Q1h.fn := .qq Q1h.root Q1h.hC Tryz.func216 (lkL []) [.tmp 2] LsOK.nil fun x => by kernel_rfl
noncomputable def Q2c.f (a0 : ByteArray) (a1 : ByteArray) : Option ((ByteArray × ByteArray) × Int) :=
 (ob (Q2i.f a1) fun r1 => (cb (!r1) (some ((bs_, bs_), (3 : Int))) (ob (Q27.f a0 Q2v) fun r2 => (ob (Q1a.f r2.1 Q1g) fun r3 => (cb r2.2.2 (cb (decide (r2.1 = bs_)) (ob (Q1h.f (a1, r2.2.1)) fun r4 => (cb (!decide (r4 = (0 : Int))) (some ((bs_, bs_), (10 : Int))) (some ((a1, r2.2.1), (0 : Int))))) (cb r2.2.2 (cb r3.2 (ob (Q1h.f (r3.1, r2.2.1)) fun r5 => (cb (!decide (r5 = (0 : Int))) (some ((bs_, bs_), (10 : Int))) (some ((r3.1, r2.2.1), (0 : Int))))) (cb r3.2 (cb (!decide (r3.1 = bs_)) (ob (Q2q.f r3.1) fun r6 => (ob (Q1h.f (r3.1, r6)) fun r7 => (cb (!decide (r7 = (0 : Int))) (some ((bs_, bs_), (10 : Int))) (some ((r3.1, r6), (0 : Int)))))) (some ((bs_, bs_), (10 : Int)))) (some ((bs_, bs_), (10 : Int))))) (cb r3.2 (cb (!decide (r3.1 = bs_)) (ob (Q2q.f r3.1) fun r8 => (ob (Q1h.f (r3.1, r8)) fun r9 => (cb (!decide (r9 = (0 : Int))) (some ((bs_, bs_), (10 : Int))) (some ((r3.1, r8), (0 : Int)))))) (some ((bs_, bs_), (10 : Int)))) (some ((bs_, bs_), (10 : Int)))))) (cb r2.2.2 (cb r3.2 (ob (Q1h.f (r3.1, r2.2.1)) fun r10 => (cb (!decide (r10 = (0 : Int))) (some ((bs_, bs_), (10 : Int))) (some ((r3.1, r2.2.1), (0 : Int))))) (cb r3.2 (cb (!decide (r3.1 = bs_)) (ob (Q2q.f r3.1) fun r11 => (ob (Q1h.f (r3.1, r11)) fun r12 => (cb (!decide (r12 = (0 : Int))) (some ((bs_, bs_), (10 : Int))) (some ((r3.1, r11), (0 : Int)))))) (some ((bs_, bs_), (10 : Int)))) (some ((bs_, bs_), (10 : Int))))) (cb r3.2 (cb (!decide (r3.1 = bs_)) (ob (Q2q.f r3.1) fun r13 => (ob (Q1h.f (r3.1, r13)) fun r14 => (cb (!decide (r14 = (0 : Int))) (some ((bs_, bs_), (10 : Int))) (some ((r3.1, r13), (0 : Int)))))) (some ((bs_, bs_), (10 : Int)))) (some ((bs_, bs_), (10 : Int))))))))))
noncomputable def Q2c.fn : TFn := ⟨[.str, .str], [(.pair .str .str), (.int .i64)], fun x => Q2c.f x.1 x.2⟩
noncomputable def Q2c.C : Cx := cxC [((104, [0, 0]), Q27.fn), ((179, [0, 0]), Q1a.fn), ((214, [0]), Q2i.fn), ((215, [0]), Q2q.fn), ((216, [0]), Q1h.fn)] 61
theorem Q2c.hC : CxOK Tryz.prog Q2c.C := cxq (FsOK.cons Q27.ok (FsOK.cons Q1a.ok (FsOK.cons Q2i.ok (FsOK.cons Q2q.ok (FsOK.cons Q1h.ok (FsOK.nil))))))
noncomputable def Q2c.root : Code := Z6 Tryz.f187
theorem Q2c.ok : FnOK Tryz.prog 187 Q2c.fn := .qq Q2c.root Q2c.hC Tryz.func187 (lkL []) [.cell 4 154, .tmp 5] LsOK.nil fun x => by kernel_rfl
noncomputable def Q26.f (a0 : ByteArray) : Option Bool :=
 (ob (Q2c.f a0 bs_) fun r1 => (cb (decide (r1.2 = (0 : Int))) (ck (((ByteArray.size Q1g + ByteArray.size r1.1.1 : Nat) : Int) ≤ 9223372036854775807) (ck (((ByteArray.size (Q1g ++ r1.1.1) + ByteArray.size Q2v : Nat) : Int) ≤ 9223372036854775807) (let y2 : ByteArray := ((Q1g ++ r1.1.1) ++ Q2v); (ck (((ByteArray.size y2 + ByteArray.size r1.1.2 : Nat) : Int) ≤ 9223372036854775807) (some (decide (a0 = (y2 ++ r1.1.2)))))))) (some false)))
noncomputable def Q26.fn : TFn := ⟨[.str], [.bool], fun x => Q26.f x⟩
noncomputable def Q26.C : Cx := ⟨T, TYt, lkF [((187, [0, 0]), Q2c.fn)], lkO [], lkD [], lkP [], [3], [], false, [], [], lkS [], 23⟩
theorem Q26.hC : CxOK Tryz.prog Q26.C := cxq (FsOK.cons Q2c.ok (FsOK.nil))
noncomputable def Q26.root : Code := Z6 Tryz.f135
theorem Q26.ok : FnOK Tryz.prog 135 Q26.fn := .qq Q26.root Q26.hC Tryz.func135 (lkL []) [.tmp 2] LsOK.nil fun x => by kernel_rfl
noncomputable def Q1x.f (a0 : Int) (a1 : Int) (a2 : Int) : Option Bool :=
 (cb (decide (a1 ≤ a0)) (some (decide (a0 ≤ a2))) (some false))
noncomputable def Q1x.fn : TFn := ⟨[(.int .i64), (.int .i64), (.int .i64)], [.bool], fun x => Q1x.f x.1 x.2.1 x.2.2⟩
noncomputable def Q1x.C : Cx := cxC [] 15
theorem Q1x.hC : CxOK Tryz.prog Q1x.C := cxq FsOK.nil
noncomputable def Q1x.root : Code := Z6 Tryz.f90
theorem Q1x.ok : FnOK Tryz.prog 90 Q1x.fn := .qq Q1x.root Q1x.hC Tryz.func90 (lkL []) [.tmp 6] LsOK.nil fun x => by kernel_rfl
noncomputable def Q16.s0 (v0_0 : ByteArray) (v0_20 : Int) (x0_21 : Int) : Option (Int ⊕ (Bool ⊕ Unit)) :=
 (cb (decide (x0_21 < v0_20)) (ck (0 ≤ x0_21 ∧ x0_21 < ((ByteArray.size v0_0 : Nat) : Int)) (cb (decide (((UInt8.toNat (bt v0_0 x0_21) : Nat) : Int) < (97 : Int))) (cb (decide (((UInt8.toNat (bt v0_0 x0_21) : Nat) : Int) < (48 : Int))) (cb (!decide (((UInt8.toNat (bt v0_0 x0_21) : Nat) : Int) = (45 : Int))) (cb (!decide (((UInt8.toNat (bt v0_0 x0_21) : Nat) : Int) = (95 : Int))) (some (.inr (.inl false))) (ck (InR (x0_21 + (1 : Int))) (some (.inl (x0_21 + (1 : Int)))))) (ck (InR (x0_21 + (1 : Int))) (some (.inl (x0_21 + (1 : Int)))))) (cb (decide ((57 : Int) < ((UInt8.toNat (bt v0_0 x0_21) : Nat) : Int))) (cb (!decide (((UInt8.toNat (bt v0_0 x0_21) : Nat) : Int) = (45 : Int))) (cb (!decide (((UInt8.toNat (bt v0_0 x0_21) : Nat) : Int) = (95 : Int))) (some (.inr (.inl false))) (ck (InR (x0_21 + (1 : Int))) (some (.inl (x0_21 + (1 : Int)))))) (ck (InR (x0_21 + (1 : Int))) (some (.inl (x0_21 + (1 : Int)))))) (ck (InR (x0_21 + (1 : Int))) (some (.inl (x0_21 + (1 : Int))))))) (cb (decide ((122 : Int) < ((UInt8.toNat (bt v0_0 x0_21) : Nat) : Int))) (cb (decide (((UInt8.toNat (bt v0_0 x0_21) : Nat) : Int) < (48 : Int))) (cb (!decide (((UInt8.toNat (bt v0_0 x0_21) : Nat) : Int) = (45 : Int))) (cb (!decide (((UInt8.toNat (bt v0_0 x0_21) : Nat) : Int) = (95 : Int))) (some (.inr (.inl false))) (ck (InR (x0_21 + (1 : Int))) (some (.inl (x0_21 + (1 : Int)))))) (ck (InR (x0_21 + (1 : Int))) (some (.inl (x0_21 + (1 : Int)))))) (cb (decide ((57 : Int) < ((UInt8.toNat (bt v0_0 x0_21) : Nat) : Int))) (cb (!decide (((UInt8.toNat (bt v0_0 x0_21) : Nat) : Int) = (45 : Int))) (cb (!decide (((UInt8.toNat (bt v0_0 x0_21) : Nat) : Int) = (95 : Int))) (some (.inr (.inl false))) (ck (InR (x0_21 + (1 : Int))) (some (.inl (x0_21 + (1 : Int)))))) (ck (InR (x0_21 + (1 : Int))) (some (.inl (x0_21 + (1 : Int)))))) (ck (InR (x0_21 + (1 : Int))) (some (.inl (x0_21 + (1 : Int))))))) (ck (InR (x0_21 + (1 : Int))) (some (.inl (x0_21 + (1 : Int)))))))) (some (.inr (.inr ()))))
noncomputable def Q16.l0 (v0_0 : ByteArray) (v0_20 : Int) (x0_21 : Int) : Option (Bool ⊕ Unit) :=
 Zl (fun (x : Int) => Q16.s0 v0_0 v0_20 x) x0_21
noncomputable def Q16.e0 : Ent where
 pre := []
 inv := [(0, .val .str), (20, .val (.int .i64))]
 car := ⟨[(21, .val (.int .i64))], []⟩
 exits := [(.ret, ⟨[(2, .val .bool)], []⟩), (.exit 0, ⟨[], []⟩)]
 step := fun iv x => Q16.s0 iv.1 iv.2 x
noncomputable def Q16.f (a0 : ByteArray) : Option Bool :=
 (let y1 : Int := ((ByteArray.size a0 : Nat) : Int); (ob (Q1x.f y1 (1 : Int) (40 : Int)) fun r2 => (cb (!r2) (some false) (ck (0 ≤ (0 : Int) ∧ (0 : Int) < ((ByteArray.size a0 : Nat) : Int)) (cb (decide (((UInt8.toNat (bt a0 (0 : Int)) : Nat) : Int) < (97 : Int))) (some false) (ck (0 ≤ (0 : Int) ∧ (0 : Int) < ((ByteArray.size a0 : Nat) : Int)) (cb (decide ((122 : Int) < ((UInt8.toNat (bt a0 (0 : Int)) : Nat) : Int))) (some false) (let y3 : Int := ((ByteArray.size a0 : Nat) : Int); (ob (Q16.l0 a0 y3 (0 : Int)) fun r4 => (Z22 r4 (fun a5 => (some a5)) (fun b6 => (some true))))))))))))
noncomputable def Q16.fn : TFn := ⟨[.str], [.bool], fun x => Q16.f x⟩
noncomputable def Q16.C : Cx := cxC [((90, [0, 0, 0]), Q1x.fn)] 50
theorem Q16.hC : CxOK Tryz.prog Q16.C := cxq (FsOK.cons Q1x.ok (FsOK.nil))
noncomputable def Q16.root : Code := Z6 Tryz.f136
theorem Q16.h0 : LsOK Tryz.prog Q16.C Q16.root (lkL [([0, 1, 0, 1, 1], Q16.e0)]) :=
 LsOK.cons Q16.hC (LsOK.nil) (by kernel_rfl) (fun iv x => by kernel_rfl)
theorem Q16.ok : FnOK Tryz.prog 136 Q16.fn := .qq Q16.root Q16.hC Tryz.func136 (lkL [([0, 1, 0, 1, 1], Q16.e0)]) [.tmp 2] Q16.h0 fun x => by kernel_rfl
noncomputable def Qt.s0 (v0_1 : (ByteArray × (ByteArray × (ByteArray × (ByteArray × (Int × ((List ByteArray) × ByteArray))))))) (v0_36 : (List ByteArray)) (v0_37 : Int) (x0_38 : Int) : Option (Int ⊕ (Int ⊕ Unit)) :=
 (cb (decide (x0_38 < v0_37)) (ck (0 ≤ x0_38 ∧ x0_38 < ((List.length v0_36 : Nat) : Int)) (let y11 : ByteArray := (rd ByteArray.empty v0_36 x0_38); (ob (Q1s.f y11) fun r12 => (cb (!r12) (some (.inr (.inl (3 : Int)))) (cb (decide ((0 : Int) < x0_38)) (ck (InR (x0_38 - (1 : Int))) (ck (0 ≤ (x0_38 - (1 : Int)) ∧ (x0_38 - (1 : Int)) < ((List.length v0_1.2.2.2.2.2.1 : Nat) : Int)) (let y13 : ByteArray := (rd ByteArray.empty v0_1.2.2.2.2.2.1 (x0_38 - (1 : Int))); (cb (Za8 y11 y13 || decide (y11 = y13)) (some (.inr (.inl (8 : Int)))) (ck (InR (x0_38 + (1 : Int))) (some (.inl (x0_38 + (1 : Int))))))))) (ck (InR (x0_38 + (1 : Int))) (some (.inl (x0_38 + (1 : Int)))))))))) (some (.inr (.inr ()))))
noncomputable def Qt.l0 (v0_1 : (ByteArray × (ByteArray × (ByteArray × (ByteArray × (Int × ((List ByteArray) × ByteArray))))))) (v0_36 : (List ByteArray)) (v0_37 : Int) (x0_38 : Int) : Option (Int ⊕ Unit) :=
 Zl (fun (x : Int) => Qt.s0 v0_1 v0_36 v0_37 x) x0_38
noncomputable def Qt.e0 : Ent where
 pre := []
 inv := [(1, .rp (.pair .str (.pair .str (.pair .str (.pair .str (.pair (.int .i64) (.pair (.slice .str) .str))))))), (36, .val (.slice .str)), (37, .val (.int .i64))]
 car := ⟨[(38, .val (.int .i64))], []⟩
 exits := [(.ret, ⟨[(2, .val (.int .i64))], []⟩), (.exit 1, ⟨[], []⟩)]
 step := fun iv x => Qt.s0 iv.1 iv.2.1 iv.2.2 x
noncomputable def Qt.f (a0 : (ByteArray × (ByteArray × (ByteArray × (ByteArray × (Int × ((List ByteArray) × ByteArray))))))) : Option Int :=
 (ob (Q1s.f a0.1) fun r1 => (cb (!r1) (some (3 : Int)) (ob (Q26.f a0.2.1) fun r2 => (cb (!r2) (some (10 : Int)) (ob (Q1s.f a0.2.2.1) fun r3 => (cb (!r3) (some (3 : Int)) (ob (Q16.f a0.2.2.2.1) fun r4 => (cb (!r4) (some (5 : Int)) (ob (Q1x.f a0.2.2.2.2.1 (0 : Int) (1000000000 : Int)) fun r5 => (cb (!r5) (some (1 : Int)) (let y6 : Int := ((List.length a0.2.2.2.2.2.1 : Nat) : Int); (cb (decide ((50 : Int) < y6)) (some (2 : Int)) (let y7 : Int := ((List.length a0.2.2.2.2.2.1 : Nat) : Int); (ob (Qt.l0 a0 a0.2.2.2.2.2.1 y7 (0 : Int)) fun r14 => (Z22 r14 (fun a15 => (some a15)) (fun b16 => (cb (!decide (a0.2.2.2.2.2.2 = bs_)) (ob (Q1s.f a0.2.2.2.2.2.2) fun r17 => (cb (!r17) (some (3 : Int)) (some (0 : Int)))) (some (0 : Int)))))))))))))))))))
noncomputable def Qt.fn : TFn := ⟨[(.pair .str (.pair .str (.pair .str (.pair .str (.pair (.int .i64) (.pair (.slice .str) .str))))))], [(.int .i64)], fun x => Qt.f x⟩
noncomputable def Qt.C : Cx := ⟨T, TYt, lkF [((89, [0]), Q1s.fn), ((90, [0, 0, 0]), Q1x.fn), ((135, [0]), Q26.fn), ((136, [0]), Q16.fn)], lkO [], lkD [], lkP [], [1], [], false, [], [], lkS [], 68⟩
theorem Qt.hC : CxOK Tryz.prog Qt.C := cxq (FsOK.cons Q1s.ok (FsOK.cons Q1x.ok (FsOK.cons Q26.ok (FsOK.cons Q16.ok (FsOK.nil)))))
noncomputable def Qt.root : Code := Z6 Tryz.f86
theorem Qt.h0 : LsOK Tryz.prog Qt.C Qt.root (lkL [([0, 1, 0, 1, 1], Qt.e0)]) :=
 LsOK.cons Qt.hC (LsOK.nil) (by kernel_rfl) (fun iv x => by kernel_rfl)
theorem Qt.ok : FnOK Tryz.prog 86 Qt.fn := .qq Qt.root Qt.hC Tryz.func86 (lkL [([0, 1, 0, 1, 1], Qt.e0)]) [.tmp 2] Qt.h0 fun x => by kernel_rfl
noncomputable def Qv.s0 (v0_0 : (List (ByteArray × (ByteArray × (ByteArray × (ByteArray × (Int × ((List ByteArray) × ByteArray)))))))) (v0_9 : (List (ByteArray × (ByteArray × (ByteArray × (ByteArray × (Int × ((List ByteArray) × ByteArray)))))))) (v0_10 : Int) (x0_11 : Int) : Option (Int ⊕ (Int ⊕ Unit)) :=
 (cb (decide (x0_11 < v0_10)) (ck (0 ≤ x0_11 ∧ x0_11 < ((List.length v0_9 : Nat) : Int)) (let y6 : (ByteArray × (ByteArray × (ByteArray × (ByteArray × (Int × ((List ByteArray) × ByteArray)))))) := (rd (ByteArray.empty, (ByteArray.empty, (ByteArray.empty, (ByteArray.empty, ((0 : Int), (([] : (List ByteArray)), ByteArray.empty)))))) v0_9 x0_11); (ob (Qt.f y6) fun r7 => (cb (!decide (r7 = (0 : Int))) (some (.inr (.inl r7))) (cb (decide (y6.2.2.2.2.2.2 = bs_)) (some (.inr (.inl (3 : Int)))) (cb (decide ((0 : Int) < x0_11)) (ck (InR (x0_11 - (1 : Int))) (ck (0 ≤ (x0_11 - (1 : Int)) ∧ (x0_11 - (1 : Int)) < ((List.length v0_0 : Nat) : Int)) (let y8 : Int := (rd (ByteArray.empty, (ByteArray.empty, (ByteArray.empty, (ByteArray.empty, ((0 : Int), (([] : (List ByteArray)), ByteArray.empty)))))) v0_0 (x0_11 - (1 : Int))).2.2.2.2.1; (cb (decide (y6.2.2.2.2.1 < y8)) (some (.inr (.inl (8 : Int)))) (ck (InR (x0_11 + (1 : Int))) (some (.inl (x0_11 + (1 : Int))))))))) (ck (InR (x0_11 + (1 : Int))) (some (.inl (x0_11 + (1 : Int))))))))))) (some (.inr (.inr ()))))
noncomputable def Qv.l0 (v0_0 : (List (ByteArray × (ByteArray × (ByteArray × (ByteArray × (Int × ((List ByteArray) × ByteArray)))))))) (v0_9 : (List (ByteArray × (ByteArray × (ByteArray × (ByteArray × (Int × ((List ByteArray) × ByteArray)))))))) (v0_10 : Int) (x0_11 : Int) : Option (Int ⊕ Unit) :=
 Zl (fun (x : Int) => Qv.s0 v0_0 v0_9 v0_10 x) x0_11
noncomputable def Qv.e0 : Ent where
 pre := []
 inv := [(0, .val (.slice (.pair .str (.pair .str (.pair .str (.pair .str (.pair (.int .i64) (.pair (.slice .str) .str)))))))), (9, .val (.slice (.pair .str (.pair .str (.pair .str (.pair .str (.pair (.int .i64) (.pair (.slice .str) .str)))))))), (10, .val (.int .i64))]
 car := ⟨[(11, .val (.int .i64))], []⟩
 exits := [(.ret, ⟨[(2, .val (.int .i64))], []⟩), (.exit 0, ⟨[], []⟩)]
 step := fun iv x => Qv.s0 iv.1 iv.2.1 iv.2.2 x
noncomputable def Qv.f (a0 : (List (ByteArray × (ByteArray × (ByteArray × (ByteArray × (Int × ((List ByteArray) × ByteArray)))))))) : Option Int :=
 (let y1 : Int := ((List.length a0 : Nat) : Int); (cb (decide ((1000 : Int) < y1)) (some (2 : Int)) (let y2 : Int := ((List.length a0 : Nat) : Int); (ob (Qv.l0 a0 a0 y2 (0 : Int)) fun r9 => (Z22 r9 (fun a10 => (some a10)) (fun b11 => (some (0 : Int))))))))
noncomputable def Qv.fn : TFn := ⟨[(.slice (.pair .str (.pair .str (.pair .str (.pair .str (.pair (.int .i64) (.pair (.slice .str) .str)))))))], [(.int .i64)], fun x => Qv.f x⟩
noncomputable def Qv.C : Cx := ⟨T, TYt, lkF [((86, [0]), Qt.fn)], lkO [], lkD [(11, 11, [(0, true), (1, true), (2, true), (3, true), (4, true), (5, true), (6, true), (7, true), (8, true), (9, true), (10, true)], none)], lkP [], [4], [], false, [], [], lkS [], 38⟩
theorem Qv.hC : CxOK Tryz.prog Qv.C := cxq (FsOK.cons Qt.ok (FsOK.nil))
noncomputable def Qv.root : Code := Z6 Tryz.f37
theorem Qv.h0 : LsOK Tryz.prog Qv.C Qv.root (lkL [([0, 1, 0, 1, 1], Qv.e0)]) :=
 LsOK.cons Qv.hC (LsOK.nil) (by kernel_rfl) (fun iv x => by kernel_rfl)
theorem Qv.ok : FnOK Tryz.prog 37 Qv.fn := .qq Qv.root Qv.hC Tryz.func37 (lkL [([0, 1, 0, 1, 1], Qv.e0)]) [.tmp 2] Qv.h0 fun x => by kernel_rfl
noncomputable def Qj.s0 (v0_0 : (List (ByteArray × (ByteArray × (ByteArray × (ByteArray × (Int × ((List ByteArray) × ByteArray)))))))) (v0_1 : (List (Int × (ByteArray × Int)))) (v0_16 : (List (Int × (ByteArray × Int)))) (v0_17 : Int) (x0_18 : Int) : Option (Int ⊕ (Int ⊕ Unit)) :=
 (cb (decide (x0_18 < v0_17)) (ck (0 ≤ x0_18 ∧ x0_18 < ((List.length v0_16 : Nat) : Int)) (let y11 : (Int × (ByteArray × Int)) := (rd ((0 : Int), (ByteArray.empty, (0 : Int))) v0_16 x0_18); (let y12 : Int := ((List.length v0_0 : Nat) : Int); (ck (InR (y12 - (1 : Int))) (ob (Q1x.f y11.1 (0 : Int) (y12 - (1 : Int))) fun r13 => (cb (!r13) (some (.inr (.inl (9 : Int)))) (ob (Q1s.f y11.2.1) fun r14 => (cb (!r14) (some (.inr (.inl (3 : Int)))) (ck (0 ≤ y11.1 ∧ y11.1 < ((List.length v0_0 : Nat) : Int)) (let y15 : Int := (rd (ByteArray.empty, (ByteArray.empty, (ByteArray.empty, (ByteArray.empty, ((0 : Int), (([] : (List ByteArray)), ByteArray.empty)))))) v0_0 y11.1).2.2.2.2.1; (ob (Q1x.f y11.2.2 y15 (1000000000 : Int)) fun r16 => (cb (!r16) (some (.inr (.inl (1 : Int)))) (cb (decide ((0 : Int) < x0_18)) (ck (InR (x0_18 - (1 : Int))) (ck (0 ≤ (x0_18 - (1 : Int)) ∧ (x0_18 - (1 : Int)) < ((List.length v0_1 : Nat) : Int)) (let y17 : Int := (rd ((0 : Int), (ByteArray.empty, (0 : Int))) v0_1 (x0_18 - (1 : Int))).2.2; (cb (decide (y11.2.2 < y17)) (some (.inr (.inl (8 : Int)))) (ck (InR (x0_18 + (1 : Int))) (some (.inl (x0_18 + (1 : Int))))))))) (ck (InR (x0_18 + (1 : Int))) (some (.inl (x0_18 + (1 : Int)))))))))))))))))) (some (.inr (.inr ()))))
noncomputable def Qj.l0 (v0_0 : (List (ByteArray × (ByteArray × (ByteArray × (ByteArray × (Int × ((List ByteArray) × ByteArray)))))))) (v0_1 : (List (Int × (ByteArray × Int)))) (v0_16 : (List (Int × (ByteArray × Int)))) (v0_17 : Int) (x0_18 : Int) : Option (Int ⊕ Unit) :=
 Zl (fun (x : Int) => Qj.s0 v0_0 v0_1 v0_16 v0_17 x) x0_18
noncomputable def Qj.e0 : Ent where
 pre := []
 inv := [(0, .val (.slice (.pair .str (.pair .str (.pair .str (.pair .str (.pair (.int .i64) (.pair (.slice .str) .str)))))))), (1, .val (.slice (.pair (.int .i64) (.pair .str (.int .i64))))), (16, .val (.slice (.pair (.int .i64) (.pair .str (.int .i64))))), (17, .val (.int .i64))]
 car := ⟨[(18, .val (.int .i64))], []⟩
 exits := [(.ret, ⟨[(4, .val (.int .i64))], []⟩), (.exit 0, ⟨[], []⟩)]
 step := fun iv x => Qj.s0 iv.1 iv.2.1 iv.2.2.1 iv.2.2.2 x
noncomputable def Qj.f (a0 : (List (ByteArray × (ByteArray × (ByteArray × (ByteArray × (Int × ((List ByteArray) × ByteArray)))))))) (a1 : (List (Int × (ByteArray × Int)))) : Option Int :=
 (ob (Qv.f a0) fun r1 => (cb (!decide (r1 = (0 : Int))) (some r1) (let y2 : Int := ((List.length a1 : Nat) : Int); (cb (decide ((1000 : Int) < y2)) (some (2 : Int)) (let y3 : Int := ((List.length a1 : Nat) : Int); (ob (Qj.l0 a0 a1 a1 y3 (0 : Int)) fun r18 => (Z22 r18 (fun a19 => (some a19)) (fun b20 => (some (0 : Int))))))))))
noncomputable def Qj.fn : TFn := ⟨[(.slice (.pair .str (.pair .str (.pair .str (.pair .str (.pair (.int .i64) (.pair (.slice .str) .str))))))), (.slice (.pair (.int .i64) (.pair .str (.int .i64))))], [(.int .i64)], fun x => Qj.f x.1 x.2⟩
noncomputable def Qj.C : Cx := ⟨T, TYt, lkF [((37, [0]), Qv.fn), ((89, [0]), Q1s.fn), ((90, [0, 0, 0]), Q1x.fn)], lkO [], lkD [(13, 8, [(0, true), (1, true), (2, true), (3, true), (4, true), (5, true), (6, true), (7, true)], none), (15, 11, [(0, true), (1, true), (2, true), (3, true), (4, true), (5, true), (6, true), (7, true), (8, true), (9, true), (10, true)], none)], lkP [], [7], [], false, [], [], lkS [], 62⟩
theorem Qj.hC : CxOK Tryz.prog Qj.C := cxq (FsOK.cons Qv.ok (FsOK.cons Q1s.ok (FsOK.cons Q1x.ok (FsOK.nil))))
noncomputable def Qj.root : Code := Z6 Tryz.f66
theorem Qj.h0 : LsOK Tryz.prog Qj.C Qj.root (lkL [([0, 1, 0, 1, 1, 1], Qj.e0)]) :=
 LsOK.cons Qj.hC (LsOK.nil) (by kernel_rfl) (fun iv x => by kernel_rfl)
theorem Qj.ok : FnOK Tryz.prog 66 Qj.fn := .qq Qj.root Qj.hC Tryz.func66 (lkL [([0, 1, 0, 1, 1, 1], Qj.e0)]) [.tmp 4] Qj.h0 fun x => by kernel_rfl
noncomputable def Q5.s0 (v0_1 : (List (ByteArray × (ByteArray × (ByteArray × (ByteArray × (Int × ((List ByteArray) × ByteArray)))))))) (v0_2 : Int) (v0_3 : ((List Bool) × ((List Bool) × ((List Bool) × (List ByteArray))))) (v0_17 : (List (ByteArray × (ByteArray × (ByteArray × (ByteArray × (Int × ((List ByteArray) × ByteArray)))))))) (v0_18 : Int) (x0_7 : Int) (x0_19 : Int) : Option ((Int × Int) ⊕ Int) :=
 (cb (decide (x0_19 < v0_18)) (ck (0 ≤ x0_19 ∧ x0_19 < ((List.length v0_17 : Nat) : Int)) (let y4 : (ByteArray × (ByteArray × (ByteArray × (ByteArray × (Int × ((List ByteArray) × ByteArray)))))) := (rd (ByteArray.empty, (ByteArray.empty, (ByteArray.empty, (ByteArray.empty, ((0 : Int), (([] : (List ByteArray)), ByteArray.empty)))))) v0_17 x0_19); (ck (0 ≤ v0_2 ∧ v0_2 < ((List.length v0_1 : Nat) : Int)) (let y5 : ByteArray := (rd (ByteArray.empty, (ByteArray.empty, (ByteArray.empty, (ByteArray.empty, ((0 : Int), (([] : (List ByteArray)), ByteArray.empty)))))) v0_1 v0_2).2.2.2.1; (cb (decide (y4.2.2.2.1 = y5)) (ck (0 ≤ x0_19 ∧ x0_19 < ((List.length v0_3.2.1 : Nat) : Int)) (cb (rd false v0_3.2.1 x0_19) (some (.inr x0_19)) (ck (InR (x0_19 + (1 : Int))) (some (.inl (x0_7, (x0_19 + (1 : Int)))))))) (ck (InR (x0_19 + (1 : Int))) (some (.inl (x0_7, (x0_19 + (1 : Int))))))))))) (some (.inr x0_7)))
noncomputable def Q5.l0 (v0_1 : (List (ByteArray × (ByteArray × (ByteArray × (ByteArray × (Int × ((List ByteArray) × ByteArray)))))))) (v0_2 : Int) (v0_3 : ((List Bool) × ((List Bool) × ((List Bool) × (List ByteArray))))) (v0_17 : (List (ByteArray × (ByteArray × (ByteArray × (ByteArray × (Int × ((List ByteArray) × ByteArray)))))))) (v0_18 : Int) (x0_7 : Int) (x0_19 : Int) : Option Int :=
 Zl (fun (x : (Int × Int)) => Q5.s0 v0_1 v0_2 v0_3 v0_17 v0_18 x.1 x.2) (x0_7, x0_19)
noncomputable def Q5.e0 : Ent where
 pre := []
 inv := [(1, .val (.slice (.pair .str (.pair .str (.pair .str (.pair .str (.pair (.int .i64) (.pair (.slice .str) .str)))))))), (2, .val (.int .i64)), (3, .rp (.pair (.slice .bool) (.pair (.slice .bool) (.pair (.slice .bool) (.slice .str))))), (17, .val (.slice (.pair .str (.pair .str (.pair .str (.pair .str (.pair (.int .i64) (.pair (.slice .str) .str)))))))), (18, .val (.int .i64))]
 car := ⟨[(7, .val (.int .i64)), (19, .val (.int .i64))], []⟩
 exits := [(.exit 0, ⟨[(7, .val (.int .i64))], []⟩)]
 step := fun iv x => Q5.s0 iv.1 iv.2.1 iv.2.2.1 iv.2.2.2.1 iv.2.2.2.2 x.1 x.2
noncomputable def Q5.s1 (v1_1 : (List (ByteArray × (ByteArray × (ByteArray × (ByteArray × (Int × ((List ByteArray) × ByteArray)))))))) (v1_2 : Int) (v1_3 : ((List Bool) × ((List Bool) × ((List Bool) × (List ByteArray))))) (v1_7 : Int) (x1_10 : Int) (x1_11 : Int) : Option ((Int × Int) ⊕ Int) :=
 (cb (decide (x1_11 < v1_7)) (ck (0 ≤ x1_11 ∧ x1_11 < ((List.length v1_1 : Nat) : Int)) (let y9 : ByteArray := (rd (ByteArray.empty, (ByteArray.empty, (ByteArray.empty, (ByteArray.empty, ((0 : Int), (([] : (List ByteArray)), ByteArray.empty)))))) v1_1 x1_11).2.2.2.1; (ck (0 ≤ v1_2 ∧ v1_2 < ((List.length v1_1 : Nat) : Int)) (let y10 : ByteArray := (rd (ByteArray.empty, (ByteArray.empty, (ByteArray.empty, (ByteArray.empty, ((0 : Int), (([] : (List ByteArray)), ByteArray.empty)))))) v1_1 v1_2).2.2.2.1; (cb (decide (y9 = y10)) (ck (0 ≤ x1_11 ∧ x1_11 < ((List.length v1_3.1 : Nat) : Int)) (cb (rd false v1_3.1 x1_11) (ck (0 ≤ x1_11 ∧ x1_11 < ((List.length v1_3.2.1 : Nat) : Int)) (cb (!(rd false v1_3.2.1 x1_11)) (ck (InR (x1_11 + (1 : Int))) (some (.inl (x1_11, (x1_11 + (1 : Int)))))) (ck (InR (x1_11 + (1 : Int))) (some (.inl (x1_10, (x1_11 + (1 : Int)))))))) (ck (InR (x1_11 + (1 : Int))) (some (.inl (x1_10, (x1_11 + (1 : Int)))))))) (ck (InR (x1_11 + (1 : Int))) (some (.inl (x1_10, (x1_11 + (1 : Int))))))))))) (some (.inr x1_10)))
noncomputable def Q5.l1 (v1_1 : (List (ByteArray × (ByteArray × (ByteArray × (ByteArray × (Int × ((List ByteArray) × ByteArray)))))))) (v1_2 : Int) (v1_3 : ((List Bool) × ((List Bool) × ((List Bool) × (List ByteArray))))) (v1_7 : Int) (x1_10 : Int) (x1_11 : Int) : Option Int :=
 Zl (fun (x : (Int × Int)) => Q5.s1 v1_1 v1_2 v1_3 v1_7 x.1 x.2) (x1_10, x1_11)
noncomputable def Q5.e1 : Ent where
 pre := []
 inv := [(1, .val (.slice (.pair .str (.pair .str (.pair .str (.pair .str (.pair (.int .i64) (.pair (.slice .str) .str)))))))), (2, .val (.int .i64)), (3, .rp (.pair (.slice .bool) (.pair (.slice .bool) (.pair (.slice .bool) (.slice .str))))), (7, .val (.int .i64))]
 car := ⟨[(10, .val (.int .i64)), (11, .val (.int .i64))], []⟩
 exits := [(.exit 2, ⟨[(10, .val (.int .i64))], []⟩)]
 step := fun iv x => Q5.s1 iv.1 iv.2.1 iv.2.2.1 iv.2.2.2 x.1 x.2
noncomputable def Q5.f (a0 : ((List Bool) × ((List Bool) × ((List Bool) × (List ByteArray))))) (a1 : (List (ByteArray × (ByteArray × (ByteArray × (ByteArray × (Int × ((List ByteArray) × ByteArray)))))))) (a2 : Int) : Option Bool :=
 (ck (0 ≤ a2 ∧ a2 < ((List.length a0.1 : Nat) : Int)) (cb (rd false a0.1 a2) (some false) (let y1 : Int := ((List.length a1 : Nat) : Int); (ob (Q5.l0 a1 a2 a0 a1 y1 (-1 : Int) (0 : Int)) fun r6 => (ob (Q5.l1 a1 a2 a0 r6 (-1 : Int) (0 : Int)) fun r11 => (cb (decide ((0 : Int) ≤ r6)) (some (decide (r11 < a2))) (some false)))))))
noncomputable def Q5.fn : TFn := ⟨[(.pair (.slice .bool) (.pair (.slice .bool) (.pair (.slice .bool) (.slice .str)))), (.slice (.pair .str (.pair .str (.pair .str (.pair .str (.pair (.int .i64) (.pair (.slice .str) .str))))))), (.int .i64)], [.bool], fun x => Q5.f x.1 x.2.1 x.2.2⟩
noncomputable def Q5.C : Cx := ⟨T, TYt, lkF [], lkO [], lkD [(7, 12, [(0, true), (1, true), (2, true), (3, true), (4, true), (5, true), (6, true), (7, true), (8, true), (9, true), (10, true), (11, true)], none), (14, 22, [(0, true), (1, true), (2, true), (3, true), (4, true), (5, true), (6, true), (7, true), (8, true), (9, true), (10, true), (11, true), (12, true), (13, true), (14, true), (15, true), (16, true), (17, true), (18, true), (19, true), (20, true), (21, true)], none)], lkP [], [3, 9], [], false, [], [], lkS [], 80⟩
theorem Q5.hC : CxOK Tryz.prog Q5.C := cxq FsOK.nil
noncomputable def Q5.root : Code := Z6 Tryz.f156
theorem Q5.h0 : LsOK Tryz.prog Q5.C Q5.root (lkL [([0, 1, 0, 1, 1, 1], Q5.e0)]) :=
 LsOK.cons Q5.hC (LsOK.nil) (by kernel_rfl) (fun iv x => by kernel_rfl)
theorem Q5.h1 : LsOK Tryz.prog Q5.C Q5.root (lkL [([0, 1, 0, 1, 1, 1, 1, 1], Q5.e1), ([0, 1, 0, 1, 1, 1], Q5.e0)]) :=
 LsOK.cons Q5.hC (Q5.h0) (by kernel_rfl) (fun iv x => by kernel_rfl)
theorem Q5.ok : FnOK Tryz.prog 156 Q5.fn := .qq Q5.root Q5.hC Tryz.func156 (lkL [([0, 1, 0, 1, 1, 1, 1, 1], Q5.e1), ([0, 1, 0, 1, 1, 1], Q5.e0)]) [.tmp 6] Q5.h1 fun x => by kernel_rfl
noncomputable def Qb.s1 (v1_1 : (List (ByteArray × (ByteArray × (ByteArray × (ByteArray × (Int × ((List ByteArray) × ByteArray)))))))) (v1_3 : ((List Bool) × ((List Bool) × ((List Bool) × (List ByteArray))))) (v1_8 : ByteArray) (v1_22 : Int) (x1_9 : Bool) (x1_10 : Bool) (x1_23 : Int) : Option ((Bool × (Bool × Int)) ⊕ (Bool × Bool)) :=
 (cb (decide (x1_23 < v1_22)) (ck (0 ≤ x1_23 ∧ x1_23 < ((List.length v1_1 : Nat) : Int)) (let y5 : ByteArray := (rd (ByteArray.empty, (ByteArray.empty, (ByteArray.empty, (ByteArray.empty, ((0 : Int), (([] : (List ByteArray)), ByteArray.empty)))))) v1_1 x1_23).2.2.1; (cb (decide (y5 = v1_8)) (cb x1_9 (cb x1_10 (ck (InR (x1_23 + (1 : Int))) (some (.inl (true, true, (x1_23 + (1 : Int)))))) (ck (0 ≤ x1_23 ∧ x1_23 < ((List.length v1_3.2.2.1 : Nat) : Int)) (ck (InR (x1_23 + (1 : Int))) (some (.inl (true, (!(rd false v1_3.2.2.1 x1_23)), (x1_23 + (1 : Int)))))))) (ck (0 ≤ x1_23 ∧ x1_23 < ((List.length v1_3.2.2.1 : Nat) : Int)) (cb x1_10 (ck (InR (x1_23 + (1 : Int))) (some (.inl ((rd false v1_3.2.2.1 x1_23), true, (x1_23 + (1 : Int)))))) (ck (0 ≤ x1_23 ∧ x1_23 < ((List.length v1_3.2.2.1 : Nat) : Int)) (ck (InR (x1_23 + (1 : Int))) (some (.inl ((rd false v1_3.2.2.1 x1_23), (!(rd false v1_3.2.2.1 x1_23)), (x1_23 + (1 : Int)))))))))) (ck (InR (x1_23 + (1 : Int))) (some (.inl (x1_9, x1_10, (x1_23 + (1 : Int))))))))) (some (.inr (x1_9, x1_10))))
noncomputable def Qb.l1 (v1_1 : (List (ByteArray × (ByteArray × (ByteArray × (ByteArray × (Int × ((List ByteArray) × ByteArray)))))))) (v1_3 : ((List Bool) × ((List Bool) × ((List Bool) × (List ByteArray))))) (v1_8 : ByteArray) (v1_22 : Int) (x1_9 : Bool) (x1_10 : Bool) (x1_23 : Int) : Option (Bool × Bool) :=
 Zl (fun (x : (Bool × (Bool × Int))) => Qb.s1 v1_1 v1_3 v1_8 v1_22 x.1 x.2.1 x.2.2) (x1_9, x1_10, x1_23)
noncomputable def Qb.e1 : Ent where
 pre := []
 inv := [(1, .val (.slice (.pair .str (.pair .str (.pair .str (.pair .str (.pair (.int .i64) (.pair (.slice .str) .str)))))))), (2, .val (.int .i64)), (3, .rp (.pair (.slice .bool) (.pair (.slice .bool) (.pair (.slice .bool) (.slice .str))))), (8, .val .str), (16, .val (.slice .str)), (17, .val (.int .i64)), (18, .val (.int .i64)), (22, .val (.int .i64))]
 car := ⟨[(9, .val .bool), (10, .val .bool), (23, .val (.int .i64))], []⟩
 exits := [(.exit 2, ⟨[(9, .val .bool), (10, .val .bool)], []⟩)]
 step := fun iv x => Qb.s1 iv.1 iv.2.2.1 iv.2.2.2.1 iv.2.2.2.2.2.2.2 x.1 x.2.1 x.2.2
noncomputable def Qb.s0 (v0_1 : (List (ByteArray × (ByteArray × (ByteArray × (ByteArray × (Int × ((List ByteArray) × ByteArray)))))))) (v0_2 : Int) (v0_3 : ((List Bool) × ((List Bool) × ((List Bool) × (List ByteArray))))) (v0_16 : (List ByteArray)) (v0_17 : Int) (x0_18 : Int) : Option (Int ⊕ (Bool ⊕ Unit)) :=
 (cb (decide (x0_18 < v0_17)) (ck (0 ≤ x0_18 ∧ x0_18 < ((List.length v0_16 : Nat) : Int)) (let y7 : ByteArray := (rd ByteArray.empty v0_16 x0_18); (ob (Qb.l1 v0_1 v0_3 y7 v0_2 false false (0 : Int)) fun r8 => (cb r8.1 (cb (!r8.2) (some (.inr (.inl true))) (ck (InR (x0_18 + (1 : Int))) (some (.inl (x0_18 + (1 : Int)))))) (ck (InR (x0_18 + (1 : Int))) (some (.inl (x0_18 + (1 : Int))))))))) (some (.inr (.inr ()))))
noncomputable def Qb.l0 (v0_1 : (List (ByteArray × (ByteArray × (ByteArray × (ByteArray × (Int × ((List ByteArray) × ByteArray)))))))) (v0_2 : Int) (v0_3 : ((List Bool) × ((List Bool) × ((List Bool) × (List ByteArray))))) (v0_16 : (List ByteArray)) (v0_17 : Int) (x0_18 : Int) : Option (Bool ⊕ Unit) :=
 Zl (fun (x : Int) => Qb.s0 v0_1 v0_2 v0_3 v0_16 v0_17 x) x0_18
noncomputable def Qb.e0 : Ent where
 pre := []
 inv := [(1, .val (.slice (.pair .str (.pair .str (.pair .str (.pair .str (.pair (.int .i64) (.pair (.slice .str) .str)))))))), (2, .val (.int .i64)), (3, .rp (.pair (.slice .bool) (.pair (.slice .bool) (.pair (.slice .bool) (.slice .str))))), (16, .val (.slice .str)), (17, .val (.int .i64))]
 car := ⟨[(18, .val (.int .i64))], []⟩
 exits := [(.ret, ⟨[(6, .val .bool)], []⟩), (.exit 0, ⟨[], []⟩)]
 step := fun iv x => Qb.s0 iv.1 iv.2.1 iv.2.2.1 iv.2.2.2.1 iv.2.2.2.2 x
noncomputable def Qb.f (a0 : ((List Bool) × ((List Bool) × ((List Bool) × (List ByteArray))))) (a1 : (List (ByteArray × (ByteArray × (ByteArray × (ByteArray × (Int × ((List ByteArray) × ByteArray)))))))) (a2 : Int) : Option Bool :=
 (ck (0 ≤ a2 ∧ a2 < ((List.length a1 : Nat) : Int)) (let y1 : (List ByteArray) := (rd (ByteArray.empty, (ByteArray.empty, (ByteArray.empty, (ByteArray.empty, ((0 : Int), (([] : (List ByteArray)), ByteArray.empty)))))) a1 a2).2.2.2.2.2.1; (let y2 : Int := ((List.length y1 : Nat) : Int); (ob (Qb.l0 a1 a2 a0 y1 y2 (0 : Int)) fun r9 => (Z22 r9 (fun a10 => (some a10)) (fun b11 => (some false)))))))
noncomputable def Qb.fn : TFn := ⟨[(.pair (.slice .bool) (.pair (.slice .bool) (.pair (.slice .bool) (.slice .str)))), (.slice (.pair .str (.pair .str (.pair .str (.pair .str (.pair (.int .i64) (.pair (.slice .str) .str))))))), (.int .i64)], [.bool], fun x => Qb.f x.1 x.2.1 x.2.2⟩
noncomputable def Qb.C : Cx := ⟨T, TYt, lkF [], lkO [], lkD [(9, 18, [(0, true), (1, true), (2, true), (3, true), (4, true), (5, true), (6, true), (7, true), (8, true), (9, true), (10, true), (11, true), (12, true), (13, true), (14, true), (15, true), (16, true), (17, true)], none)], lkP [], [3], [], false, [], [], lkS [], 57⟩
theorem Qb.hC : CxOK Tryz.prog Qb.C := cxq FsOK.nil
noncomputable def Qb.root : Code := Z6 Tryz.f157
theorem Qb.h1 : LsOK Tryz.prog Qb.C Qb.root (lkL [([0, 1, 0, 1, 1, 0, 0, 1, 1, 0, 0, 1, 0, 1], Qb.e1)]) :=
 LsOK.cons Qb.hC (LsOK.nil) (by kernel_rfl) (fun iv x => by kernel_rfl)
theorem Qb.h0 : LsOK Tryz.prog Qb.C Qb.root (lkL [([0, 1, 0, 1], Qb.e0), ([0, 1, 0, 1, 1, 0, 0, 1, 1, 0, 0, 1, 0, 1], Qb.e1)]) :=
 LsOK.cons Qb.hC (Qb.h1) (by kernel_rfl) (fun iv x => by kernel_rfl)
theorem Qb.ok : FnOK Tryz.prog 157 Qb.fn := .qq Qb.root Qb.hC Tryz.func157 (lkL [([0, 1, 0, 1], Qb.e0), ([0, 1, 0, 1, 1, 0, 0, 1, 1, 0, 0, 1, 0, 1], Qb.e1)]) [.tmp 6] Qb.h0 fun x => by kernel_rfl
noncomputable def Q1.s0 (v0_0 : (List (ByteArray × (ByteArray × (ByteArray × (ByteArray × (Int × ((List ByteArray) × ByteArray)))))))) (v0_21 : (List (Int × (ByteArray × Int)))) (v0_22 : Int) (x0_23 : Int) (o0_1 : (List Bool)) (o0_2 : (List Bool)) (o0_3 : (List Bool)) : Option ((Int × ((List Bool) × ((List Bool) × (List Bool)))) ⊕ ((List Bool) × ((List Bool) × (List Bool)))) :=
 (cb (decide (x0_23 < v0_22)) (ck (0 ≤ x0_23 ∧ x0_23 < ((List.length v0_21 : Nat) : Int)) (let y4 : (Int × (ByteArray × Int)) := (rd ((0 : Int), (ByteArray.empty, (0 : Int))) v0_21 x0_23); (ck (0 ≤ y4.1 ∧ y4.1 < ((List.length o0_1 : Nat) : Int)) (ck ((Int.toNat y4.1) < List.length o0_1) (ck (0 ≤ y4.1 ∧ y4.1 < ((List.length o0_2 : Nat) : Int)) (ck ((Int.toNat y4.1) < List.length o0_2) (cb (List.getD o0_2 (Int.toNat y4.1) false) (ck (0 ≤ y4.1 ∧ y4.1 < ((List.length o0_2 : Nat) : Int)) (ck ((Int.toNat y4.1) < List.length o0_2) (ck (InR (x0_23 + (1 : Int))) (some (.inl ((x0_23 + (1 : Int)), (List.set o0_1 (Int.toNat y4.1) true), (List.set o0_2 (Int.toNat y4.1) true), o0_3)))))) (ck (0 ≤ y4.1 ∧ y4.1 < ((List.length v0_0 : Nat) : Int)) (let y5 : ByteArray := (rd (ByteArray.empty, (ByteArray.empty, (ByteArray.empty, (ByteArray.empty, ((0 : Int), (([] : (List ByteArray)), ByteArray.empty)))))) v0_0 y4.1).2.2.1; (ck (0 ≤ y4.1 ∧ y4.1 < ((List.length o0_2 : Nat) : Int)) (ck ((Int.toNat y4.1) < List.length o0_2) (ck (InR (x0_23 + (1 : Int))) (some (.inl ((x0_23 + (1 : Int)), (List.set o0_1 (Int.toNat y4.1) true), (List.set o0_2 (Int.toNat y4.1) (!decide (y4.2.1 = y5))), o0_3))))))))))))))) (some (.inr (o0_1, o0_2, o0_3))))
noncomputable def Q1.l0 (v0_0 : (List (ByteArray × (ByteArray × (ByteArray × (ByteArray × (Int × ((List ByteArray) × ByteArray)))))))) (v0_21 : (List (Int × (ByteArray × Int)))) (v0_22 : Int) (x0_23 : Int) (o0_1 : (List Bool)) (o0_2 : (List Bool)) (o0_3 : (List Bool)) : Option ((List Bool) × ((List Bool) × (List Bool))) :=
 Zl (fun (x : (Int × ((List Bool) × ((List Bool) × (List Bool))))) => Q1.s0 v0_0 v0_21 v0_22 x.1 x.2.1 x.2.2.1 x.2.2.2) (x0_23, o0_1, o0_2, o0_3)
noncomputable def Q1.e0 : Ent where
 pre := []
 inv := [(0, .val (.slice (.pair .str (.pair .str (.pair .str (.pair .str (.pair (.int .i64) (.pair (.slice .str) .str)))))))), (21, .val (.slice (.pair (.int .i64) (.pair .str (.int .i64))))), (22, .val (.int .i64))]
 car := ⟨[(4, .ptr 0 4), (5, .ptr 4 4), (23, .val (.int .i64))], [.box 123 [.nil, .nil, .nil, .nil], .row 4 .bool, .row 4 .bool, .row 4 .bool, .box 123 [.own 1 1, .own 2 1, .own 3 1, .nil]]⟩
 exits := [(.exit 0, ⟨[(4, .ptr 0 4), (5, .ptr 4 4)], [.box 123 [.nil, .nil, .nil, .nil], .row 4 .bool, .row 4 .bool, .row 4 .bool, .box 123 [.own 1 1, .own 2 1, .own 3 1, .nil]]⟩)]
 step := fun iv x => Q1.s0 iv.1 iv.2.1 iv.2.2 x.1 x.2.1 x.2.2.1 x.2.2.2
noncomputable def Q1.s1 (v1_55 : (List (ByteArray × (ByteArray × (ByteArray × (ByteArray × (Int × ((List ByteArray) × ByteArray)))))))) (v1_56 : Int) (x1_57 : Int) (o1_1 : (List Bool)) (o1_2 : (List Bool)) (o1_3 : (List Bool)) (o1_5 : (List ByteArray)) (o1_6 : (List ByteArray)) : Option ((Int × ((List Bool) × ((List Bool) × ((List Bool) × ((List ByteArray) × (List ByteArray)))))) ⊕ ((List Bool) × ((List Bool) × ((List Bool) × ((List ByteArray) × (List ByteArray)))))) :=
 (cb (decide (x1_57 < v1_56)) (ck (0 ≤ x1_57 ∧ x1_57 < ((List.length v1_55 : Nat) : Int)) (let y9 : (ByteArray × (ByteArray × (ByteArray × (ByteArray × (Int × ((List ByteArray) × ByteArray)))))) := (rd (ByteArray.empty, (ByteArray.empty, (ByteArray.empty, (ByteArray.empty, ((0 : Int), (([] : (List ByteArray)), ByteArray.empty)))))) v1_55 x1_57); (ck (0 ≤ x1_57 ∧ x1_57 < ((List.length o1_2 : Nat) : Int)) (ck ((Int.toNat x1_57) < List.length o1_2) (cb (List.getD o1_2 (Int.toNat x1_57) false) (ck ((List.length o1_6 + List.length ([y9.2.2.2.1] : List ByteArray)) * 16 ≤ 140737488355328) (ck (InR (x1_57 + (1 : Int))) (some (.inl ((x1_57 + (1 : Int)), o1_1, o1_2, o1_3, o1_5, (o1_6 ++ ([y9.2.2.2.1] : List ByteArray))))))) (ck (InR (x1_57 + (1 : Int))) (some (.inl ((x1_57 + (1 : Int)), o1_1, o1_2, o1_3, o1_5, o1_6))))))))) (some (.inr (o1_1, o1_2, o1_3, o1_5, o1_6))))
noncomputable def Q1.l1 (v1_55 : (List (ByteArray × (ByteArray × (ByteArray × (ByteArray × (Int × ((List ByteArray) × ByteArray)))))))) (v1_56 : Int) (x1_57 : Int) (o1_1 : (List Bool)) (o1_2 : (List Bool)) (o1_3 : (List Bool)) (o1_5 : (List ByteArray)) (o1_6 : (List ByteArray)) : Option ((List Bool) × ((List Bool) × ((List Bool) × ((List ByteArray) × (List ByteArray))))) :=
 Zl (fun (x : (Int × ((List Bool) × ((List Bool) × ((List Bool) × ((List ByteArray) × (List ByteArray))))))) => Q1.s1 v1_55 v1_56 x.1 x.2.1 x.2.2.1 x.2.2.2.1 x.2.2.2.2.1 x.2.2.2.2.2) (x1_57, o1_1, o1_2, o1_3, o1_5, o1_6)
noncomputable def Q1.e1 : Ent where
 pre := [.nilB 0 3 9 .str, .nilB 4 3 9 .str]
 inv := [(0, .val (.slice (.pair .str (.pair .str (.pair .str (.pair .str (.pair (.int .i64) (.pair (.slice .str) .str)))))))), (55, .val (.slice (.pair .str (.pair .str (.pair .str (.pair .str (.pair (.int .i64) (.pair (.slice .str) .str)))))))), (56, .val (.int .i64))]
 car := ⟨[(4, .ptr 0 4), (5, .ptr 4 4), (57, .val (.int .i64))], [.box 123 [.nil, .nil, .nil, .own 5 1], .row 4 .bool, .row 4 .bool, .row 4 .bool, .box 123 [.own 1 1, .own 2 1, .own 3 1, .own 6 1], .row 9 .str, .row 9 .str]⟩
 exits := [(.exit 2, ⟨[(4, .ptr 0 4), (5, .ptr 4 4)], [.box 123 [.nil, .nil, .nil, .own 5 1], .row 4 .bool, .row 4 .bool, .row 4 .bool, .box 123 [.own 1 1, .own 2 1, .own 3 1, .own 6 1], .row 9 .str, .row 9 .str]⟩)]
 step := fun iv x => Q1.s1 iv.2.1 iv.2.2 x.1 x.2.1 x.2.2.1 x.2.2.2.1 x.2.2.2.2.1 x.2.2.2.2.2
noncomputable def Q1.s2 (v2_0 : (List (ByteArray × (ByteArray × (ByteArray × (ByteArray × (Int × ((List ByteArray) × ByteArray)))))))) (v2_83 : Int) (x2_84 : Int) (o2_1 : (List Bool)) (o2_2 : (List Bool)) (o2_3 : (List Bool)) (o2_5 : (List ByteArray)) (o2_6 : (List ByteArray)) : Option ((Int × ((List Bool) × ((List Bool) × ((List Bool) × ((List ByteArray) × (List ByteArray)))))) ⊕ ((List Bool) × ((List Bool) × ((List Bool) × ((List ByteArray) × (List ByteArray)))))) :=
 (cb (decide (x2_84 < v2_83)) (ck (0 ≤ x2_84 ∧ x2_84 < ((List.length o2_2 : Nat) : Int)) (ck ((Int.toNat x2_84) < List.length o2_2) (cb (List.getD o2_2 (Int.toNat x2_84) false) (ck (0 ≤ x2_84 ∧ x2_84 < ((List.length o2_3 : Nat) : Int)) (ck ((Int.toNat x2_84) < List.length o2_3) (ck (InR (x2_84 + (1 : Int))) (some (.inl ((x2_84 + (1 : Int)), o2_1, o2_2, (List.set o2_3 (Int.toNat x2_84) true), o2_5, o2_6)))))) (ob (Q5.f (o2_1, (o2_2, (o2_3, o2_6))) v2_0 x2_84) fun r14 => (cb r14 (ck (0 ≤ x2_84 ∧ x2_84 < ((List.length o2_3 : Nat) : Int)) (ck ((Int.toNat x2_84) < List.length o2_3) (ck (InR (x2_84 + (1 : Int))) (some (.inl ((x2_84 + (1 : Int)), o2_1, o2_2, (List.set o2_3 (Int.toNat x2_84) true), o2_5, o2_6)))))) (ob (Qb.f (o2_1, (o2_2, (o2_3, o2_6))) v2_0 x2_84) fun r15 => (ck (0 ≤ x2_84 ∧ x2_84 < ((List.length o2_3 : Nat) : Int)) (ck ((Int.toNat x2_84) < List.length o2_3) (ck (InR (x2_84 + (1 : Int))) (some (.inl ((x2_84 + (1 : Int)), o2_1, o2_2, (List.set o2_3 (Int.toNat x2_84) r15), o2_5, o2_6)))))))))))) (some (.inr (o2_1, o2_2, o2_3, o2_5, o2_6))))
noncomputable def Q1.l2 (v2_0 : (List (ByteArray × (ByteArray × (ByteArray × (ByteArray × (Int × ((List ByteArray) × ByteArray)))))))) (v2_83 : Int) (x2_84 : Int) (o2_1 : (List Bool)) (o2_2 : (List Bool)) (o2_3 : (List Bool)) (o2_5 : (List ByteArray)) (o2_6 : (List ByteArray)) : Option ((List Bool) × ((List Bool) × ((List Bool) × ((List ByteArray) × (List ByteArray))))) :=
 Zl (fun (x : (Int × ((List Bool) × ((List Bool) × ((List Bool) × ((List ByteArray) × (List ByteArray))))))) => Q1.s2 v2_0 v2_83 x.1 x.2.1 x.2.2.1 x.2.2.2.1 x.2.2.2.2.1 x.2.2.2.2.2) (x2_84, o2_1, o2_2, o2_3, o2_5, o2_6)
noncomputable def Q1.e2 : Ent where
 pre := []
 inv := [(0, .val (.slice (.pair .str (.pair .str (.pair .str (.pair .str (.pair (.int .i64) (.pair (.slice .str) .str)))))))), (83, .val (.int .i64))]
 car := ⟨[(4, .ptr 0 4), (5, .ptr 4 4), (84, .val (.int .i64))], [.box 123 [.nil, .nil, .nil, .own 5 1], .row 4 .bool, .row 4 .bool, .row 4 .bool, .box 123 [.own 1 1, .own 2 1, .own 3 1, .own 6 1], .row 9 .str, .row 9 .str]⟩
 exits := [(.exit 4, ⟨[(4, .ptr 0 4), (5, .ptr 4 4)], [.box 123 [.nil, .nil, .nil, .own 5 1], .row 4 .bool, .row 4 .bool, .row 4 .bool, .box 123 [.own 1 1, .own 2 1, .own 3 1, .own 6 1], .row 9 .str, .row 9 .str]⟩)]
 step := fun iv x => Q1.s2 iv.1 iv.2 x.1 x.2.1 x.2.2.1 x.2.2.2.1 x.2.2.2.2.1 x.2.2.2.2.2
noncomputable def Q1.f (a0 : (List (ByteArray × (ByteArray × (ByteArray × (ByteArray × (Int × ((List ByteArray) × ByteArray)))))))) (a1 : (List (Int × (ByteArray × Int)))) : Option ((List Bool) × ((List Bool) × ((List Bool) × (List ByteArray)))) :=
 (both (ck (0 ≤ ((List.length a0 : Nat) : Int) ∧ ((List.length a0 : Nat) : Int) * (1 : Int) ≤ 140737488355328) (both (ck (0 ≤ ((List.length a0 : Nat) : Int) ∧ ((List.length a0 : Nat) : Int) * (1 : Int) ≤ 140737488355328) (mix (.node .leaf .leaf) (ck (0 ≤ ((List.length a0 : Nat) : Int) ∧ ((List.length a0 : Nat) : Int) * (1 : Int) ≤ 140737488355328) (let y1 : Int := ((List.length a1 : Nat) : Int); (ob (Q1.l0 a0 a1 y1 (0 : Int) (List.replicate (Int.toNat ((List.length a0 : Nat) : Int)) false) (List.replicate (Int.toNat ((List.length a0 : Nat) : Int)) false) (List.replicate (Int.toNat ((List.length a0 : Nat) : Int)) false)) fun r6 => (let y7 : Int := ((List.length a0 : Nat) : Int); (ob (Q1.l1 a0 y7 (0 : Int) r6.1 r6.2.1 r6.2.2 ([] : List ByteArray) ([] : List ByteArray)) fun r10 => (ck (Option.isSome (Z0 r10.2.2.2.2) = true) (ck (Option.isSome (Z2 (Option.getD (Z0 r10.2.2.2.2) [])) = true) (let y11 : Int := ((List.length a0 : Nat) : Int); (ob (Q1.l2 a0 y11 (0 : Int) r10.1 r10.2.1 r10.2.2.1 r10.2.2.2.1 (List.take (List.length (Zs (Option.getD (Z0 r10.2.2.2.2) []))) (Option.getD (Z2 (Option.getD (Z0 r10.2.2.2.2) [])) []))) fun r16 => (some (r16.1, (r16.2.1, (r16.2.2.1, r16.2.2.2.2))))))))))))))) (both (ck (0 ≤ ((List.length a0 : Nat) : Int) ∧ ((List.length a0 : Nat) : Int) * (1 : Int) ≤ 140737488355328) (mix (.node .leaf .leaf) (ck (0 ≤ ((List.length a0 : Nat) : Int) ∧ ((List.length a0 : Nat) : Int) * (1 : Int) ≤ 140737488355328) (let y1 : Int := ((List.length a1 : Nat) : Int); (ob (Q1.l0 a0 a1 y1 (0 : Int) (List.replicate (Int.toNat ((List.length a0 : Nat) : Int)) false) (List.replicate (Int.toNat ((List.length a0 : Nat) : Int)) false) (List.replicate (Int.toNat ((List.length a0 : Nat) : Int)) false)) fun r2 => (let y3 : Int := ((List.length a0 : Nat) : Int); (ob (Q1.l1 a0 y3 (0 : Int) r2.1 r2.2.1 r2.2.2 ([] : List ByteArray) ([] : List ByteArray)) fun r4 => (ck (Option.isSome (Z0 r4.2.2.2.2) = true) (ck (Option.isSome (Z2 (Option.getD (Z0 r4.2.2.2.2) [])) = true) (let y5 : Int := ((List.length a0 : Nat) : Int); (ob (Q1.l2 a0 y5 (0 : Int) r4.1 r4.2.1 r4.2.2.1 r4.2.2.2.1 (List.take (List.length (Zs (Option.getD (Z0 r4.2.2.2.2) []))) (Option.getD (Z2 (Option.getD (Z0 r4.2.2.2.2) [])) []))) fun r6 => (some (r6.1, (r6.2.1, (r6.2.2.1, r6.2.2.2.2))))))))))))))) (mix (.node .leaf .leaf) (ck (0 ≤ ((List.length a0 : Nat) : Int) ∧ ((List.length a0 : Nat) : Int) * (1 : Int) ≤ 140737488355328) (ck (0 ≤ ((List.length a0 : Nat) : Int) ∧ ((List.length a0 : Nat) : Int) * (1 : Int) ≤ 140737488355328) (let y1 : Int := ((List.length a1 : Nat) : Int); (ob (Q1.l0 a0 a1 y1 (0 : Int) (List.replicate (Int.toNat ((List.length a0 : Nat) : Int)) false) (List.replicate (Int.toNat ((List.length a0 : Nat) : Int)) false) (List.replicate (Int.toNat ((List.length a0 : Nat) : Int)) false)) fun r2 => (let y3 : Int := ((List.length a0 : Nat) : Int); (ob (Q1.l1 a0 y3 (0 : Int) r2.1 r2.2.1 r2.2.2 ([] : List ByteArray) ([] : List ByteArray)) fun r4 => (ck (Option.isSome (Z0 r4.2.2.2.2) = true) (ck (Option.isSome (Z2 (Option.getD (Z0 r4.2.2.2.2) [])) = true) (let y5 : Int := ((List.length a0 : Nat) : Int); (ob (Q1.l2 a0 y5 (0 : Int) r4.1 r4.2.1 r4.2.2.1 r4.2.2.2.1 (List.take (List.length (Zs (Option.getD (Z0 r4.2.2.2.2) []))) (Option.getD (Z2 (Option.getD (Z0 r4.2.2.2.2) [])) []))) fun r6 => (some (r6.1, (r6.2.1, (r6.2.2.1, r6.2.2.2.2)))))))))))))))))) (both (ck (0 ≤ ((List.length a0 : Nat) : Int) ∧ ((List.length a0 : Nat) : Int) * (1 : Int) ≤ 140737488355328) (both (ck (0 ≤ ((List.length a0 : Nat) : Int) ∧ ((List.length a0 : Nat) : Int) * (1 : Int) ≤ 140737488355328) (mix (.node .leaf .leaf) (ck (0 ≤ ((List.length a0 : Nat) : Int) ∧ ((List.length a0 : Nat) : Int) * (1 : Int) ≤ 140737488355328) (let y1 : Int := ((List.length a1 : Nat) : Int); (ob (Q1.l0 a0 a1 y1 (0 : Int) (List.replicate (Int.toNat ((List.length a0 : Nat) : Int)) false) (List.replicate (Int.toNat ((List.length a0 : Nat) : Int)) false) (List.replicate (Int.toNat ((List.length a0 : Nat) : Int)) false)) fun r2 => (let y3 : Int := ((List.length a0 : Nat) : Int); (ob (Q1.l1 a0 y3 (0 : Int) r2.1 r2.2.1 r2.2.2 ([] : List ByteArray) ([] : List ByteArray)) fun r4 => (ck (Option.isSome (Z0 r4.2.2.2.2) = true) (ck (Option.isSome (Z2 (Option.getD (Z0 r4.2.2.2.2) [])) = true) (let y5 : Int := ((List.length a0 : Nat) : Int); (ob (Q1.l2 a0 y5 (0 : Int) r4.1 r4.2.1 r4.2.2.1 r4.2.2.2.1 (List.take (List.length (Zs (Option.getD (Z0 r4.2.2.2.2) []))) (Option.getD (Z2 (Option.getD (Z0 r4.2.2.2.2) [])) []))) fun r6 => (some (r6.1, (r6.2.1, (r6.2.2.1, r6.2.2.2.2))))))))))))))) (both (ck (0 ≤ ((List.length a0 : Nat) : Int) ∧ ((List.length a0 : Nat) : Int) * (1 : Int) ≤ 140737488355328) (mix (.node .leaf .leaf) (ck (0 ≤ ((List.length a0 : Nat) : Int) ∧ ((List.length a0 : Nat) : Int) * (1 : Int) ≤ 140737488355328) (let y1 : Int := ((List.length a1 : Nat) : Int); (ob (Q1.l0 a0 a1 y1 (0 : Int) (List.replicate (Int.toNat ((List.length a0 : Nat) : Int)) false) (List.replicate (Int.toNat ((List.length a0 : Nat) : Int)) false) (List.replicate (Int.toNat ((List.length a0 : Nat) : Int)) false)) fun r2 => (let y3 : Int := ((List.length a0 : Nat) : Int); (ob (Q1.l1 a0 y3 (0 : Int) r2.1 r2.2.1 r2.2.2 ([] : List ByteArray) ([] : List ByteArray)) fun r4 => (ck (Option.isSome (Z0 r4.2.2.2.2) = true) (ck (Option.isSome (Z2 (Option.getD (Z0 r4.2.2.2.2) [])) = true) (let y5 : Int := ((List.length a0 : Nat) : Int); (ob (Q1.l2 a0 y5 (0 : Int) r4.1 r4.2.1 r4.2.2.1 r4.2.2.2.1 (List.take (List.length (Zs (Option.getD (Z0 r4.2.2.2.2) []))) (Option.getD (Z2 (Option.getD (Z0 r4.2.2.2.2) [])) []))) fun r6 => (some (r6.1, (r6.2.1, (r6.2.2.1, r6.2.2.2.2))))))))))))))) (mix (.node .leaf .leaf) (ck (0 ≤ ((List.length a0 : Nat) : Int) ∧ ((List.length a0 : Nat) : Int) * (1 : Int) ≤ 140737488355328) (ck (0 ≤ ((List.length a0 : Nat) : Int) ∧ ((List.length a0 : Nat) : Int) * (1 : Int) ≤ 140737488355328) (let y1 : Int := ((List.length a1 : Nat) : Int); (ob (Q1.l0 a0 a1 y1 (0 : Int) (List.replicate (Int.toNat ((List.length a0 : Nat) : Int)) false) (List.replicate (Int.toNat ((List.length a0 : Nat) : Int)) false) (List.replicate (Int.toNat ((List.length a0 : Nat) : Int)) false)) fun r2 => (let y3 : Int := ((List.length a0 : Nat) : Int); (ob (Q1.l1 a0 y3 (0 : Int) r2.1 r2.2.1 r2.2.2 ([] : List ByteArray) ([] : List ByteArray)) fun r4 => (ck (Option.isSome (Z0 r4.2.2.2.2) = true) (ck (Option.isSome (Z2 (Option.getD (Z0 r4.2.2.2.2) [])) = true) (let y5 : Int := ((List.length a0 : Nat) : Int); (ob (Q1.l2 a0 y5 (0 : Int) r4.1 r4.2.1 r4.2.2.1 r4.2.2.2.1 (List.take (List.length (Zs (Option.getD (Z0 r4.2.2.2.2) []))) (Option.getD (Z2 (Option.getD (Z0 r4.2.2.2.2) [])) []))) fun r6 => (some (r6.1, (r6.2.1, (r6.2.2.1, r6.2.2.2.2)))))))))))))))))) (both (ck (0 ≤ ((List.length a0 : Nat) : Int) ∧ ((List.length a0 : Nat) : Int) * (1 : Int) ≤ 140737488355328) (both (ck (0 ≤ ((List.length a0 : Nat) : Int) ∧ ((List.length a0 : Nat) : Int) * (1 : Int) ≤ 140737488355328) (mix (.node .leaf .leaf) (ck (0 ≤ ((List.length a0 : Nat) : Int) ∧ ((List.length a0 : Nat) : Int) * (1 : Int) ≤ 140737488355328) (let y1 : Int := ((List.length a1 : Nat) : Int); (ob (Q1.l0 a0 a1 y1 (0 : Int) (List.replicate (Int.toNat ((List.length a0 : Nat) : Int)) false) (List.replicate (Int.toNat ((List.length a0 : Nat) : Int)) false) (List.replicate (Int.toNat ((List.length a0 : Nat) : Int)) false)) fun r2 => (let y3 : Int := ((List.length a0 : Nat) : Int); (ob (Q1.l1 a0 y3 (0 : Int) r2.1 r2.2.1 r2.2.2 ([] : List ByteArray) ([] : List ByteArray)) fun r4 => (ck (Option.isSome (Z0 r4.2.2.2.2) = true) (ck (Option.isSome (Z2 (Option.getD (Z0 r4.2.2.2.2) [])) = true) (let y5 : Int := ((List.length a0 : Nat) : Int); (ob (Q1.l2 a0 y5 (0 : Int) r4.1 r4.2.1 r4.2.2.1 r4.2.2.2.1 (List.take (List.length (Zs (Option.getD (Z0 r4.2.2.2.2) []))) (Option.getD (Z2 (Option.getD (Z0 r4.2.2.2.2) [])) []))) fun r6 => (some (r6.1, (r6.2.1, (r6.2.2.1, r6.2.2.2.2))))))))))))))) (both (ck (0 ≤ ((List.length a0 : Nat) : Int) ∧ ((List.length a0 : Nat) : Int) * (1 : Int) ≤ 140737488355328) (mix (.node .leaf .leaf) (ck (0 ≤ ((List.length a0 : Nat) : Int) ∧ ((List.length a0 : Nat) : Int) * (1 : Int) ≤ 140737488355328) (let y1 : Int := ((List.length a1 : Nat) : Int); (ob (Q1.l0 a0 a1 y1 (0 : Int) (List.replicate (Int.toNat ((List.length a0 : Nat) : Int)) false) (List.replicate (Int.toNat ((List.length a0 : Nat) : Int)) false) (List.replicate (Int.toNat ((List.length a0 : Nat) : Int)) false)) fun r2 => (let y3 : Int := ((List.length a0 : Nat) : Int); (ob (Q1.l1 a0 y3 (0 : Int) r2.1 r2.2.1 r2.2.2 ([] : List ByteArray) ([] : List ByteArray)) fun r4 => (ck (Option.isSome (Z0 r4.2.2.2.2) = true) (ck (Option.isSome (Z2 (Option.getD (Z0 r4.2.2.2.2) [])) = true) (let y5 : Int := ((List.length a0 : Nat) : Int); (ob (Q1.l2 a0 y5 (0 : Int) r4.1 r4.2.1 r4.2.2.1 r4.2.2.2.1 (List.take (List.length (Zs (Option.getD (Z0 r4.2.2.2.2) []))) (Option.getD (Z2 (Option.getD (Z0 r4.2.2.2.2) [])) []))) fun r6 => (some (r6.1, (r6.2.1, (r6.2.2.1, r6.2.2.2.2))))))))))))))) (mix (.node .leaf .leaf) (ck (0 ≤ ((List.length a0 : Nat) : Int) ∧ ((List.length a0 : Nat) : Int) * (1 : Int) ≤ 140737488355328) (ck (0 ≤ ((List.length a0 : Nat) : Int) ∧ ((List.length a0 : Nat) : Int) * (1 : Int) ≤ 140737488355328) (let y1 : Int := ((List.length a1 : Nat) : Int); (ob (Q1.l0 a0 a1 y1 (0 : Int) (List.replicate (Int.toNat ((List.length a0 : Nat) : Int)) false) (List.replicate (Int.toNat ((List.length a0 : Nat) : Int)) false) (List.replicate (Int.toNat ((List.length a0 : Nat) : Int)) false)) fun r2 => (let y3 : Int := ((List.length a0 : Nat) : Int); (ob (Q1.l1 a0 y3 (0 : Int) r2.1 r2.2.1 r2.2.2 ([] : List ByteArray) ([] : List ByteArray)) fun r4 => (ck (Option.isSome (Z0 r4.2.2.2.2) = true) (ck (Option.isSome (Z2 (Option.getD (Z0 r4.2.2.2.2) [])) = true) (let y5 : Int := ((List.length a0 : Nat) : Int); (ob (Q1.l2 a0 y5 (0 : Int) r4.1 r4.2.1 r4.2.2.1 r4.2.2.2.1 (List.take (List.length (Zs (Option.getD (Z0 r4.2.2.2.2) []))) (Option.getD (Z2 (Option.getD (Z0 r4.2.2.2.2) [])) []))) fun r6 => (some (r6.1, (r6.2.1, (r6.2.2.1, r6.2.2.2.2)))))))))))))))))) (mix (.node .leaf (.node .leaf .leaf)) (ck (0 ≤ ((List.length a0 : Nat) : Int) ∧ ((List.length a0 : Nat) : Int) * (1 : Int) ≤ 140737488355328) (mix (.node .leaf .leaf) (ck (0 ≤ ((List.length a0 : Nat) : Int) ∧ ((List.length a0 : Nat) : Int) * (1 : Int) ≤ 140737488355328) (ck (0 ≤ ((List.length a0 : Nat) : Int) ∧ ((List.length a0 : Nat) : Int) * (1 : Int) ≤ 140737488355328) (let y1 : Int := ((List.length a1 : Nat) : Int); (ob (Q1.l0 a0 a1 y1 (0 : Int) (List.replicate (Int.toNat ((List.length a0 : Nat) : Int)) false) (List.replicate (Int.toNat ((List.length a0 : Nat) : Int)) false) (List.replicate (Int.toNat ((List.length a0 : Nat) : Int)) false)) fun r2 => (let y3 : Int := ((List.length a0 : Nat) : Int); (ob (Q1.l1 a0 y3 (0 : Int) r2.1 r2.2.1 r2.2.2 ([] : List ByteArray) ([] : List ByteArray)) fun r4 => (ck (Option.isSome (Z0 r4.2.2.2.2) = true) (ck (Option.isSome (Z2 (Option.getD (Z0 r4.2.2.2.2) [])) = true) (let y5 : Int := ((List.length a0 : Nat) : Int); (ob (Q1.l2 a0 y5 (0 : Int) r4.1 r4.2.1 r4.2.2.1 r4.2.2.2.1 (List.take (List.length (Zs (Option.getD (Z0 r4.2.2.2.2) []))) (Option.getD (Z2 (Option.getD (Z0 r4.2.2.2.2) [])) []))) fun r6 => (some (r6.1, (r6.2.1, (r6.2.2.1, r6.2.2.2.2))))))))))))))))))))
noncomputable def Q1.fn : TFn := ⟨[(.slice (.pair .str (.pair .str (.pair .str (.pair .str (.pair (.int .i64) (.pair (.slice .str) .str))))))), (.slice (.pair (.int .i64) (.pair .str (.int .i64))))], [(.pair (.slice .bool) (.pair (.slice .bool) (.pair (.slice .bool) (.slice .str))))], fun x => Q1.f x.1 x.2⟩
noncomputable def Q1.C : Cx := ⟨T, TYt, lkF [((156, [0, 0, 0]), Q5.fn), ((157, [0, 0, 0]), Qb.fn)], lkO [], lkD [(6, 21, [(0, true), (1, true), (2, true), (3, true), (4, true), (5, true), (6, true), (7, true), (8, true), (9, true), (10, true), (11, true), (12, true), (13, true), (14, true), (15, true), (16, true), (17, true), (18, true), (19, true), (20, true)], none), (19, 20, [(0, true), (1, true), (2, true), (3, true), (4, true), (5, true), (6, true), (7, true), (8, true), (9, true), (10, true), (11, true), (12, false), (13, true), (14, true), (15, true), (16, true), (17, true), (18, false), (19, true)], none)], lkP [(1, 11, (.take 0 (.take 1 (.take 3 (.take 4 (.take 6 (.take 7 (.alt 2 (.alt 5 (.alt 8 (.take 9 (.alt 10 .done .no)) (.alt 10 (.alt 8 (.take 9 (.swp 2 .done)) .no) .no)) (.alt 8 (.alt 5 (.take 9 (.alt 10 (.swp 3 .done) .no)) (.alt 10 (.alt 5 (.take 9 (.swp 2 (.swp 3 .done))) .no) .no)) (.alt 10 (.alt 5 (.alt 8 (.take 9 (.swp 3 (.swp 2 .done))) .no) (.alt 8 (.alt 5 (.take 9 (.swp 3 (.swp 2 (.swp 3 .done)))) .no) .no)) .no))) (.alt 5 (.alt 2 (.alt 8 (.take 9 (.alt 10 (.swp 4 .done) .no)) (.alt 10 (.alt 8 (.take 9 (.swp 4 (.swp 2 .done))) .no) .no)) (.alt 8 (.alt 2 (.take 9 (.alt 10 (.swp 3 (.swp 4 .done)) .no)) (.alt 10 (.alt 2 (.take 9 (.swp 2 (.swp 3 (.swp 4 .done)))) .no) .no)) (.alt 10 (.alt 2 (.alt 8 (.take 9 (.swp 3 (.swp 2 (.swp 4 .done)))) .no) (.alt 8 (.alt 2 (.take 9 (.swp 3 (.swp 2 (.swp 3 (.swp 4 .done))))) .no) .no)) .no))) (.alt 8 (.alt 2 (.alt 5 (.take 9 (.alt 10 (.swp 4 (.swp 3 .done)) .no)) (.alt 10 (.alt 5 (.take 9 (.swp 4 (.swp 2 (.swp 3 .done)))) .no) .no)) (.alt 5 (.alt 2 (.take 9 (.alt 10 (.swp 4 (.swp 3 (.swp 4 .done))) .no)) (.alt 10 (.alt 2 (.take 9 (.swp 4 (.swp 2 (.swp 3 (.swp 4 .done))))) .no) .no)) (.alt 10 (.alt 2 (.alt 5 (.take 9 (.swp 3 (.swp 2 (.swp 4 (.swp 3 .done))))) .no) (.alt 5 (.alt 2 (.take 9 (.swp 3 (.swp 2 (.swp 4 (.swp 3 (.swp 4 .done)))))) .no) .no)) .no))) (.alt 10 (.alt 2 (.alt 5 (.alt 8 (.take 9 (.swp 4 (.swp 3 (.swp 2 .done)))) .no) (.alt 8 (.alt 5 (.take 9 (.swp 4 (.swp 3 (.swp 2 (.swp 3 .done))))) .no) .no)) (.alt 5 (.alt 2 (.alt 8 (.take 9 (.swp 4 (.swp 3 (.swp 2 (.swp 4 .done))))) .no) (.alt 8 (.alt 2 (.take 9 (.swp 4 (.swp 3 (.swp 2 (.swp 3 (.swp 4 .done)))))) .no) .no)) (.alt 8 (.alt 2 (.alt 5 (.take 9 (.swp 4 (.swp 3 (.swp 2 (.swp 4 (.swp 3 .done)))))) .no) (.alt 5 (.alt 2 (.take 9 (.swp 4 (.swp 3 (.swp 2 (.swp 4 (.swp 3 (.swp 4 .done))))))) .no) .no)) .no))) .no)))))))))))], [7, 9], [], false, [], [], lkS [((47, 1000000), srt_47_1000000), ((48, 1000000), srt_48_1000000)], 110⟩
theorem Q1.hC : CxOK Tryz.prog Q1.C := ⟨tabOK, FsOK.cons Q5.ok (FsOK.cons Qb.ok (FsOK.nil)), OsOK.nil, mixed, (fun t h => by cases h), (fun t e h => by cases h), (SsOK.cons srt_47_1000000_ok ((SsOK.cons srt_48_1000000_ok (SsOK.nil))))⟩
noncomputable def Q1.root : Code := Z6 Tryz.f101
theorem Q1.h0 : LsOK Tryz.prog Q1.C Q1.root (lkL [([0, 1, 0, 1, 1], Q1.e0)]) :=
 LsOK.cons Q1.hC (LsOK.nil) (by kernel_rfl) (fun iv x => by kernel_rfl)
theorem Q1.h1 : LsOK Tryz.prog Q1.C Q1.root (lkL [([0, 1, 0, 1, 1, 1], Q1.e1), ([0, 1, 0, 1, 1], Q1.e0)]) :=
 LsOK.cons Q1.hC (Q1.h0) (by kernel_rfl) (fun iv x => by kernel_rfl)
theorem Q1.h2 : LsOK Tryz.prog Q1.C Q1.root (lkL [([0, 1, 0, 1, 1, 1, 1, 1, 1], Q1.e2), ([0, 1, 0, 1, 1, 1], Q1.e1), ([0, 1, 0, 1, 1], Q1.e0)]) :=
 LsOK.cons Q1.hC (Q1.h1) (by kernel_rfl) (fun iv x => by kernel_rfl)
theorem Q1.ok : FnOK Tryz.prog 101 Q1.fn := .qq Q1.root Q1.hC Tryz.func101 (lkL [([0, 1, 0, 1, 1, 1, 1, 1, 1], Q1.e2), ([0, 1, 0, 1, 1, 1], Q1.e1), ([0, 1, 0, 1, 1], Q1.e0)]) [.cell 4 123] Q1.h2 fun x => by kernel_rfl
noncomputable def Qg.s0 (v0_0 : (List Int)) (v0_1 : (List Int)) (v0_12 : Int) (x0_13 : Int) : Option (Int ⊕ (Bool ⊕ Unit)) :=
 (cb (decide (x0_13 < v0_12)) (ck (0 ≤ x0_13 ∧ x0_13 < ((List.length v0_0 : Nat) : Int)) (let y6 : Int := (rd (0 : Int) v0_0 x0_13); (ck (0 ≤ x0_13 ∧ x0_13 < ((List.length v0_1 : Nat) : Int)) (let y7 : Int := (rd (0 : Int) v0_1 x0_13); (cb (!decide (y6 = y7)) (some (.inr (.inl false))) (ck (InR (x0_13 + (1 : Int))) (some (.inl (x0_13 + (1 : Int)))))))))) (some (.inr (.inr ()))))
noncomputable def Qg.l0 (v0_0 : (List Int)) (v0_1 : (List Int)) (v0_12 : Int) (x0_13 : Int) : Option (Bool ⊕ Unit) :=
 Zl (fun (x : Int) => Qg.s0 v0_0 v0_1 v0_12 x) x0_13
noncomputable def Qg.e0 : Ent where
 pre := []
 inv := [(0, .val (.slice (.int .i64))), (1, .val (.slice (.int .i64))), (12, .val (.int .i64))]
 car := ⟨[(13, .val (.int .i64))], []⟩
 exits := [(.ret, ⟨[(4, .val .bool)], []⟩), (.exit 0, ⟨[], []⟩)]
 step := fun iv x => Qg.s0 iv.1 iv.2.1 iv.2.2 x
noncomputable def Qg.f (a0 : (List Int)) (a1 : (List Int)) : Option Bool :=
 (let y1 : Int := ((List.length a0 : Nat) : Int); (let y2 : Int := ((List.length a1 : Nat) : Int); (cb (!decide (y1 = y2)) (some false) (let y3 : Int := ((List.length a0 : Nat) : Int); (ob (Qg.l0 a0 a1 y3 (0 : Int)) fun r8 => (Z22 r8 (fun a9 => (some a9)) (fun b10 => (some true))))))))
noncomputable def Qg.fn : TFn := ⟨[(.slice (.int .i64)), (.slice (.int .i64))], [.bool], fun x => Qg.f x.1 x.2⟩
noncomputable def Qg.C : Cx := ⟨T, TYt, lkF [], lkO [], lkD [(6, 8, [(0, true), (1, true), (2, true), (3, true), (4, true), (5, true), (6, true), (7, true)], none)], lkP [], [], [], false, [], [], lkS [], 26⟩
theorem Qg.hC : CxOK Tryz.prog Qg.C := cxq FsOK.nil
noncomputable def Qg.root : Code := Z6 Tryz.f52
theorem Qg.h0 : LsOK Tryz.prog Qg.C Qg.root (lkL [([0, 1, 0, 1, 1], Qg.e0)]) :=
 LsOK.cons Qg.hC (LsOK.nil) (by kernel_rfl) (fun iv x => by kernel_rfl)
theorem Qg.ok : FnOK Tryz.prog 52 Qg.fn := .qq Qg.root Qg.hC Tryz.func52 (lkL [([0, 1, 0, 1, 1], Qg.e0)]) [.tmp 4] Qg.h0 fun x => by kernel_rfl
noncomputable def Q1e.s0 (v0_6 : (List Bool)) (v0_7 : Int) (x0_8 : Int) (o0_0 : (List Int)) : Option ((Int × (List Int)) ⊕ (List Int)) :=
 (cb (decide (x0_8 < v0_7)) (ck (0 ≤ x0_8 ∧ x0_8 < ((List.length v0_6 : Nat) : Int)) (cb (rd false v0_6 x0_8) (ck ((List.length o0_0 + List.length ([x0_8] : List Int)) * 8 ≤ 140737488355328) (ck (InR (x0_8 + (1 : Int))) (some (.inl ((x0_8 + (1 : Int)), (o0_0 ++ ([x0_8] : List Int))))))) (ck (InR (x0_8 + (1 : Int))) (some (.inl ((x0_8 + (1 : Int)), o0_0)))))) (some (.inr o0_0)))
noncomputable def Q1e.l0 (v0_6 : (List Bool)) (v0_7 : Int) (x0_8 : Int) (o0_0 : (List Int)) : Option (List Int) :=
 Zl (fun (x : (Int × (List Int))) => Q1e.s0 v0_6 v0_7 x.1 x.2) (x0_8, o0_0)
noncomputable def Q1e.e0 : Ent where
 pre := [.nil 3 3 (.int .i64)]
 inv := [(6, .val (.slice .bool)), (7, .val (.int .i64))]
 car := ⟨[(3, .own 0 1), (8, .val (.int .i64))], [.row 3 (.int .i64)]⟩
 exits := [(.exit 0, ⟨[(3, .own 0 1)], [.row 3 (.int .i64)]⟩)]
 step := fun iv x => Q1e.s0 iv.1 iv.2 x.1 x.2
noncomputable def Q1e.f (a0 : (List Bool)) : Option (List Int) :=
 (let y1 : Int := ((List.length a0 : Nat) : Int); (ob (Q1e.l0 a0 y1 (0 : Int) ([] : List Int)) fun r2 => (some r2)))
noncomputable def Q1e.fn : TFn := ⟨[(.slice .bool)], [(.slice (.int .i64))], fun x => Q1e.f x⟩
noncomputable def Q1e.C : Cx := cxC [] 20
theorem Q1e.hC : CxOK Tryz.prog Q1e.C := cxq FsOK.nil
noncomputable def Q1e.root : Code := Z6 Tryz.f102
theorem Q1e.h0 : LsOK Tryz.prog Q1e.C Q1e.root (lkL [([0, 1, 0, 1, 1], Q1e.e0)]) :=
 LsOK.cons Q1e.hC (LsOK.nil) (by kernel_rfl) (fun iv x => by kernel_rfl)
theorem Q1e.ok : FnOK Tryz.prog 102 Q1e.fn := .qq Q1e.root Q1e.hC Tryz.func102 (lkL [([0, 1, 0, 1, 1], Q1e.e0)]) [.tmp 2] Q1e.h0 fun x => by kernel_rfl
noncomputable def Q1t.f (a0 : (ByteArray × (ByteArray × (ByteArray × (ByteArray × (Int × ((List ByteArray) × ByteArray))))))) (a1 : (ByteArray × (ByteArray × (ByteArray × (ByteArray × (Int × ((List ByteArray) × ByteArray))))))) : Option Bool :=
 (cb (decide (a0.1 = a1.1)) (cb (decide (a0.2.1 = a1.2.1)) (cb (decide (a0.2.2.1 = a1.2.2.1)) (cb (decide (a0.2.2.2.1 = a1.2.2.2.1)) (cb (decide (a0.2.2.2.2.1 = a1.2.2.2.2.1)) (cb (decide (a0.2.2.2.2.2.2 = a1.2.2.2.2.2.2)) (ob (Q8.f a0.2.2.2.2.2.1 a1.2.2.2.2.2.1) fun r1 => (some r1)) (some false)) (some false)) (some false)) (some false)) (some false)) (some false))
noncomputable def Q1t.fn : TFn := ⟨[(.pair .str (.pair .str (.pair .str (.pair .str (.pair (.int .i64) (.pair (.slice .str) .str)))))), (.pair .str (.pair .str (.pair .str (.pair .str (.pair (.int .i64) (.pair (.slice .str) .str))))))], [.bool], fun x => Q1t.f x.1 x.2⟩
noncomputable def Q1t.C : Cx := ⟨T, TYt, lkF [((38, [0, 0]), Q8.fn)], lkO [], lkD [], lkP [], [2, 3], [], false, [], [], lkS [], 52⟩
theorem Q1t.hC : CxOK Tryz.prog Q1t.C := cxq (FsOK.cons Q8.ok (FsOK.nil))
noncomputable def Q1t.root : Code := Z6 Tryz.f30
theorem Q1t.ok : FnOK Tryz.prog 30 Q1t.fn := .qq Q1t.root Q1t.hC Tryz.func30 (lkL []) [.tmp 4] LsOK.nil fun x => by kernel_rfl
noncomputable def Q1m.s0 (v0_0 : (List (ByteArray × (ByteArray × (ByteArray × (ByteArray × (Int × ((List ByteArray) × ByteArray)))))))) (v0_1 : (List (ByteArray × (ByteArray × (ByteArray × (ByteArray × (Int × ((List ByteArray) × ByteArray)))))))) (v0_12 : Int) (x0_13 : Int) : Option (Int ⊕ (Bool ⊕ Unit)) :=
 (cb (decide (x0_13 < v0_12)) (ck (0 ≤ x0_13 ∧ x0_13 < ((List.length v0_0 : Nat) : Int)) (let y7 : (ByteArray × (ByteArray × (ByteArray × (ByteArray × (Int × ((List ByteArray) × ByteArray)))))) := (rd (ByteArray.empty, (ByteArray.empty, (ByteArray.empty, (ByteArray.empty, ((0 : Int), (([] : (List ByteArray)), ByteArray.empty)))))) v0_0 x0_13); (ck (0 ≤ x0_13 ∧ x0_13 < ((List.length v0_1 : Nat) : Int)) (let y8 : (ByteArray × (ByteArray × (ByteArray × (ByteArray × (Int × ((List ByteArray) × ByteArray)))))) := (rd (ByteArray.empty, (ByteArray.empty, (ByteArray.empty, (ByteArray.empty, ((0 : Int), (([] : (List ByteArray)), ByteArray.empty)))))) v0_1 x0_13); (ob (Q1t.f y7 y8) fun r9 => (cb (!r9) (some (.inr (.inl false))) (ck (InR (x0_13 + (1 : Int))) (some (.inl (x0_13 + (1 : Int))))))))))) (some (.inr (.inr ()))))
noncomputable def Q1m.l0 (v0_0 : (List (ByteArray × (ByteArray × (ByteArray × (ByteArray × (Int × ((List ByteArray) × ByteArray)))))))) (v0_1 : (List (ByteArray × (ByteArray × (ByteArray × (ByteArray × (Int × ((List ByteArray) × ByteArray)))))))) (v0_12 : Int) (x0_13 : Int) : Option (Bool ⊕ Unit) :=
 Zl (fun (x : Int) => Q1m.s0 v0_0 v0_1 v0_12 x) x0_13
noncomputable def Q1m.e0 : Ent where
 pre := []
 inv := [(0, .val (.slice (.pair .str (.pair .str (.pair .str (.pair .str (.pair (.int .i64) (.pair (.slice .str) .str)))))))), (1, .val (.slice (.pair .str (.pair .str (.pair .str (.pair .str (.pair (.int .i64) (.pair (.slice .str) .str)))))))), (12, .val (.int .i64))]
 car := ⟨[(13, .val (.int .i64))], []⟩
 exits := [(.ret, ⟨[(4, .val .bool)], []⟩), (.exit 0, ⟨[], []⟩)]
 step := fun iv x => Q1m.s0 iv.1 iv.2.1 iv.2.2 x
noncomputable def Q1m.f (a0 : (List (ByteArray × (ByteArray × (ByteArray × (ByteArray × (Int × ((List ByteArray) × ByteArray)))))))) (a1 : (List (ByteArray × (ByteArray × (ByteArray × (ByteArray × (Int × ((List ByteArray) × ByteArray)))))))) : Option Bool :=
 (let y1 : Int := ((List.length a0 : Nat) : Int); (let y2 : Int := ((List.length a1 : Nat) : Int); (cb (!decide (y1 = y2)) (some false) (let y3 : Int := ((List.length a0 : Nat) : Int); (ob (Q1m.l0 a0 a1 y3 (0 : Int)) fun r10 => (Z22 r10 (fun a11 => (some a11)) (fun b12 => (some true))))))))
noncomputable def Q1m.fn : TFn := ⟨[(.slice (.pair .str (.pair .str (.pair .str (.pair .str (.pair (.int .i64) (.pair (.slice .str) .str))))))), (.slice (.pair .str (.pair .str (.pair .str (.pair .str (.pair (.int .i64) (.pair (.slice .str) .str)))))))], [.bool], fun x => Q1m.f x.1 x.2⟩
noncomputable def Q1m.C : Cx := ⟨T, TYt, lkF [((30, [0, 0]), Q1t.fn)], lkO [], lkD [(6, 8, [(0, true), (1, true), (2, true), (3, true), (4, true), (5, true), (6, true), (7, true)], none)], lkP [], [], [], false, [], [], lkS [], 27⟩
theorem Q1m.hC : CxOK Tryz.prog Q1m.C := cxq (FsOK.cons Q1t.ok (FsOK.nil))
noncomputable def Q1m.root : Code := Z6 Tryz.f40
theorem Q1m.h0 : LsOK Tryz.prog Q1m.C Q1m.root (lkL [([0, 1, 0, 1, 1], Q1m.e0)]) :=
 LsOK.cons Q1m.hC (LsOK.nil) (by kernel_rfl) (fun iv x => by kernel_rfl)
theorem Q1m.ok : FnOK Tryz.prog 40 Q1m.fn := .qq Q1m.root Q1m.hC Tryz.func40 (lkL [([0, 1, 0, 1, 1], Q1m.e0)]) [.tmp 4] Q1m.h0 fun x => by kernel_rfl
noncomputable def Q6.s0 (v0_0 : (List (Int × (ByteArray × Int)))) (v0_1 : (List (Int × (ByteArray × Int)))) (v0_12 : Int) (x0_13 : Int) : Option (Int ⊕ (Bool ⊕ Unit)) :=
 (cb (decide (x0_13 < v0_12)) (ck (0 ≤ x0_13 ∧ x0_13 < ((List.length v0_0 : Nat) : Int)) (let y6 : (Int × (ByteArray × Int)) := (rd ((0 : Int), (ByteArray.empty, (0 : Int))) v0_0 x0_13); (ck (0 ≤ x0_13 ∧ x0_13 < ((List.length v0_1 : Nat) : Int)) (let y7 : (Int × (ByteArray × Int)) := (rd ((0 : Int), (ByteArray.empty, (0 : Int))) v0_1 x0_13); (cb (!((eqI y6.1 y7.1) && ((eqS y6.2.1 y7.2.1) && ((eqI y6.2.2 y7.2.2) && true)))) (some (.inr (.inl false))) (ck (InR (x0_13 + (1 : Int))) (some (.inl (x0_13 + (1 : Int)))))))))) (some (.inr (.inr ()))))
noncomputable def Q6.l0 (v0_0 : (List (Int × (ByteArray × Int)))) (v0_1 : (List (Int × (ByteArray × Int)))) (v0_12 : Int) (x0_13 : Int) : Option (Bool ⊕ Unit) :=
 Zl (fun (x : Int) => Q6.s0 v0_0 v0_1 v0_12 x) x0_13
noncomputable def Q6.e0 : Ent where
 pre := []
 inv := [(0, .val (.slice (.pair (.int .i64) (.pair .str (.int .i64))))), (1, .val (.slice (.pair (.int .i64) (.pair .str (.int .i64))))), (12, .val (.int .i64))]
 car := ⟨[(13, .val (.int .i64))], []⟩
 exits := [(.ret, ⟨[(4, .val .bool)], []⟩), (.exit 0, ⟨[], []⟩)]
 step := fun iv x => Q6.s0 iv.1 iv.2.1 iv.2.2 x
noncomputable def Q6.f (a0 : (List (Int × (ByteArray × Int)))) (a1 : (List (Int × (ByteArray × Int)))) : Option Bool :=
 (let y1 : Int := ((List.length a0 : Nat) : Int); (let y2 : Int := ((List.length a1 : Nat) : Int); (cb (!decide (y1 = y2)) (some false) (let y3 : Int := ((List.length a0 : Nat) : Int); (ob (Q6.l0 a0 a1 y3 (0 : Int)) fun r8 => (Z22 r8 (fun a9 => (some a9)) (fun b10 => (some true))))))))
noncomputable def Q6.fn : TFn := ⟨[(.slice (.pair (.int .i64) (.pair .str (.int .i64)))), (.slice (.pair (.int .i64) (.pair .str (.int .i64))))], [.bool], fun x => Q6.f x.1 x.2⟩
noncomputable def Q6.C : Cx := ⟨T, TYt, lkF [], lkO [], lkD [(6, 8, [(0, true), (1, true), (2, true), (3, true), (4, true), (5, true), (6, true), (7, true)], none)], lkP [], [], [], false, [59], [], lkS [], 26⟩
theorem Q6.hC : CxOK Tryz.prog Q6.C := ⟨tabOK, FsOK.nil, OsOK.nil, mixed, (fun t h => Zj2 [59] (by kernel_rfl) t h), (fun t e h => by cases h), SsOK.nil⟩
noncomputable def Q6.root : Code := Z6 Tryz.f56
theorem Q6.h0 : LsOK Tryz.prog Q6.C Q6.root (lkL [([0, 1, 0, 1, 1], Q6.e0)]) :=
 LsOK.cons Q6.hC (LsOK.nil) (by kernel_rfl) (fun iv x => by kernel_rfl)
theorem Q6.ok : FnOK Tryz.prog 56 Q6.fn := .qq Q6.root Q6.hC Tryz.func56 (lkL [([0, 1, 0, 1, 1], Q6.e0)]) [.tmp 4] Q6.h0 fun x => by kernel_rfl
noncomputable def Q2a.f (a0 : (List (ByteArray × (ByteArray × ((List ByteArray) × (Int × Int)))))) (a1 : (ByteArray × (ByteArray × (ByteArray × (ByteArray × (Int × ((List ByteArray) × ByteArray))))))) : Option Int :=
 (ob (Qh.f a0) fun r1 => (cb (!decide (r1 = (0 : Int))) (some r1) (ob (Qd.f a1) fun r2 => (some r2))))
noncomputable def Q2a.fn : TFn := ⟨[(.slice (.pair .str (.pair .str (.pair (.slice .str) (.pair (.int .i64) (.int .i64)))))), (.pair .str (.pair .str (.pair .str (.pair .str (.pair (.int .i64) (.pair (.slice .str) .str))))))], [(.int .i64)], fun x => Q2a.f x.1 x.2⟩
noncomputable def Q2a.C : Cx := ⟨T, TYt, lkF [((75, [0]), Qh.fn), ((84, [0]), Qd.fn)], lkO [], lkD [], lkP [], [3], [], false, [], [], lkS [], 13⟩
theorem Q2a.hC : CxOK Tryz.prog Q2a.C := cxq (FsOK.cons Qh.ok (FsOK.cons Qd.ok (FsOK.nil)))
noncomputable def Q2a.root : Code := Z6 Tryz.f71
theorem Q2a.ok : FnOK Tryz.prog 71 Q2a.fn := .qq Q2a.root Q2a.hC Tryz.func71 (lkL []) [.tmp 4] LsOK.nil fun x => by kernel_rfl
noncomputable def Q1v.f (a0 : (List (ByteArray × (ByteArray × (ByteArray × (ByteArray × (Int × ((List ByteArray) × ByteArray)))))))) (a1 : (List (Int × (ByteArray × Int)))) : Option ((List ByteArray) × Int) :=
 (ob (Qj.f a0 a1) fun r1 => (cb (!decide (r1 = (0 : Int))) (some (([] : List ByteArray), r1)) (ob (Q1.f a0 a1) fun r2 => (some (r2.2.2.2, (0 : Int))))))
noncomputable def Q1v.fn : TFn := ⟨[(.slice (.pair .str (.pair .str (.pair .str (.pair .str (.pair (.int .i64) (.pair (.slice .str) .str))))))), (.slice (.pair (.int .i64) (.pair .str (.int .i64))))], [(.slice .str), (.int .i64)], fun x => Q1v.f x.1 x.2⟩
noncomputable def Q1v.C : Cx := cxC [((66, [0, 0]), Qj.fn), ((101, [0, 0]), Q1.fn)] 17
theorem Q1v.hC : CxOK Tryz.prog Q1v.C := cxq (FsOK.cons Qj.ok (FsOK.cons Q1.ok (FsOK.nil)))
noncomputable def Q1v.root : Code := Z6 Tryz.f50
theorem Q1v.ok : FnOK Tryz.prog 50 Q1v.fn := .qq Q1v.root Q1v.hC Tryz.func50 (lkL []) [.tmp 4, .tmp 5] LsOK.nil fun x => by kernel_rfl
noncomputable def Q22.f (a0 : (List (ByteArray × (ByteArray × (ByteArray × (ByteArray × (Int × ((List ByteArray) × ByteArray)))))))) (a1 : (List (Int × (ByteArray × Int)))) : Option ((List Int) × Int) :=
 (ob (Qj.f a0 a1) fun r1 => (cb (!decide (r1 = (0 : Int))) (some (([] : List Int), r1)) (ob (Q1.f a0 a1) fun r2 => (ob (Q1e.f r2.2.2.1) fun r3 => (some (r3, (0 : Int)))))))
noncomputable def Q22.fn : TFn := ⟨[(.slice (.pair .str (.pair .str (.pair .str (.pair .str (.pair (.int .i64) (.pair (.slice .str) .str))))))), (.slice (.pair (.int .i64) (.pair .str (.int .i64))))], [(.slice (.int .i64)), (.int .i64)], fun x => Q22.f x.1 x.2⟩
noncomputable def Q22.C : Cx := cxC [((66, [0, 0]), Qj.fn), ((101, [0, 0]), Q1.fn), ((102, [0]), Q1e.fn)] 18
theorem Q22.hC : CxOK Tryz.prog Q22.C := cxq (FsOK.cons Qj.ok (FsOK.cons Q1.ok (FsOK.cons Q1e.ok (FsOK.nil))))
noncomputable def Q22.root : Code := Z6 Tryz.f51
theorem Q22.ok : FnOK Tryz.prog 51 Q22.fn := .qq Q22.root Q22.hC Tryz.func51 (lkL []) [.tmp 4, .tmp 5] LsOK.nil fun x => by kernel_rfl
noncomputable def Ql.s0 (v0_7 : ((List Bool) × ((List Bool) × (List (ByteArray × Bool))))) (v0_25 : (List (ByteArray × (ByteArray × (ByteArray × (ByteArray × (Int × ((List ByteArray) × ByteArray)))))))) (v0_26 : Int) (x0_27 : Int) (o0_1 : (List (ByteArray × (ByteArray × (Int × Int))))) : Option ((Int × (List (ByteArray × (ByteArray × (Int × Int))))) ⊕ (List (ByteArray × (ByteArray × (Int × Int))))) :=
 (cb (decide (x0_27 < v0_26)) (ck (0 ≤ x0_27 ∧ x0_27 < ((List.length v0_25 : Nat) : Int)) (let y6 : (ByteArray × (ByteArray × (ByteArray × (ByteArray × (Int × ((List ByteArray) × ByteArray)))))) := (rd (ByteArray.empty, (ByteArray.empty, (ByteArray.empty, (ByteArray.empty, ((0 : Int), (([] : (List ByteArray)), ByteArray.empty)))))) v0_25 x0_27); (let y7 : (ByteArray × (Int × Int)) := (Option.getD (mget y6.2.2.2.1 o0_1) (ByteArray.empty, ((0 : Int), (0 : Int)))); (ck (0 ≤ x0_27 ∧ x0_27 < ((List.length v0_7.1 : Nat) : Int)) (cb (rd false v0_7.1 x0_27) (ck (InR (y7.2.1 + (1 : Int))) (ck (0 ≤ x0_27 ∧ x0_27 < ((List.length v0_7.2.1 : Nat) : Int)) (cb (rd false v0_7.2.1 x0_27) (ck (InR (y7.2.2 + (1 : Int))) (ck (InR (x0_27 + (1 : Int))) (some (.inl ((x0_27 + (1 : Int)), (mset y6.2.2.2.1 (y6.2.2.2.1, ((y7.2.1 + (1 : Int)), (y7.2.2 + (1 : Int)))) o0_1)))))) (ck (InR (x0_27 + (1 : Int))) (some (.inl ((x0_27 + (1 : Int)), (mset y6.2.2.2.1 (y6.2.2.2.1, ((y7.2.1 + (1 : Int)), y7.2.2)) o0_1)))))))) (ck (0 ≤ x0_27 ∧ x0_27 < ((List.length v0_7.2.1 : Nat) : Int)) (cb (rd false v0_7.2.1 x0_27) (ck (InR (y7.2.2 + (1 : Int))) (ck (InR (x0_27 + (1 : Int))) (some (.inl ((x0_27 + (1 : Int)), (mset y6.2.2.2.1 (y6.2.2.2.1, (y7.2.1, (y7.2.2 + (1 : Int)))) o0_1)))))) (ck (InR (x0_27 + (1 : Int))) (some (.inl ((x0_27 + (1 : Int)), (mset y6.2.2.2.1 (y6.2.2.2.1, y7.2) o0_1)))))))))))) (some (.inr o0_1)))
noncomputable def Ql.l0 (v0_7 : ((List Bool) × ((List Bool) × (List (ByteArray × Bool))))) (v0_25 : (List (ByteArray × (ByteArray × (ByteArray × (ByteArray × (Int × ((List ByteArray) × ByteArray)))))))) (v0_26 : Int) (x0_27 : Int) (o0_1 : (List (ByteArray × (ByteArray × (Int × Int))))) : Option (List (ByteArray × (ByteArray × (Int × Int)))) :=
 Zl (fun (x : (Int × (List (ByteArray × (ByteArray × (Int × Int)))))) => Ql.s0 v0_7 v0_25 v0_26 x.1 x.2) (x0_27, o0_1)
noncomputable def Ql.e0 : Ent where
 pre := []
 inv := [(7, .rp (.pair (.slice .bool) (.pair (.slice .bool) (.mp .bool)))), (25, .val (.slice (.pair .str (.pair .str (.pair .str (.pair .str (.pair (.int .i64) (.pair (.slice .str) .str)))))))), (26, .val (.int .i64))]
 car := ⟨[(8, .nm 1 []), (27, .val (.int .i64))], [.dead, .mapo (.pair .str (.pair (.int .i64) (.int .i64)))]⟩
 exits := [(.exit 0, ⟨[(8, .nm 1 [])], [.dead, .mapo (.pair .str (.pair (.int .i64) (.int .i64)))]⟩)]
 step := fun iv x => Ql.s0 iv.1 iv.2.1 iv.2.2 x.1 x.2
noncomputable def Ql.s1 (v1_8 : (List (ByteArray × (ByteArray × (Int × Int))))) (v1_64 : (List ByteArray)) (v1_65 : Int) (x1_66 : Int) (o1_2 : (List (ByteArray × (Int × Int)))) : Option ((Int × (List (ByteArray × (Int × Int)))) ⊕ (List (ByteArray × (Int × Int)))) :=
 (cb (decide (x1_66 < v1_65)) (ck (0 ≤ x1_66 ∧ x1_66 < ((List.length v1_64 : Nat) : Int)) (let y14 : ByteArray := (rd ByteArray.empty v1_64 x1_66); (let y15 : (ByteArray × (Int × Int)) := (Option.getD (mget y14 v1_8) (ByteArray.empty, ((0 : Int), (0 : Int)))); (ck ((List.length o1_2 + List.length ([y15] : List (ByteArray × (Int × Int)))) * 32 ≤ 140737488355328) (ck (InR (x1_66 + (1 : Int))) (some (.inl ((x1_66 + (1 : Int)), (o1_2 ++ ([y15] : List (ByteArray × (Int × Int)))))))))))) (some (.inr o1_2)))
noncomputable def Ql.l1 (v1_8 : (List (ByteArray × (ByteArray × (Int × Int))))) (v1_64 : (List ByteArray)) (v1_65 : Int) (x1_66 : Int) (o1_2 : (List (ByteArray × (Int × Int)))) : Option (List (ByteArray × (Int × Int))) :=
 Zl (fun (x : (Int × (List (ByteArray × (Int × Int))))) => Ql.s1 v1_8 v1_64 v1_65 x.1 x.2) (x1_66, o1_2)
noncomputable def Ql.e1 : Ent where
 pre := [.nil 12 78 (.pair .str (.pair (.int .i64) (.int .i64)))]
 inv := [(8, .val (.mp (.pair .str (.pair (.int .i64) (.int .i64))))), (64, .val (.slice .str)), (65, .val (.int .i64))]
 car := ⟨[(12, .own 2 3), (66, .val (.int .i64))], [.dead, .dead, .row 78 (.pair .str (.pair (.int .i64) (.int .i64)))]⟩
 exits := [(.exit 2, ⟨[(12, .own 2 3)], [.dead, .dead, .row 78 (.pair .str (.pair (.int .i64) (.int .i64)))]⟩)]
 step := fun iv x => Ql.s1 iv.1 iv.2.1 iv.2.2 x.1 x.2
noncomputable def Ql.f (a0 : (List (ByteArray × (ByteArray × (ByteArray × (ByteArray × (Int × ((List ByteArray) × ByteArray)))))))) (a1 : (List (Int × (ByteArray × Int)))) : Option ((List (ByteArray × (Int × Int))) × Int) :=
 (ob (Qe.f a0 a1) fun r1 => (cb (!decide (r1 = (0 : Int))) (some (([] : List (ByteArray × (Int × Int))), r1)) (ob (Qk.f a0 a1) fun r2 => (let y3 : Int := ((List.length a0 : Nat) : Int); (ob (Ql.l0 r2 a0 y3 (0 : Int) ([] : List (ByteArray × (ByteArray × (Int × Int))))) fun r8 => (ob (Q15.f r8) fun r9 => (ob (Q29.f r9) fun r10 => (let y11 : Int := ((List.length r10 : Nat) : Int); (ob (Ql.l1 r8 r10 y11 (0 : Int) ([] : List (ByteArray × (Int × Int)))) fun r16 => (some (r16, (0 : Int))))))))))))
noncomputable def Ql.fn : TFn := ⟨[(.slice (.pair .str (.pair .str (.pair .str (.pair .str (.pair (.int .i64) (.pair (.slice .str) .str))))))), (.slice (.pair (.int .i64) (.pair .str (.int .i64))))], [(.slice (.pair .str (.pair (.int .i64) (.int .i64)))), (.int .i64)], fun x => Ql.f x.1 x.2⟩
noncomputable def Ql.C : Cx := ⟨T, TYt, lkF [((65, [0, 0]), Qe.fn), ((95, [0, 0]), Qk.fn), ((97, [160]), Q29.fn), ((103, [0]), Q15.fn)], lkO [], lkD [], lkP [], [7, 10], [(125, 78)], false, [], [], lkS [], 78⟩
theorem Ql.hC : CxOK Tryz.prog Ql.C := ⟨tabOK, FsOK.cons Qe.ok (FsOK.cons Qk.ok (FsOK.cons Q29.ok (FsOK.cons Q15.ok (FsOK.nil)))), OsOK.nil, mixed, (fun t h => by cases h), (Zbg [(125, 78)] (by kernel_rfl)), SsOK.nil⟩
noncomputable def Ql.root : Code := Z6 Tryz.f53
theorem Ql.h0 : LsOK Tryz.prog Ql.C Ql.root (lkL [([0, 1, 0, 1, 1, 1, 1], Ql.e0)]) :=
 LsOK.cons Ql.hC (LsOK.nil) (by kernel_rfl) (fun iv x => by kernel_rfl)
theorem Ql.h1 : LsOK Tryz.prog Ql.C Ql.root (lkL [([0, 1, 0, 1, 1, 1, 1, 1, 1], Ql.e1), ([0, 1, 0, 1, 1, 1, 1], Ql.e0)]) :=
 LsOK.cons Ql.hC (Ql.h0) (by kernel_rfl) (fun iv x => by kernel_rfl)
theorem Ql.ok : FnOK Tryz.prog 53 Ql.fn := .qq Ql.root Ql.hC Tryz.func53 (lkL [([0, 1, 0, 1, 1, 1, 1, 1, 1], Ql.e1), ([0, 1, 0, 1, 1, 1, 1], Ql.e0)]) [.tmp 4, .tmp 5] Ql.h1 fun x => by kernel_rfl
noncomputable def Q9.s0 (v0_26 : (List (ByteArray × (ByteArray × (ByteArray × (ByteArray × (Int × ((List ByteArray) × ByteArray)))))))) (v0_27 : Int) (x0_28 : Int) (o0_1 : (List ByteArray)) : Option ((Int × (List ByteArray)) ⊕ (List ByteArray)) :=
 (cb (decide (x0_28 < v0_27)) (ck (0 ≤ x0_28 ∧ x0_28 < ((List.length v0_26 : Nat) : Int)) (let y5 : (ByteArray × (ByteArray × (ByteArray × (ByteArray × (Int × ((List ByteArray) × ByteArray)))))) := (rd (ByteArray.empty, (ByteArray.empty, (ByteArray.empty, (ByteArray.empty, ((0 : Int), (([] : (List ByteArray)), ByteArray.empty)))))) v0_26 x0_28); (ck ((List.length o0_1 + List.length ([y5.2.2.2.1] : List ByteArray)) * 16 ≤ 140737488355328) (ck (InR (x0_28 + (1 : Int))) (some (.inl ((x0_28 + (1 : Int)), (o0_1 ++ ([y5.2.2.2.1] : List ByteArray))))))))) (some (.inr o0_1)))
noncomputable def Q9.l0 (v0_26 : (List (ByteArray × (ByteArray × (ByteArray × (ByteArray × (Int × ((List ByteArray) × ByteArray)))))))) (v0_27 : Int) (x0_28 : Int) (o0_1 : (List ByteArray)) : Option (List ByteArray) :=
 Zl (fun (x : (Int × (List ByteArray))) => Q9.s0 v0_26 v0_27 x.1 x.2) (x0_28, o0_1)
noncomputable def Q9.e0 : Ent where
 pre := [.nil 8 9 .str]
 inv := [(0, .val (.slice (.pair .str (.pair .str (.pair .str (.pair .str (.pair (.int .i64) (.pair (.slice .str) .str)))))))), (7, .rp (.pair (.slice .bool) (.pair (.slice .bool) (.pair (.slice .bool) (.slice .str))))), (26, .val (.slice (.pair .str (.pair .str (.pair .str (.pair .str (.pair (.int .i64) (.pair (.slice .str) .str)))))))), (27, .val (.int .i64))]
 car := ⟨[(8, .own 1 1), (28, .val (.int .i64))], [.dead, .row 9 .str]⟩
 exits := [(.exit 0, ⟨[(8, .own 1 1)], [.dead, .row 9 .str]⟩)]
 step := fun iv x => Q9.s0 iv.2.2.1 iv.2.2.2 x.1 x.2
noncomputable def Q9.s2 (v2_7 : ((List Bool) × ((List Bool) × ((List Bool) × (List ByteArray))))) (v2_13 : ByteArray) (v2_49 : (List (ByteArray × (ByteArray × (ByteArray × (ByteArray × (Int × ((List ByteArray) × ByteArray)))))))) (v2_50 : Int) (x2_51 : Int) (o2_1 : (List ByteArray)) (o2_2 : (List (ByteArray × (Int × Int)))) (o2_3_0 : ByteArray) (o2_3_1 : Int) (o2_3_2 : Int) : Option ((Int × ((List ByteArray) × ((List (ByteArray × (Int × Int))) × (ByteArray × (Int × Int))))) ⊕ ((List ByteArray) × ((List (ByteArray × (Int × Int))) × (ByteArray × (Int × Int))))) :=
 (cb (decide (x2_51 < v2_50)) (ck (0 ≤ x2_51 ∧ x2_51 < ((List.length v2_49 : Nat) : Int)) (let y11 : (ByteArray × (ByteArray × (ByteArray × (ByteArray × (Int × ((List ByteArray) × ByteArray)))))) := (rd (ByteArray.empty, (ByteArray.empty, (ByteArray.empty, (ByteArray.empty, ((0 : Int), (([] : (List ByteArray)), ByteArray.empty)))))) v2_49 x2_51); (cb (decide (y11.2.2.2.1 = v2_13)) (ck (0 ≤ x2_51 ∧ x2_51 < ((List.length v2_7.1 : Nat) : Int)) (cb (rd false v2_7.1 x2_51) (ck (InR (o2_3_1 + (1 : Int))) (cb (decide (y11.2.2.2.1 = v2_13)) (ck (0 ≤ x2_51 ∧ x2_51 < ((List.length v2_7.2.1 : Nat) : Int)) (cb (rd false v2_7.2.1 x2_51) (ck (InR (o2_3_2 + (1 : Int))) (ck (InR (x2_51 + (1 : Int))) (some (.inl ((x2_51 + (1 : Int)), o2_1, o2_2, o2_3_0, (o2_3_1 + (1 : Int)), (o2_3_2 + (1 : Int))))))) (ck (InR (x2_51 + (1 : Int))) (some (.inl ((x2_51 + (1 : Int)), o2_1, o2_2, o2_3_0, (o2_3_1 + (1 : Int)), o2_3_2)))))) (ck (InR (x2_51 + (1 : Int))) (some (.inl ((x2_51 + (1 : Int)), o2_1, o2_2, o2_3_0, (o2_3_1 + (1 : Int)), o2_3_2)))))) (cb (decide (y11.2.2.2.1 = v2_13)) (ck (0 ≤ x2_51 ∧ x2_51 < ((List.length v2_7.2.1 : Nat) : Int)) (cb (rd false v2_7.2.1 x2_51) (ck (InR (o2_3_2 + (1 : Int))) (ck (InR (x2_51 + (1 : Int))) (some (.inl ((x2_51 + (1 : Int)), o2_1, o2_2, o2_3_0, o2_3_1, (o2_3_2 + (1 : Int))))))) (ck (InR (x2_51 + (1 : Int))) (some (.inl ((x2_51 + (1 : Int)), o2_1, o2_2, o2_3_0, o2_3_1, o2_3_2)))))) (ck (InR (x2_51 + (1 : Int))) (some (.inl ((x2_51 + (1 : Int)), o2_1, o2_2, o2_3_0, o2_3_1, o2_3_2))))))) (cb (decide (y11.2.2.2.1 = v2_13)) (ck (0 ≤ x2_51 ∧ x2_51 < ((List.length v2_7.2.1 : Nat) : Int)) (cb (rd false v2_7.2.1 x2_51) (ck (InR (o2_3_2 + (1 : Int))) (ck (InR (x2_51 + (1 : Int))) (some (.inl ((x2_51 + (1 : Int)), o2_1, o2_2, o2_3_0, o2_3_1, (o2_3_2 + (1 : Int))))))) (ck (InR (x2_51 + (1 : Int))) (some (.inl ((x2_51 + (1 : Int)), o2_1, o2_2, o2_3_0, o2_3_1, o2_3_2)))))) (ck (InR (x2_51 + (1 : Int))) (some (.inl ((x2_51 + (1 : Int)), o2_1, o2_2, o2_3_0, o2_3_1, o2_3_2)))))))) (some (.inr (o2_1, o2_2, o2_3_0, o2_3_1, o2_3_2))))
noncomputable def Q9.l2 (v2_7 : ((List Bool) × ((List Bool) × ((List Bool) × (List ByteArray))))) (v2_13 : ByteArray) (v2_49 : (List (ByteArray × (ByteArray × (ByteArray × (ByteArray × (Int × ((List ByteArray) × ByteArray)))))))) (v2_50 : Int) (x2_51 : Int) (o2_1 : (List ByteArray)) (o2_2 : (List (ByteArray × (Int × Int)))) (o2_3_0 : ByteArray) (o2_3_1 : Int) (o2_3_2 : Int) : Option ((List ByteArray) × ((List (ByteArray × (Int × Int))) × (ByteArray × (Int × Int)))) :=
 Zl (fun (x : (Int × ((List ByteArray) × ((List (ByteArray × (Int × Int))) × (ByteArray × (Int × Int)))))) => Q9.s2 v2_7 v2_13 v2_49 v2_50 x.1 x.2.1 x.2.2.1 x.2.2.2.1 x.2.2.2.2.1 x.2.2.2.2.2) (x2_51, o2_1, o2_2, o2_3_0, o2_3_1, o2_3_2)
noncomputable def Q9.e2 : Ent where
 pre := []
 inv := [(0, .val (.slice (.pair .str (.pair .str (.pair .str (.pair .str (.pair (.int .i64) (.pair (.slice .str) .str)))))))), (7, .rp (.pair (.slice .bool) (.pair (.slice .bool) (.pair (.slice .bool) (.slice .str))))), (13, .val .str), (42, .val (.int .i64)), (43, .val (.int .i64)), (49, .val (.slice (.pair .str (.pair .str (.pair .str (.pair .str (.pair (.int .i64) (.pair (.slice .str) .str)))))))), (50, .val (.int .i64))]
 car := ⟨[(11, .own 2 3), (14, .ptr 3 3), (41, .own 1 1), (51, .val (.int .i64))], [.dead, .row 9 .str, .row 78 (.pair .str (.pair (.int .i64) (.int .i64))), .box 78 [.val .str, .val (.int .i64), .val (.int .i64)]]⟩
 exits := [(.exit 4, ⟨[(11, .own 2 3), (14, .ptr 3 3), (41, .own 1 1)], [.dead, .row 9 .str, .row 78 (.pair .str (.pair (.int .i64) (.int .i64))), .box 78 [.val .str, .val (.int .i64), .val (.int .i64)]]⟩)]
 step := fun iv x => Q9.s2 iv.2.1 iv.2.2.1 iv.2.2.2.2.2.1 iv.2.2.2.2.2.2 x.1 x.2.1 x.2.2.1 x.2.2.2.1 x.2.2.2.2.1 x.2.2.2.2.2
noncomputable def Q9.s1 (v1_0 : (List (ByteArray × (ByteArray × (ByteArray × (ByteArray × (Int × ((List ByteArray) × ByteArray)))))))) (v1_7 : ((List Bool) × ((List Bool) × ((List Bool) × (List ByteArray))))) (v1_42 : Int) (x1_43 : Int) (o1_1 : (List ByteArray)) (o1_2 : (List (ByteArray × (Int × Int)))) : Option ((Int × ((List ByteArray) × (List (ByteArray × (Int × Int))))) ⊕ ((List ByteArray) × (List (ByteArray × (Int × Int))))) :=
 (cb (decide (x1_43 < v1_42)) (ck (0 ≤ x1_43 ∧ x1_43 < ((List.length o1_1 : Nat) : Int)) (ck ((Int.toNat x1_43) < List.length o1_1) (let y13 : ByteArray := (List.getD o1_1 (Int.toNat x1_43) ByteArray.empty); (let y14 : Int := ((List.length v1_0 : Nat) : Int); (ob (Q9.l2 v1_7 y13 v1_0 y14 (0 : Int) o1_1 o1_2 y13 (0 : Int) (0 : Int)) fun r15 => (ck ((List.length r15.2.1 + List.length ([r15.2.2] : List (ByteArray × (Int × Int)))) * 32 ≤ 140737488355328) (ck (InR (x1_43 + (1 : Int))) (some (.inl ((x1_43 + (1 : Int)), r15.1, (r15.2.1 ++ ([r15.2.2] : List (ByteArray × (Int × Int)))))))))))))) (some (.inr (o1_1, o1_2))))
noncomputable def Q9.l1 (v1_0 : (List (ByteArray × (ByteArray × (ByteArray × (ByteArray × (Int × ((List ByteArray) × ByteArray)))))))) (v1_7 : ((List Bool) × ((List Bool) × ((List Bool) × (List ByteArray))))) (v1_42 : Int) (x1_43 : Int) (o1_1 : (List ByteArray)) (o1_2 : (List (ByteArray × (Int × Int)))) : Option ((List ByteArray) × (List (ByteArray × (Int × Int)))) :=
 Zl (fun (x : (Int × ((List ByteArray) × (List (ByteArray × (Int × Int)))))) => Q9.s1 v1_0 v1_7 v1_42 x.1 x.2.1 x.2.2) (x1_43, o1_1, o1_2)
noncomputable def Q9.e1 : Ent where
 pre := [.nil 11 78 (.pair .str (.pair (.int .i64) (.int .i64)))]
 inv := [(0, .val (.slice (.pair .str (.pair .str (.pair .str (.pair .str (.pair (.int .i64) (.pair (.slice .str) .str)))))))), (7, .rp (.pair (.slice .bool) (.pair (.slice .bool) (.pair (.slice .bool) (.slice .str))))), (42, .val (.int .i64))]
 car := ⟨[(11, .own 2 3), (41, .own 1 1), (43, .val (.int .i64))], [.dead, .row 9 .str, .row 78 (.pair .str (.pair (.int .i64) (.int .i64)))]⟩
 exits := [(.exit 2, ⟨[(11, .own 2 3)], [.dead, .row 9 .str, .row 78 (.pair .str (.pair (.int .i64) (.int .i64)))]⟩)]
 step := fun iv x => Q9.s1 iv.1 iv.2.1 iv.2.2 x.1 x.2.1 x.2.2
noncomputable def Q9.f (a0 : (List (ByteArray × (ByteArray × (ByteArray × (ByteArray × (Int × ((List ByteArray) × ByteArray)))))))) (a1 : (List (Int × (ByteArray × Int)))) : Option ((List (ByteArray × (Int × Int))) × Int) :=
 (ob (Qj.f a0 a1) fun r1 => (cb (!decide (r1 = (0 : Int))) (some (([] : List (ByteArray × (Int × Int))), r1)) (ob (Q1.f a0 a1) fun r2 => (let y3 : Int := ((List.length a0 : Nat) : Int); (ob (Q9.l0 a0 y3 (0 : Int) ([] : List ByteArray)) fun r6 => (ck (Option.isSome (Z0 r6) = true) (ck (Option.isSome (Z2 (Option.getD (Z0 r6) [])) = true) (let y7 : Int := ((List.length (List.take (List.length (Zs (Option.getD (Z0 r6) []))) (Option.getD (Z2 (Option.getD (Z0 r6) [])) [])) : Nat) : Int); (ob (Q9.l1 a0 r2 y7 (0 : Int) (List.take (List.length (Zs (Option.getD (Z0 r6) []))) (Option.getD (Z2 (Option.getD (Z0 r6) [])) [])) ([] : List (ByteArray × (Int × Int)))) fun r16 => (some (r16.2, (0 : Int))))))))))))
noncomputable def Q9.fn : TFn := ⟨[(.slice (.pair .str (.pair .str (.pair .str (.pair .str (.pair (.int .i64) (.pair (.slice .str) .str))))))), (.slice (.pair (.int .i64) (.pair .str (.int .i64))))], [(.slice (.pair .str (.pair (.int .i64) (.int .i64)))), (.int .i64)], fun x => Q9.f x.1 x.2⟩
noncomputable def Q9.C : Cx := ⟨T, TYt, lkF [((66, [0, 0]), Qj.fn), ((101, [0, 0]), Q1.fn)], lkO [], lkD [], lkP [], [7, 10, 16], [], false, [], [], lkS [((47, 1000000), srt_47_1000000), ((48, 1000000), srt_48_1000000)], 93⟩
theorem Q9.hC : CxOK Tryz.prog Q9.C := ⟨tabOK, FsOK.cons Qj.ok (FsOK.cons Q1.ok (FsOK.nil)), OsOK.nil, mixed, (fun t h => by cases h), (fun t e h => by cases h), (SsOK.cons srt_47_1000000_ok ((SsOK.cons srt_48_1000000_ok (SsOK.nil))))⟩
noncomputable def Q9.root : Code := Z6 Tryz.f54
theorem Q9.h0 : LsOK Tryz.prog Q9.C Q9.root (lkL [([0, 1, 0, 1, 1, 1, 1], Q9.e0)]) :=
 LsOK.cons Q9.hC (LsOK.nil) (by kernel_rfl) (fun iv x => by kernel_rfl)
theorem Q9.h2 : LsOK Tryz.prog Q9.C Q9.root (lkL [([0, 1, 0, 1, 1, 0, 0, 1, 1, 0, 0, 1, 0, 1, 1, 1, 1, 1, 1, 1], Q9.e2), ([0, 1, 0, 1, 1, 1, 1], Q9.e0)]) :=
 LsOK.cons Q9.hC (Q9.h0) (by kernel_rfl) (fun iv x => by kernel_rfl)
theorem Q9.h1 : LsOK Tryz.prog Q9.C Q9.root (lkL [([0, 1, 0, 1, 1, 1, 1, 1, 1, 1], Q9.e1), ([0, 1, 0, 1, 1, 0, 0, 1, 1, 0, 0, 1, 0, 1, 1, 1, 1, 1, 1, 1], Q9.e2), ([0, 1, 0, 1, 1, 1, 1], Q9.e0)]) :=
 LsOK.cons Q9.hC (Q9.h2) (by kernel_rfl) (fun iv x => by kernel_rfl)
theorem Q9.ok : FnOK Tryz.prog 54 Q9.fn := .qq Q9.root Q9.hC Tryz.func54 (lkL [([0, 1, 0, 1, 1, 1, 1, 1, 1, 1], Q9.e1), ([0, 1, 0, 1, 1, 0, 0, 1, 1, 0, 0, 1, 0, 1, 1, 1, 1, 1, 1, 1], Q9.e2), ([0, 1, 0, 1, 1, 1, 1], Q9.e0)]) [.tmp 4, .tmp 5] Q9.h1 fun x => by kernel_rfl
noncomputable def Q7.s0 (v0_0 : (List (ByteArray × (Int × Int)))) (v0_1 : (List (ByteArray × (Int × Int)))) (v0_12 : Int) (x0_13 : Int) : Option (Int ⊕ (Bool ⊕ Unit)) :=
 (cb (decide (x0_13 < v0_12)) (ck (0 ≤ x0_13 ∧ x0_13 < ((List.length v0_0 : Nat) : Int)) (let y6 : (ByteArray × (Int × Int)) := (rd (ByteArray.empty, ((0 : Int), (0 : Int))) v0_0 x0_13); (ck (0 ≤ x0_13 ∧ x0_13 < ((List.length v0_1 : Nat) : Int)) (let y7 : (ByteArray × (Int × Int)) := (rd (ByteArray.empty, ((0 : Int), (0 : Int))) v0_1 x0_13); (cb (!((eqS y6.1 y7.1) && ((eqI y6.2.1 y7.2.1) && ((eqI y6.2.2 y7.2.2) && true)))) (some (.inr (.inl false))) (ck (InR (x0_13 + (1 : Int))) (some (.inl (x0_13 + (1 : Int)))))))))) (some (.inr (.inr ()))))
noncomputable def Q7.l0 (v0_0 : (List (ByteArray × (Int × Int)))) (v0_1 : (List (ByteArray × (Int × Int)))) (v0_12 : Int) (x0_13 : Int) : Option (Bool ⊕ Unit) :=
 Zl (fun (x : Int) => Q7.s0 v0_0 v0_1 v0_12 x) x0_13
noncomputable def Q7.e0 : Ent where
 pre := []
 inv := [(0, .val (.slice (.pair .str (.pair (.int .i64) (.int .i64))))), (1, .val (.slice (.pair .str (.pair (.int .i64) (.int .i64))))), (12, .val (.int .i64))]
 car := ⟨[(13, .val (.int .i64))], []⟩
 exits := [(.ret, ⟨[(4, .val .bool)], []⟩), (.exit 0, ⟨[], []⟩)]
 step := fun iv x => Q7.s0 iv.1 iv.2.1 iv.2.2 x
noncomputable def Q7.f (a0 : (List (ByteArray × (Int × Int)))) (a1 : (List (ByteArray × (Int × Int)))) : Option Bool :=
 (let y1 : Int := ((List.length a0 : Nat) : Int); (let y2 : Int := ((List.length a1 : Nat) : Int); (cb (!decide (y1 = y2)) (some false) (let y3 : Int := ((List.length a0 : Nat) : Int); (ob (Q7.l0 a0 a1 y3 (0 : Int)) fun r8 => (Z22 r8 (fun a9 => (some a9)) (fun b10 => (some true))))))))
noncomputable def Q7.fn : TFn := ⟨[(.slice (.pair .str (.pair (.int .i64) (.int .i64)))), (.slice (.pair .str (.pair (.int .i64) (.int .i64))))], [.bool], fun x => Q7.f x.1 x.2⟩
noncomputable def Q7.C : Cx := ⟨T, TYt, lkF [], lkO [], lkD [(6, 8, [(0, true), (1, true), (2, true), (3, true), (4, true), (5, true), (6, true), (7, true)], none)], lkP [], [], [], false, [78], [], lkS [], 26⟩
theorem Q7.hC : CxOK Tryz.prog Q7.C := ⟨tabOK, FsOK.nil, OsOK.nil, mixed, (fun t h => Zj2 [78] (by kernel_rfl) t h), (fun t e h => by cases h), SsOK.nil⟩
noncomputable def Q7.root : Code := Z6 Tryz.f55
theorem Q7.h0 : LsOK Tryz.prog Q7.C Q7.root (lkL [([0, 1, 0, 1, 1], Q7.e0)]) :=
 LsOK.cons Q7.hC (LsOK.nil) (by kernel_rfl) (fun iv x => by kernel_rfl)
theorem Q7.ok : FnOK Tryz.prog 55 Q7.fn := .qq Q7.root Q7.hC Tryz.func55 (lkL [([0, 1, 0, 1, 1], Q7.e0)]) [.tmp 4] Q7.h0 fun x => by kernel_rfl
noncomputable def Qu.f (a0 : (List (ByteArray × (ByteArray × (ByteArray × (ByteArray × (Int × ((List ByteArray) × ByteArray)))))))) (a1 : (List (Int × (ByteArray × Int)))) : Option Bool :=
 (ob (Q1n.f a0) fun r1 => (ob (Qs.f a1) fun r2 => (ob (Q1w.f a0 a1) fun r3 => (ob (Q1v.f r1 r2) fun r4 => (cb (!decide (r3.2 = r4.2)) (some false) (ob (Q8.f r3.1 r4.1) fun r5 => (cb (!r5) (some false) (ob (Q23.f a0 a1) fun r6 => (ob (Q22.f r1 r2) fun r7 => (cb (!decide (r6.2 = r7.2)) (some false) (ob (Qg.f r6.1 r7.1) fun r8 => (cb (!r8) (some false) (ob (Ql.f a0 a1) fun r9 => (ob (Q9.f r1 r2) fun r10 => (cb (decide (r9.2 = r10.2)) (ob (Q7.f r9.1 r10.1) fun r11 => (cb r11 (ob (Q1m.f a0 r1) fun r12 => (cb r12 (ob (Q6.f a1 r2) fun r13 => (cb r13 (ob (Q2m.f) fun r14 => (some r14)) (some false))) (some false))) (some false))) (some false))))))))))))))))
noncomputable def Qu.fn : TFn := ⟨[(.slice (.pair .str (.pair .str (.pair .str (.pair .str (.pair (.int .i64) (.pair (.slice .str) .str))))))), (.slice (.pair (.int .i64) (.pair .str (.int .i64))))], [.bool], fun x => Qu.f x.1 x.2⟩
noncomputable def Qu.C : Cx := cxC [((20, []), Q2m.fn), ((34, [0]), Q1n.fn), ((38, [0, 0]), Q8.fn), ((40, [0, 0]), Q1m.fn), ((42, [0, 0]), Q23.fn), ((46, [0, 0]), Q1w.fn), ((49, [0]), Qs.fn), ((50, [0, 0]), Q1v.fn), ((51, [0, 0]), Q22.fn), ((52, [0, 0]), Qg.fn), ((53, [0, 0]), Ql.fn), ((54, [0, 0]), Q9.fn), ((55, [0, 0]), Q7.fn), ((56, [0, 0]), Q6.fn)] 94
theorem Qu.hC : CxOK Tryz.prog Qu.C := cxq (FsOK.cons Q2m.ok (FsOK.cons Q1n.ok (FsOK.cons Q8.ok (FsOK.cons Q1m.ok (FsOK.cons Q23.ok (FsOK.cons Q1w.ok (FsOK.cons Qs.ok (FsOK.cons Q1v.ok (FsOK.cons Q22.ok (FsOK.cons Qg.ok (FsOK.cons Ql.ok (FsOK.cons Q9.ok (FsOK.cons Q7.ok (FsOK.cons Q6.ok (FsOK.nil)))))))))))))))
noncomputable def Qu.root : Code := Z6 Tryz.f11
theorem Qu.ok : FnOK Tryz.prog 11 Qu.fn := .qq Qu.root Qu.hC Tryz.func11 (lkL []) [.tmp 4] LsOK.nil fun x => by kernel_rfl
end Go.Proofs.YtahlodpolggeiaaGreatDoor
