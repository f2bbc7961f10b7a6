/-
  The functions of the trust package and of its laws, printed, each with its proof that the code computes it. No condition.
-/
import Derived.Test.YtahlodpolggeiaaGreatDoorTypes
set_option linter.unusedVariables false
set_option maxRecDepth 100000
namespace Go.Proofs.YtahlodpolggeiaaGreatDoor
open Go Go.Proofs.YtahlodpolggeiaaGreatDoor.Eng
@[reducible] noncomputable def cxC (F : List ((Nat × List Nat) × TFn)) (n : Nat) : Cx := ⟨T, TYt, lkF F, lkO [], lkD [], lkP [], [], [], false, [], [], lkS [], n, lkW [], 0⟩
theorem cxq {F : List ((Nat × List Nat) × TFn)} {D : Nat → Option (Nat × List (Nat × Bool) × Option (Nat × List (Nat × Bool) × Nat × List (Nat × Bool)))} {DP : Nat → Option (Nat × Plan)} {FZ TR : List Nat} {wr : Bool} {n : Nat} (h : FsOK Tryz.prog F) : CxOK Tryz.prog ⟨T, TYt, lkF F, lkO [], D, DP, FZ, [], wr, [], TR, lkS [], n, lkW [], 0⟩ :=
 ⟨tabOK, h, OsOK.nil, mixed, (fun t h => by cases h), (fun t e h => by cases h), SsOK.nil, WsOK.nil⟩
def bs_ : ByteArray := ⟨#[]⟩
def Q2c : ByteArray := ⟨#[10]⟩
def Q2h : ByteArray := ⟨#[115]⟩
def Q2g : ByteArray := ⟨#[32]⟩
def Q2j : ByteArray := ⟨#[46]⟩
def Q2i : ByteArray := ⟨#[46, 46]⟩
def Q2a : ByteArray := ⟨#[46, 95, 45, 43]⟩
def Q2e : ByteArray := ⟨#[47]⟩
def Q1m : ByteArray := ⟨#[47, 47]⟩
def Q20 : ByteArray := ⟨#[47, 47, 97, 112, 112]⟩
def Q13 : ByteArray := ⟨#[47, 47, 97, 112, 112, 108, 101, 58, 120]⟩
def Qg : ByteArray := ⟨#[48, 49, 50, 51, 52, 53, 54, 55, 56, 57, 97, 98, 99, 100, 101, 102]⟩
def Q2d : ByteArray := ⟨#[58]⟩
def Q2f : ByteArray := ⟨#[97]⟩
def Qy : ByteArray := ⟨#[97, 98, 99, 100, 101, 102, 103, 104, 105, 106, 107, 108, 109, 110, 111, 112, 113, 114, 115, 116, 117, 118, 119, 120, 121, 122, 48, 49, 50, 51, 52, 53, 54, 55, 56, 57, 95, 45]⟩
noncomputable def Q1d.f (a0 : ByteArray) : Option Bool :=
 (let y1 : Int := ((ByteArray.size a0 : Nat) : Int); (cb (decide (y1 < (1 : Int))) (some false) (let y2 : Int := ((ByteArray.size a0 : Nat) : Int); (cb (decide ((40 : Int) < y2)) (some false) (ck (0 ≤ (0 : Int) ∧ (0 : Int) < ((ByteArray.size a0 : Nat) : Int)) (cb (decide (((UInt8.toNat (bt a0 (0 : Int)) : Nat) : Int) < (97 : Int))) (some false) (ck (0 ≤ (0 : Int) ∧ (0 : Int) < ((ByteArray.size a0 : Nat) : Int)) (cb (decide ((122 : Int) < ((UInt8.toNat (bt a0 (0 : Int)) : Nat) : Int))) (some false) (ob (Q28.f a0 Qy) fun r3 => (some (decide (r3 = bs_))))))))))))
noncomputable def Q1d.fn : TFn := ⟨[.str], [.bool], fun x => Q1d.f x⟩
noncomputable def Q1d.C : Cx := cxC [((121, [0, 0]), Q28.fn)] 24
theorem Q1d.hC : CxOK Tryz.prog Q1d.C := cxq (FsOK.cons Q28.ok (FsOK.nil))
noncomputable def Q1d.root : Code := Z5 Tryz.f76
theorem Q1d.ok : FnOK Tryz.prog 76 Q1d.fn := .qq Q1d.root Q1d.hC Tryz.func76 (lkL []) [.tmp 2] LsOK.nil fun x => by kernel_rfl
noncomputable def Q1g.f (a0 : ByteArray) : Option Bool :=
 (ob (Q1n.f a0 ()) fun r1 => (some (!r1)))
noncomputable def Q1g.fn : TFn := ⟨[.str], [.bool], fun x => Q1g.f x⟩
noncomputable def Q1g.C : Cx := cxC [((185, [0, 188]), Q1n.fn)] 6
theorem Q1g.hC : CxOK Tryz.prog Q1g.C := cxq (FsOK.cons Q1n.ok (FsOK.nil))
noncomputable def Q1g.root : Code := Z5 Tryz.f133
theorem Q1g.ok : FnOK Tryz.prog 133 Q1g.fn := .qq Q1g.root Q1g.hC Tryz.func133 (lkL []) [.tmp 2] LsOK.nil fun x => by kernel_rfl
noncomputable def Q1e.f (a0 : ByteArray) : Option Bool :=
 (let y1 : Int := ((ByteArray.size a0 : Nat) : Int); (cb (decide ((1 : Int) ≤ y1)) (let y2 : Int := ((ByteArray.size a0 : Nat) : Int); (cb (decide (y2 ≤ (100 : Int))) (ob (Q1g.f a0) fun r3 => (some r3)) (some false))) (some false)))
noncomputable def Q1e.fn : TFn := ⟨[.str], [.bool], fun x => Q1e.f x⟩
noncomputable def Q1e.C : Cx := cxC [((133, [0]), Q1g.fn)] 15
theorem Q1e.hC : CxOK Tryz.prog Q1e.C := cxq (FsOK.cons Q1g.ok (FsOK.nil))
noncomputable def Q1e.root : Code := Z5 Tryz.f83
theorem Q1e.ok : FnOK Tryz.prog 83 Q1e.fn := .qq Q1e.root Q1e.hC Tryz.func83 (lkL []) [.tmp 2] LsOK.nil fun x => by kernel_rfl
noncomputable def Qh.f (a0 : ByteArray) (a1 : ByteArray) : Option Bool :=
 (let y1 : Int := ((ByteArray.size a0 : Nat) : Int); (let y2 : Int := ((ByteArray.size a1 : Nat) : Int); (cb (decide (y2 ≤ y1)) (let y3 : Int := ((ByteArray.size a1 : Nat) : Int); (ck (0 ≤ y3 ∧ y3 ≤ ((ByteArray.size a0 : Nat) : Int)) (let y4 : ByteArray := (ByteArray.extract a0 0 (Int.toNat y3)); (some (decide (y4 = a1)))))) (some false))))
noncomputable def Qh.fn : TFn := ⟨[.str, .str], [.bool], fun x => Qh.f x.1 x.2⟩
noncomputable def Qh.C : Cx := cxC [] 18
theorem Qh.hC : CxOK Tryz.prog Qh.C := cxq FsOK.nil
noncomputable def Qh.root : Code := Z5 Tryz.f183
theorem Qh.ok : FnOK Tryz.prog 183 Qh.fn := .qq Qh.root Qh.hC Tryz.func183 (lkL []) [.tmp 4] LsOK.nil fun x => by kernel_rfl
noncomputable def Qz.f (a0 : ByteArray) (a1 : ByteArray) : Option Bool :=
 (ob (Qh.f a0 a1) fun r1 => (some r1))
noncomputable def Qz.fn : TFn := ⟨[.str, .str], [.bool], fun x => Qz.f x.1 x.2⟩
noncomputable def Qz.C : Cx := cxC [((183, [0, 0]), Qh.fn)] 8
theorem Qz.hC : CxOK Tryz.prog Qz.C := cxq (FsOK.cons Qh.ok (FsOK.nil))
noncomputable def Qz.root : Code := Z5 Tryz.f130
theorem Qz.ok : FnOK Tryz.prog 130 Qz.fn := .qq Qz.root Qz.hC Tryz.func130 (lkL []) [.tmp 4] LsOK.nil fun x => by kernel_rfl
noncomputable def Q14.f (a0 : Int) (a1 : Int) (a2 : Int) : Option Bool :=
 (cb (decide (a1 ≤ a0)) (some (decide (a0 ≤ a2))) (some false))
noncomputable def Q14.fn : TFn := ⟨[(.int .i64), (.int .i64), (.int .i64)], [.bool], fun x => Q14.f x.1 x.2.1 x.2.2⟩
noncomputable def Q14.C : Cx := cxC [] 15
theorem Q14.hC : CxOK Tryz.prog Q14.C := cxq FsOK.nil
noncomputable def Q14.root : Code := Z5 Tryz.f70
theorem Q14.ok : FnOK Tryz.prog 70 Q14.fn := .qq Q14.root Q14.hC Tryz.func70 (lkL []) [.tmp 6] LsOK.nil fun x => by kernel_rfl
noncomputable def Qa.s0 (v0_1 : (ByteArray × (ByteArray × ((List ByteArray) × (Int × Int))))) (v0_21 : (List ByteArray)) (v0_22 : Int) (x0_23 : Int) : Option (Int ⊕ (Int ⊕ Unit)) :=
 (cb (decide (x0_23 < v0_22)) (ck (0 ≤ x0_23 ∧ x0_23 < ((List.length v0_21 : Nat) : Int)) (let y10 : ByteArray := (rd ByteArray.empty v0_21 x0_23); (ob (Qz.f y10 Q1m) fun r11 => (cb (!r11) (some (.inr (.inl (3 : Int)))) (let y12 : Int := ((ByteArray.size y10 : Nat) : Int); (cb (decide ((1000 : Int) < y12)) (some (.inr (.inl (3 : Int)))) (ob (Q1g.f y10) fun r13 => (cb (!r13) (some (.inr (.inl (3 : Int)))) (cb (decide ((0 : Int) < x0_23)) (ck (InR (x0_23 - (1 : Int))) (ck (0 ≤ (x0_23 - (1 : Int)) ∧ (x0_23 - (1 : Int)) < ((List.length v0_1.2.2.1 : Nat) : Int)) (let y14 : ByteArray := (rd ByteArray.empty v0_1.2.2.1 (x0_23 - (1 : Int))); (cb (Z4e y10 y14 || decide (y10 = y14)) (some (.inr (.inl (8 : Int)))) (ck (InR (x0_23 + (1 : Int))) (some (.inl (x0_23 + (1 : Int))))))))) (ck (InR (x0_23 + (1 : Int))) (some (.inl (x0_23 + (1 : Int)))))))))))))) (some (.inr (.inr ()))))
noncomputable def Qa.l0 (v0_1 : (ByteArray × (ByteArray × ((List ByteArray) × (Int × Int))))) (v0_21 : (List ByteArray)) (v0_22 : Int) (x0_23 : Int) : Option (Int ⊕ Unit) :=
 Zp (fun (x : Int) => Qa.s0 v0_1 v0_21 v0_22 x) x0_23
noncomputable def Qa.e0 : Ent where
 pre := []
 inv := [(1, .rp (.pair .str (.pair .str (.pair (.slice .str) (.pair (.int .i64) (.int .i64)))))), (21, .val (.slice .str)), (22, .val (.int .i64))]
 car := ⟨[(23, .val (.int .i64))], []⟩
 exits := [(.ret, ⟨[(2, .val (.int .i64))], []⟩), (.exit 1, ⟨[], []⟩)]
 step := fun iv x => Qa.s0 iv.1 iv.2.1 iv.2.2 x
noncomputable def Qa.f (a0 : (ByteArray × (ByteArray × ((List ByteArray) × (Int × Int))))) : Option Int :=
 (ob (Q1d.f a0.1) fun r1 => (cb (!r1) (some (5 : Int)) (ob (Q1e.f a0.2.1) fun r2 => (cb (!r2) (some (3 : Int)) (let y3 : Int := ((List.length a0.2.2.1 : Nat) : Int); (cb (decide ((30 : Int) < y3)) (some (2 : Int)) (let y4 : Int := ((List.length a0.2.2.1 : Nat) : Int); (ob (Qa.l0 a0 a0.2.2.1 y4 (0 : Int)) fun r15 => (Z31 r15 (fun a16 => (some a16)) (fun b17 => (ob (Q14.f a0.2.2.2.1 (0 : Int) (1000000000 : Int)) fun r18 => (cb (!r18) (some (1 : Int)) (ob (Q14.f a0.2.2.2.2 (0 : Int) (1000000001 : Int)) fun r19 => (cb (!r19) (some (1 : Int)) (cb (decide (a0.2.2.2.2 ≤ a0.2.2.2.1)) (some (8 : Int)) (some (0 : Int)))))))))))))))))
noncomputable def Qa.fn : TFn := ⟨[(.pair .str (.pair .str (.pair (.slice .str) (.pair (.int .i64) (.int .i64)))))], [(.int .i64)], fun x => Qa.f x⟩
noncomputable def Qa.C : Cx := ⟨T, TYt, lkF [((70, [0, 0, 0]), Q14.fn), ((76, [0]), Q1d.fn), ((83, [0]), Q1e.fn), ((130, [0, 0]), Qz.fn), ((133, [0]), Q1g.fn)], lkO [], lkD [], lkP [], [1], [], false, [], [], lkS [], 69, lkW [], 0⟩
theorem Qa.hC : CxOK Tryz.prog Qa.C := cxq (FsOK.cons Q14.ok (FsOK.cons Q1d.ok (FsOK.cons Q1e.ok (FsOK.cons Qz.ok (FsOK.cons Q1g.ok (FsOK.nil))))))
noncomputable def Qa.root : Code := Z5 Tryz.f125
theorem Qa.h0 : LsOK Tryz.prog Qa.C Qa.root (lkL [([0, 1, 0, 1, 1], Qa.e0)]) :=
 LsOK.cons Qa.hC (LsOK.nil) (by kernel_rfl) (fun iv x => by kernel_rfl)
theorem Qa.ok : FnOK Tryz.prog 125 Qa.fn := .qq Qa.root Qa.hC Tryz.func125 (lkL [([0, 1, 0, 1, 1], Qa.e0)]) [.tmp 2] Qa.h0 fun x => by kernel_rfl
noncomputable def Q6.s0 (v0_0 : (List (ByteArray × (ByteArray × ((List ByteArray) × (Int × Int)))))) (v0_9 : (List (ByteArray × (ByteArray × ((List ByteArray) × (Int × Int)))))) (v0_10 : Int) (x0_11 : Int) : Option (Int ⊕ (Int ⊕ Unit)) :=
 (cb (decide (x0_11 < v0_10)) (ck (0 ≤ x0_11 ∧ x0_11 < ((List.length v0_9 : Nat) : Int)) (let y6 : (ByteArray × (ByteArray × ((List ByteArray) × (Int × Int)))) := (rd (ByteArray.empty, (ByteArray.empty, (([] : (List ByteArray)), ((0 : Int), (0 : Int))))) v0_9 x0_11); (ob (Qa.f y6) fun r7 => (cb (!decide (r7 = (0 : Int))) (some (.inr (.inl r7))) (cb (decide ((0 : Int) < x0_11)) (ck (InR (x0_11 - (1 : Int))) (ck (0 ≤ (x0_11 - (1 : Int)) ∧ (x0_11 - (1 : Int)) < ((List.length v0_0 : Nat) : Int)) (let y8 : ByteArray := (rd (ByteArray.empty, (ByteArray.empty, (([] : (List ByteArray)), ((0 : Int), (0 : Int))))) v0_0 (x0_11 - (1 : Int))).1; (cb (Z4e y6.1 y8 || decide (y6.1 = y8)) (some (.inr (.inl (8 : Int)))) (ck (InR (x0_11 + (1 : Int))) (some (.inl (x0_11 + (1 : Int))))))))) (ck (InR (x0_11 + (1 : Int))) (some (.inl (x0_11 + (1 : Int)))))))))) (some (.inr (.inr ()))))
noncomputable def Q6.l0 (v0_0 : (List (ByteArray × (ByteArray × ((List ByteArray) × (Int × Int)))))) (v0_9 : (List (ByteArray × (ByteArray × ((List ByteArray) × (Int × Int)))))) (v0_10 : Int) (x0_11 : Int) : Option (Int ⊕ Unit) :=
 Zp (fun (x : Int) => Q6.s0 v0_0 v0_9 v0_10 x) x0_11
noncomputable def Q6.e0 : Ent where
 pre := []
 inv := [(0, .val (.slice (.pair .str (.pair .str (.pair (.slice .str) (.pair (.int .i64) (.int .i64))))))), (9, .val (.slice (.pair .str (.pair .str (.pair (.slice .str) (.pair (.int .i64) (.int .i64))))))), (10, .val (.int .i64))]
 car := ⟨[(11, .val (.int .i64))], []⟩
 exits := [(.ret, ⟨[(2, .val (.int .i64))], []⟩), (.exit 0, ⟨[], []⟩)]
 step := fun iv x => Q6.s0 iv.1 iv.2.1 iv.2.2 x
noncomputable def Q6.f (a0 : (List (ByteArray × (ByteArray × ((List ByteArray) × (Int × Int)))))) : Option Int :=
 (let y1 : Int := ((List.length a0 : Nat) : Int); (cb (decide ((50 : Int) < y1)) (some (2 : Int)) (let y2 : Int := ((List.length a0 : Nat) : Int); (ob (Q6.l0 a0 a0 y2 (0 : Int)) fun r9 => (Z31 r9 (fun a10 => (some a10)) (fun b11 => (some (0 : Int))))))))
noncomputable def Q6.fn : TFn := ⟨[(.slice (.pair .str (.pair .str (.pair (.slice .str) (.pair (.int .i64) (.int .i64))))))], [(.int .i64)], fun x => Q6.f x⟩
noncomputable def Q6.C : Cx := ⟨T, TYt, lkF [((125, [0]), Qa.fn)], lkO [], lkD [(9, 11, [(0, true), (1, true), (2, true), (3, true), (4, true), (5, true), (6, true), (7, true), (8, true), (9, true), (10, true)], none)], lkP [], [4], [], false, [], [], lkS [], 35, lkW [], 0⟩
theorem Q6.hC : CxOK Tryz.prog Q6.C := cxq (FsOK.cons Qa.ok (FsOK.nil))
noncomputable def Q6.root : Code := Z5 Tryz.f75
theorem Q6.h0 : LsOK Tryz.prog Q6.C Q6.root (lkL [([0, 1, 0, 1, 1], Q6.e0)]) :=
 LsOK.cons Q6.hC (LsOK.nil) (by kernel_rfl) (fun iv x => by kernel_rfl)
theorem Q6.ok : FnOK Tryz.prog 75 Q6.fn := .qq Q6.root Q6.hC Tryz.func75 (lkL [([0, 1, 0, 1, 1], Q6.e0)]) [.tmp 2] Q6.h0 fun x => by kernel_rfl
noncomputable def Q18.f (a0 : ByteArray) : Option Bool :=
 (let y1 : Int := ((ByteArray.size a0 : Nat) : Int); (cb (decide (y1 = (16 : Int))) (ob (Q28.f a0 Qg) fun r2 => (some (decide (r2 = bs_)))) (some false)))
noncomputable def Q18.fn : TFn := ⟨[.str], [.bool], fun x => Q18.f x⟩
noncomputable def Q18.C : Cx := cxC [((121, [0, 0]), Q28.fn)] 11
theorem Q18.hC : CxOK Tryz.prog Q18.C := cxq (FsOK.cons Q28.ok (FsOK.nil))
noncomputable def Q18.root : Code := Z5 Tryz.f69
theorem Q18.ok : FnOK Tryz.prog 69 Q18.fn := .qq Q18.root Q18.hC Tryz.func69 (lkL []) [.tmp 2] LsOK.nil fun x => by kernel_rfl
noncomputable def Qs.f (a0 : ByteArray) : Option Int :=
 none
noncomputable def Qs.fn : TFn := ⟨[.str], [(.int .i64)], fun x => Qs.f x⟩
noncomputable def Qs.C : Cx := cxC [] 10
theorem Qs.hC : CxOK Tryz.prog Qs.C := cxq FsOK.nil
noncomputable def Qs.root : Code := Z5 Tryz.f250
theorem Qs.ok : FnOK Tryz.prog 250 Qs.fn := .qq Qs.root Qs.hC Tryz.func250 (lkL []) [.tmp 2] LsOK.nil fun x => by kernel_rfl
noncomputable def Qk.f (a0 : ByteArray) : Option (Int × Int) :=
 (let y1 : Int := ((ByteArray.size a0 : Nat) : Int); (cb (decide (y1 < (1 : Int))) (some ((65533 : Int), (0 : Int))) (ck (0 ≤ (0 : Int) ∧ (0 : Int) < ((ByteArray.size a0 : Nat) : Int)) none)))
noncomputable def Qk.fn : TFn := ⟨[.str], [(.int .i32), (.int .i64)], fun x => Qk.f x⟩
noncomputable def Qk.C : Cx := ⟨T, TYt, lkF [], lkO [], lkD [], lkP [], [9], [], false, [], [], lkS [], 117, lkW [], 0⟩
theorem Qk.hC : CxOK Tryz.prog Qk.C := cxq FsOK.nil
noncomputable def Qk.root : Code := Z5 Tryz.f239
theorem Qk.ok : FnOK Tryz.prog 239 Qk.fn := .qq Qk.root Qk.hC Tryz.func239 (lkL []) [.tmp 2, .tmp 3] LsOK.nil fun x => by kernel_rfl
noncomputable def Qq.f (a0 : ByteArray) : Option (Int × Int) :=
 (cb (!decide (a0 = bs_)) (ck (0 ≤ (0 : Int) ∧ (0 : Int) < ((ByteArray.size a0 : Nat) : Int)) (cb (decide (((UInt8.toNat (bt a0 (0 : Int)) : Nat) : Int) < (128 : Int))) (ck (0 ≤ (0 : Int) ∧ (0 : Int) < ((ByteArray.size a0 : Nat) : Int)) (let y1 : Int := (IntKind.i32.wrap ((UInt8.toNat (bt a0 (0 : Int)) : Nat) : Int)); (some (y1, (1 : Int))))) (ob (Qk.f a0) fun r2 => (some (r2.1, r2.2))))) (ob (Qk.f a0) fun r3 => (some (r3.1, r3.2))))
noncomputable def Qq.fn : TFn := ⟨[.str], [(.int .i32), (.int .i64)], fun x => Qq.f x⟩
noncomputable def Qq.C : Cx := cxC [((239, [0]), Qk.fn)] 19
theorem Qq.hC : CxOK Tryz.prog Qq.C := cxq (FsOK.cons Qk.ok (FsOK.nil))
noncomputable def Qq.root : Code := Z5 Tryz.f206
theorem Qq.ok : FnOK Tryz.prog 206 Qq.fn := .qq Qq.root Qq.hC Tryz.func206 (lkL []) [.tmp 2, .tmp 3] LsOK.nil fun x => by kernel_rfl
noncomputable def Qr.s0 (v0_1 : Int) (x0_0 : ByteArray) (x0_7 : Int) (o0_0 : (List ByteArray)) : Option ((ByteArray × (Int × (List ByteArray))) ⊕ (ByteArray × (List ByteArray))) :=
 (ck (InR (v0_1 - (1 : Int))) (cb (decide (x0_7 < (v0_1 - (1 : Int)))) (ob (Qq.f x0_0) fun r5 => (ck (0 ≤ r5.2 ∧ r5.2 ≤ ((ByteArray.size x0_0 : Nat) : Int)) (let y6 : ByteArray := (ByteArray.extract x0_0 0 (Int.toNat r5.2)); (ck (0 ≤ x0_7 ∧ x0_7 < ((List.length o0_0 : Nat) : Int)) (ck ((Int.toNat x0_7) < List.length o0_0) (ck (0 ≤ r5.2 ∧ r5.2 ≤ ((ByteArray.size x0_0 : Nat) : Int)) (let y7 : ByteArray := (ByteArray.extract x0_0 (Int.toNat r5.2) (ByteArray.size x0_0)); (ck (InR (x0_7 + (1 : Int))) (some (.inl (y7, (x0_7 + (1 : Int)), (List.set o0_0 (Int.toNat x0_7) y6)))))))))))) (some (.inr (x0_0, o0_0)))))
noncomputable def Qr.l0 (v0_1 : Int) (x0_0 : ByteArray) (x0_7 : Int) (o0_0 : (List ByteArray)) : Option (ByteArray × (List ByteArray)) :=
 Zp (fun (x : (ByteArray × (Int × (List ByteArray)))) => Qr.s0 v0_1 x.1 x.2.1 x.2.2) (x0_0, x0_7, o0_0)
noncomputable def Qr.e0 : Ent where
 pre := []
 inv := [(1, .val (.int .i64))]
 car := ⟨[(0, .val .str), (6, .own 0 1), (7, .val (.int .i64))], [.row 9 .str]⟩
 exits := [(.exit 0, ⟨[(0, .val .str), (6, .own 0 1)], [.row 9 .str]⟩)]
 step := fun iv x => Qr.s0 iv x.1 x.2.1 x.2.2
noncomputable def Qr.f (a0 : ByteArray) (a1 : Int) : Option (List ByteArray) :=
 (ob (Qs.f a0) fun r1 => (cb (decide (a1 < (0 : Int))) (ck (0 ≤ r1 ∧ r1 * (16 : Int) ≤ 140737488355328) (ob (Qr.l0 r1 a0 (0 : Int) (List.replicate (Int.toNat r1) ByteArray.empty)) fun r8 => (cb (decide ((0 : Int) < r1)) (ck (InR (r1 - (1 : Int))) (ck (0 ≤ (r1 - (1 : Int)) ∧ (r1 - (1 : Int)) < ((List.length r8.2 : Nat) : Int)) (ck ((Int.toNat (r1 - (1 : Int))) < List.length r8.2) (some (List.set r8.2 (Int.toNat (r1 - (1 : Int))) r8.1))))) (some r8.2)))) (cb (decide (r1 < a1)) (ck (0 ≤ r1 ∧ r1 * (16 : Int) ≤ 140737488355328) (ob (Qr.l0 r1 a0 (0 : Int) (List.replicate (Int.toNat r1) ByteArray.empty)) fun r9 => (cb (decide ((0 : Int) < r1)) (ck (InR (r1 - (1 : Int))) (ck (0 ≤ (r1 - (1 : Int)) ∧ (r1 - (1 : Int)) < ((List.length r9.2 : Nat) : Int)) (ck ((Int.toNat (r1 - (1 : Int))) < List.length r9.2) (some (List.set r9.2 (Int.toNat (r1 - (1 : Int))) r9.1))))) (some r9.2)))) (ck (0 ≤ a1 ∧ a1 * (16 : Int) ≤ 140737488355328) (ob (Qr.l0 a1 a0 (0 : Int) (List.replicate (Int.toNat a1) ByteArray.empty)) fun r10 => (cb (decide ((0 : Int) < a1)) (ck (InR (a1 - (1 : Int))) (ck (0 ≤ (a1 - (1 : Int)) ∧ (a1 - (1 : Int)) < ((List.length r10.2 : Nat) : Int)) (ck ((Int.toNat (a1 - (1 : Int))) < List.length r10.2) (some (List.set r10.2 (Int.toNat (a1 - (1 : Int))) r10.1))))) (some r10.2)))))))
noncomputable def Qr.fn : TFn := ⟨[.str, (.int .i64)], [(.slice .str)], fun x => Qr.f x.1 x.2⟩
noncomputable def Qr.C : Cx := cxC [((206, [0]), Qq.fn), ((250, [0]), Qs.fn)] 50
theorem Qr.hC : CxOK Tryz.prog Qr.C := cxq (FsOK.cons Qq.ok (FsOK.cons Qs.ok (FsOK.nil)))
noncomputable def Qr.root : Code := Z5 Tryz.f230
theorem Qr.h0 : LsOK Tryz.prog Qr.C Qr.root (lkL [([0, 1, 0, 1, 1, 1, 1], Qr.e0)]) :=
 LsOK.cons Qr.hC (LsOK.nil) (by kernel_rfl) (fun iv x => by kernel_rfl)
theorem Qr.ok : FnOK Tryz.prog 230 Qr.fn := .qq Qr.root Qr.hC Tryz.func230 (lkL [([0, 1, 0, 1, 1, 1, 1], Qr.e0)]) [.tmp 4] Qr.h0 fun x => by kernel_rfl
noncomputable def Q1u.f (a0 : ByteArray) (a1 : ByteArray) : Option Int :=
 (ob (Q1a.f a0 a1) fun r1 => (some r1))
noncomputable def Q1u.fn : TFn := ⟨[.str, .str], [(.int .i64)], fun x => Q1u.f x.1 x.2⟩
noncomputable def Q1u.C : Cx := cxC [((198, [0, 0]), Q1a.fn)] 8
theorem Q1u.hC : CxOK Tryz.prog Q1u.C := cxq (FsOK.cons Q1a.ok (FsOK.nil))
noncomputable def Q1u.root : Code := Z5 Tryz.f232
theorem Q1u.ok : FnOK Tryz.prog 232 Q1u.fn := .qq Q1u.root Q1u.hC Tryz.func232 (lkL []) [.tmp 4] LsOK.nil fun x => by kernel_rfl
noncomputable def Qi.s0 (v0_1 : ByteArray) (v0_2 : Int) (v0_3 : Int) (x0_0 : ByteArray) (x0_10 : Int) (o0_0 : (List ByteArray)) : Option ((ByteArray × (Int × (List ByteArray))) ⊕ (ByteArray × (Int × (List ByteArray)))) :=
 (cb (decide (x0_10 < v0_3)) (ob (Q1u.f x0_0 v0_1) fun r9 => (cb (decide (r9 < (0 : Int))) (some (.inr (x0_0, x0_10, o0_0))) (ck (InR (r9 + v0_2)) (ck (0 ≤ (r9 + v0_2) ∧ (r9 + v0_2) ≤ ((ByteArray.size x0_0 : Nat) : Int)) (let y10 : ByteArray := (ByteArray.extract x0_0 0 (Int.toNat (r9 + v0_2))); (ck (0 ≤ x0_10 ∧ x0_10 < ((List.length o0_0 : Nat) : Int)) (ck ((Int.toNat x0_10) < List.length o0_0) (let y11 : Int := ((ByteArray.size v0_1 : Nat) : Int); (ck (InR (r9 + y11)) (ck (0 ≤ (r9 + y11) ∧ (r9 + y11) ≤ ((ByteArray.size x0_0 : Nat) : Int)) (let y12 : ByteArray := (ByteArray.extract x0_0 (Int.toNat (r9 + y11)) (ByteArray.size x0_0)); (ck (InR (x0_10 + (1 : Int))) (some (.inl (y12, (x0_10 + (1 : Int)), (List.set o0_0 (Int.toNat x0_10) y10)))))))))))))))) (some (.inr (x0_0, x0_10, o0_0))))
noncomputable def Qi.l0 (v0_1 : ByteArray) (v0_2 : Int) (v0_3 : Int) (x0_0 : ByteArray) (x0_10 : Int) (o0_0 : (List ByteArray)) : Option (ByteArray × (Int × (List ByteArray))) :=
 Zp (fun (x : (ByteArray × (Int × (List ByteArray)))) => Qi.s0 v0_1 v0_2 v0_3 x.1 x.2.1 x.2.2) (x0_0, x0_10, o0_0)
noncomputable def Qi.e0 : Ent where
 pre := []
 inv := [(1, .val .str), (2, .val (.int .i64)), (3, .val (.int .i64))]
 car := ⟨[(0, .val .str), (9, .own 0 1), (10, .val (.int .i64))], [.row 9 .str]⟩
 exits := [(.exit 0, ⟨[(0, .val .str), (9, .own 0 1), (10, .val (.int .i64))], [.row 9 .str]⟩)]
 step := fun iv x => Qi.s0 iv.1 iv.2.1 iv.2.2 x.1 x.2.1 x.2.2
noncomputable def Qi.f (a0 : ByteArray) (a1 : ByteArray) (a2 : Int) (a3 : Int) : Option (List ByteArray) :=
 (cb (decide (a3 = (0 : Int))) (some ([] : List ByteArray)) (cb (decide (a1 = bs_)) (ob (Qr.f a0 a3) fun r1 => (some r1)) (cb (decide (a3 < (0 : Int))) (ob (Q29.f a0 a1) fun r2 => (ck (InR (r2 + (1 : Int))) (let y3 : Int := ((ByteArray.size a0 : Nat) : Int); (ck (InR (y3 + (1 : Int))) (let y4 : Int := (min (r2 + (1 : Int)) (y3 + (1 : Int))); (ck (0 ≤ y4 ∧ y4 * (16 : Int) ≤ 140737488355328) (ck (InR (y4 - (1 : Int))) (ob (Qi.l0 a1 a2 (y4 - (1 : Int)) a0 (0 : Int) (List.replicate (Int.toNat y4) ByteArray.empty)) fun r13 => (ck (0 ≤ r13.2.1 ∧ r13.2.1 < ((List.length r13.2.2 : Nat) : Int)) (ck ((Int.toNat r13.2.1) < List.length r13.2.2) (ck (InR (r13.2.1 + (1 : Int))) (ck (0 ≤ (r13.2.1 + (1 : Int)) ∧ (r13.2.1 + (1 : Int)) ≤ ((List.length (List.set r13.2.2 (Int.toNat r13.2.1) r13.1) : Nat) : Int)) (some (List.take (Int.toNat (r13.2.1 + (1 : Int))) (List.drop 0 (List.set r13.2.2 (Int.toNat r13.2.1) r13.1)))))))))))))))) (let y14 : Int := ((ByteArray.size a0 : Nat) : Int); (ck (InR (y14 + (1 : Int))) (let y15 : Int := (min a3 (y14 + (1 : Int))); (ck (0 ≤ y15 ∧ y15 * (16 : Int) ≤ 140737488355328) (ck (InR (y15 - (1 : Int))) (ob (Qi.l0 a1 a2 (y15 - (1 : Int)) a0 (0 : Int) (List.replicate (Int.toNat y15) ByteArray.empty)) fun r16 => (ck (0 ≤ r16.2.1 ∧ r16.2.1 < ((List.length r16.2.2 : Nat) : Int)) (ck ((Int.toNat r16.2.1) < List.length r16.2.2) (ck (InR (r16.2.1 + (1 : Int))) (ck (0 ≤ (r16.2.1 + (1 : Int)) ∧ (r16.2.1 + (1 : Int)) ≤ ((List.length (List.set r16.2.2 (Int.toNat r16.2.1) r16.1) : Nat) : Int)) (some (List.take (Int.toNat (r16.2.1 + (1 : Int))) (List.drop 0 (List.set r16.2.2 (Int.toNat r16.2.1) r16.1)))))))))))))))))
noncomputable def Qi.fn : TFn := ⟨[.str, .str, (.int .i64), (.int .i64)], [(.slice .str)], fun x => Qi.f x.1 x.2.1 x.2.2.1 x.2.2.2⟩
noncomputable def Qi.C : Cx := cxC [((230, [0, 0]), Qr.fn), ((231, [0, 0]), Q29.fn), ((232, [0, 0]), Q1u.fn)] 66
theorem Qi.hC : CxOK Tryz.prog Qi.C := cxq (FsOK.cons Qr.ok (FsOK.cons Q29.ok (FsOK.cons Q1u.ok (FsOK.nil))))
noncomputable def Qi.root : Code := Z5 Tryz.f199
theorem Qi.h0 : LsOK Tryz.prog Qi.C Qi.root (lkL [([0, 0, 1, 1, 1, 1, 1, 1, 1, 1], Qi.e0)]) :=
 LsOK.cons Qi.hC (LsOK.nil) (by kernel_rfl) (fun iv x => by kernel_rfl)
theorem Qi.ok : FnOK Tryz.prog 199 Qi.fn := .qq Qi.root Qi.hC Tryz.func199 (lkL [([0, 0, 1, 1, 1, 1, 1, 1, 1, 1], Qi.e0)]) [.tmp 8] Qi.h0 fun x => by kernel_rfl
noncomputable def Q1f.f (a0 : ByteArray) (a1 : ByteArray) : Option (List ByteArray) :=
 (ob (Qi.f a0 a1 (0 : Int) (-1 : Int)) fun r1 => (some r1))
noncomputable def Q1f.fn : TFn := ⟨[.str, .str], [(.slice .str)], fun x => Q1f.f x.1 x.2⟩
noncomputable def Q1f.C : Cx := cxC [((199, [0, 0, 0, 0]), Qi.fn)] 8
theorem Q1f.hC : CxOK Tryz.prog Q1f.C := cxq (FsOK.cons Qi.ok (FsOK.nil))
noncomputable def Q1f.root : Code := Z5 Tryz.f160
theorem Q1f.ok : FnOK Tryz.prog 160 Q1f.fn := .qq Q1f.root Q1f.hC Tryz.func160 (lkL []) [.tmp 4] LsOK.nil fun x => by kernel_rfl
noncomputable def Q10.f (a0 : ByteArray) (a1 : UInt8) : Option Int :=
 (ob (Q1l.f a0 a1) fun r1 => (some r1))
noncomputable def Q10.fn : TFn := ⟨[.str, .byte], [(.int .i64)], fun x => Q10.f x.1 x.2⟩
noncomputable def Q10.C : Cx := cxC [((226, [0, 0]), Q1l.fn)] 8
theorem Q10.hC : CxOK Tryz.prog Q10.C := cxq (FsOK.cons Q1l.ok (FsOK.nil))
noncomputable def Q10.root : Code := Z5 Tryz.f256
theorem Q10.ok : FnOK Tryz.prog 256 Q10.fn := .qq Q10.root Q10.hC Tryz.func256 (lkL []) [.tmp 4] LsOK.nil fun x => by kernel_rfl
noncomputable def Q21.f (a0 : UInt8) : Option Bool :=
 (cb (decide ((97 : Int) ≤ ((UInt8.toNat a0 : Nat) : Int))) (cb (decide (((UInt8.toNat a0 : Nat) : Int) ≤ (122 : Int))) (some true) (cb (decide ((65 : Int) ≤ ((UInt8.toNat a0 : Nat) : Int))) (cb (decide (((UInt8.toNat a0 : Nat) : Int) ≤ (90 : Int))) (some true) (cb (decide ((48 : Int) ≤ ((UInt8.toNat a0 : Nat) : Int))) (cb (decide (((UInt8.toNat a0 : Nat) : Int) ≤ (57 : Int))) (some true) (ob (Q10.f Q2a a0) fun r1 => (some (decide ((0 : Int) ≤ r1))))) (ob (Q10.f Q2a a0) fun r2 => (some (decide ((0 : Int) ≤ r2)))))) (cb (decide ((48 : Int) ≤ ((UInt8.toNat a0 : Nat) : Int))) (cb (decide (((UInt8.toNat a0 : Nat) : Int) ≤ (57 : Int))) (some true) (ob (Q10.f Q2a a0) fun r3 => (some (decide ((0 : Int) ≤ r3))))) (ob (Q10.f Q2a a0) fun r4 => (some (decide ((0 : Int) ≤ r4))))))) (cb (decide ((65 : Int) ≤ ((UInt8.toNat a0 : Nat) : Int))) (cb (decide (((UInt8.toNat a0 : Nat) : Int) ≤ (90 : Int))) (some true) (cb (decide ((48 : Int) ≤ ((UInt8.toNat a0 : Nat) : Int))) (cb (decide (((UInt8.toNat a0 : Nat) : Int) ≤ (57 : Int))) (some true) (ob (Q10.f Q2a a0) fun r5 => (some (decide ((0 : Int) ≤ r5))))) (ob (Q10.f Q2a a0) fun r6 => (some (decide ((0 : Int) ≤ r6)))))) (cb (decide ((48 : Int) ≤ ((UInt8.toNat a0 : Nat) : Int))) (cb (decide (((UInt8.toNat a0 : Nat) : Int) ≤ (57 : Int))) (some true) (ob (Q10.f Q2a a0) fun r7 => (some (decide ((0 : Int) ≤ r7))))) (ob (Q10.f Q2a a0) fun r8 => (some (decide ((0 : Int) ≤ r8)))))))
noncomputable def Q21.fn : TFn := ⟨[.byte], [.bool], fun x => Q21.f x⟩
noncomputable def Q21.C : Cx := cxC [((256, [0, 0]), Q10.fn)] 30
theorem Q21.hC : CxOK Tryz.prog Q21.C := cxq (FsOK.cons Q10.ok (FsOK.nil))
noncomputable def Q21.root : Code := Z5 Tryz.f242
theorem Q21.ok : FnOK Tryz.prog 242 Q21.fn := .qq Q21.root Q21.hC Tryz.func242 (lkL []) [.tmp 2] LsOK.nil fun x => by kernel_rfl
noncomputable def Q11.s0 (v0_0 : ByteArray) (v0_5 : Int) (x0_6 : Int) : Option (Int ⊕ (Bool ⊕ Unit)) :=
 (cb (decide (x0_6 < v0_5)) (ck (0 ≤ x0_6 ∧ x0_6 < ((ByteArray.size v0_0 : Nat) : Int)) (ob (Q21.f (bt v0_0 x0_6)) fun r3 => (cb (!r3) (some (.inr (.inl false))) (ck (InR (x0_6 + (1 : Int))) (some (.inl (x0_6 + (1 : Int)))))))) (some (.inr (.inr ()))))
noncomputable def Q11.l0 (v0_0 : ByteArray) (v0_5 : Int) (x0_6 : Int) : Option (Bool ⊕ Unit) :=
 Zp (fun (x : Int) => Q11.s0 v0_0 v0_5 x) x0_6
noncomputable def Q11.e0 : Ent where
 pre := []
 inv := [(0, .val .str), (5, .val (.int .i64))]
 car := ⟨[(6, .val (.int .i64))], []⟩
 exits := [(.ret, ⟨[(2, .val .bool)], []⟩), (.exit 0, ⟨[], []⟩)]
 step := fun iv x => Q11.s0 iv.1 iv.2 x
noncomputable def Q11.f (a0 : ByteArray) : Option Bool :=
 (let y1 : Int := ((ByteArray.size a0 : Nat) : Int); (ob (Q11.l0 a0 y1 (0 : Int)) fun r4 => (Z31 r4 (fun a5 => (some a5)) (fun b6 => (cb (!decide (a0 = bs_)) (cb (!decide (a0 = Q2j)) (some (!decide (a0 = Q2i))) (some false)) (some false))))))
noncomputable def Q11.fn : TFn := ⟨[.str], [.bool], fun x => Q11.f x⟩
noncomputable def Q11.C : Cx := cxC [((242, [0]), Q21.fn)] 25
theorem Q11.hC : CxOK Tryz.prog Q11.C := cxq (FsOK.cons Q21.ok (FsOK.nil))
noncomputable def Q11.root : Code := Z5 Tryz.f210
theorem Q11.h0 : LsOK Tryz.prog Q11.C Q11.root (lkL [([0, 1, 0, 1], Q11.e0)]) :=
 LsOK.cons Q11.hC (LsOK.nil) (by kernel_rfl) (fun iv x => by kernel_rfl)
theorem Q11.ok : FnOK Tryz.prog 210 Q11.fn := .qq Q11.root Q11.hC Tryz.func210 (lkL [([0, 1, 0, 1], Q11.e0)]) [.tmp 2] Q11.h0 fun x => by kernel_rfl
noncomputable def Qu.s0 (v0_14 : (List ByteArray)) (v0_15 : Int) (x0_16 : Int) : Option (Int ⊕ (Bool ⊕ Unit)) :=
 (cb (decide (x0_16 < v0_15)) (ck (0 ≤ x0_16 ∧ x0_16 < ((List.length v0_14 : Nat) : Int)) (let y7 : ByteArray := (rd ByteArray.empty v0_14 x0_16); (ob (Q11.f y7) fun r8 => (cb (!r8) (some (.inr (.inl false))) (ck (InR (x0_16 + (1 : Int))) (some (.inl (x0_16 + (1 : Int))))))))) (some (.inr (.inr ()))))
noncomputable def Qu.l0 (v0_14 : (List ByteArray)) (v0_15 : Int) (x0_16 : Int) : Option (Bool ⊕ Unit) :=
 Zp (fun (x : Int) => Qu.s0 v0_14 v0_15 x) x0_16
noncomputable def Qu.e0 : Ent where
 pre := []
 inv := [(14, .val (.slice .str)), (15, .val (.int .i64))]
 car := ⟨[(16, .val (.int .i64))], []⟩
 exits := [(.ret, ⟨[(2, .val .bool)], []⟩), (.exit 0, ⟨[], []⟩)]
 step := fun iv x => Qu.s0 iv.1 iv.2 x
noncomputable def Qu.f (a0 : ByteArray) : Option Bool :=
 (let y1 : Int := ((ByteArray.size a0 : Nat) : Int); (cb (decide (y1 < (1 : Int))) (some false) (let y2 : Int := ((ByteArray.size a0 : Nat) : Int); (cb (decide ((200 : Int) < y2)) (some false) (ob (Q1f.f a0 Q2e) fun r3 => (let y4 : Int := ((List.length r3 : Nat) : Int); (ob (Qu.l0 r3 y4 (0 : Int)) fun r9 => (Z31 r9 (fun a10 => (some a10)) (fun b11 => (some true))))))))))
noncomputable def Qu.fn : TFn := ⟨[.str], [.bool], fun x => Qu.f x⟩
noncomputable def Qu.C : Cx := cxC [((160, [0, 0]), Q1f.fn), ((210, [0]), Q11.fn)] 24
theorem Qu.hC : CxOK Tryz.prog Qu.C := cxq (FsOK.cons Q1f.ok (FsOK.cons Q11.ok (FsOK.nil)))
noncomputable def Qu.root : Code := Z5 Tryz.f178
theorem Qu.h0 : LsOK Tryz.prog Qu.C Qu.root (lkL [([0, 1, 0, 1, 1], Qu.e0)]) :=
 LsOK.cons Qu.hC (LsOK.nil) (by kernel_rfl) (fun iv x => by kernel_rfl)
theorem Qu.ok : FnOK Tryz.prog 178 Qu.fn := .qq Qu.root Qu.hC Tryz.func178 (lkL [([0, 1, 0, 1, 1], Qu.e0)]) [.tmp 2] Qu.h0 fun x => by kernel_rfl
noncomputable def Qp.f (a0 : ByteArray) (a1 : ByteArray) : Option (ByteArray × Bool) :=
 (ob (Qh.f a0 a1) fun r1 => (cb (!r1) (some (a0, false)) (let y2 : Int := ((ByteArray.size a1 : Nat) : Int); (ck (0 ≤ y2 ∧ y2 ≤ ((ByteArray.size a0 : Nat) : Int)) (let y3 : ByteArray := (ByteArray.extract a0 (Int.toNat y2) (ByteArray.size a0)); (some (y3, true)))))))
noncomputable def Qp.fn : TFn := ⟨[.str, .str], [.str, .bool], fun x => Qp.f x.1 x.2⟩
noncomputable def Qp.C : Cx := cxC [((183, [0, 0]), Qh.fn)] 15
theorem Qp.hC : CxOK Tryz.prog Qp.C := cxq (FsOK.cons Qh.ok (FsOK.nil))
noncomputable def Qp.root : Code := Z5 Tryz.f211
theorem Qp.ok : FnOK Tryz.prog 211 Qp.fn := .qq Qp.root Qp.hC Tryz.func211 (lkL []) [.tmp 4, .tmp 5] LsOK.nil fun x => by kernel_rfl
noncomputable def Q17.f (a0 : ByteArray) (a1 : ByteArray) : Option (ByteArray × Bool) :=
 (ob (Qp.f a0 a1) fun r1 => (some (r1.1, r1.2)))
noncomputable def Q17.fn : TFn := ⟨[.str, .str], [.str, .bool], fun x => Q17.f x.1 x.2⟩
noncomputable def Q17.C : Cx := cxC [((211, [0, 0]), Qp.fn)] 11
theorem Q17.hC : CxOK Tryz.prog Q17.C := cxq (FsOK.cons Qp.ok (FsOK.nil))
noncomputable def Q17.root : Code := Z5 Tryz.f179
theorem Q17.ok : FnOK Tryz.prog 179 Q17.fn := .qq Q17.root Q17.hC Tryz.func179 (lkL []) [.tmp 4, .tmp 5] LsOK.nil fun x => by kernel_rfl
noncomputable def Q12.f (a0 : ByteArray) (a1 : ByteArray) : Option (ByteArray × (ByteArray × Bool)) :=
 (ob (Q1a.f a0 a1) fun r1 => (cb (decide ((0 : Int) ≤ r1)) (ck (0 ≤ r1 ∧ r1 ≤ ((ByteArray.size a0 : Nat) : Int)) (let y2 : ByteArray := (ByteArray.extract a0 0 (Int.toNat r1)); (let y3 : Int := ((ByteArray.size a1 : Nat) : Int); (ck (InR (r1 + y3)) (ck (0 ≤ (r1 + y3) ∧ (r1 + y3) ≤ ((ByteArray.size a0 : Nat) : Int)) (let y4 : ByteArray := (ByteArray.extract a0 (Int.toNat (r1 + y3)) (ByteArray.size a0)); (some (y2, y4, true)))))))) (some (a0, bs_, false))))
noncomputable def Q12.fn : TFn := ⟨[.str, .str], [.str, .str, .bool], fun x => Q12.f x.1 x.2⟩
noncomputable def Q12.C : Cx := ⟨T, TYt, lkF [((198, [0, 0]), Q1a.fn)], lkO [], lkD [(3, 10, [(0, true), (1, true), (2, true), (3, true), (4, true), (5, true), (6, true), (7, true), (8, true), (9, true)], none)], lkP [], [], [], false, [], [], lkS [], 23, lkW [], 0⟩
theorem Q12.hC : CxOK Tryz.prog Q12.C := cxq (FsOK.cons Q1a.ok (FsOK.nil))
noncomputable def Q12.root : Code := Z5 Tryz.f159
theorem Q12.ok : FnOK Tryz.prog 159 Q12.fn := .qq Q12.root Q12.hC Tryz.func159 (lkL []) [.tmp 4, .tmp 5, .tmp 6] LsOK.nil fun x => by kernel_rfl
noncomputable def Q1w.f (a0 : ByteArray) (a1 : ByteArray) : Option (ByteArray × (ByteArray × Bool)) :=
 (ob (Q12.f a0 a1) fun r1 => (some (r1.1, r1.2.1, r1.2.2)))
noncomputable def Q1w.fn : TFn := ⟨[.str, .str], [.str, .str, .bool], fun x => Q1w.f x.1 x.2⟩
noncomputable def Q1w.C : Cx := cxC [((159, [0, 0]), Q12.fn)] 13
theorem Q1w.hC : CxOK Tryz.prog Q1w.C := cxq (FsOK.cons Q12.ok (FsOK.nil))
noncomputable def Q1w.root : Code := Z5 Tryz.f104
theorem Q1w.ok : FnOK Tryz.prog 104 Q1w.fn := .qq Q1w.root Q1w.hC Tryz.func104 (lkL []) [.tmp 4, .tmp 5, .tmp 6] LsOK.nil fun x => by kernel_rfl
noncomputable def Q2.s0 (v0_0 : ByteArray) (v0_1 : UInt8) (x0_5 : Int) : Option (Int ⊕ (Int ⊕ Unit)) :=
 (cb (decide ((0 : Int) ≤ x0_5)) (ck (0 ≤ x0_5 ∧ x0_5 < ((ByteArray.size v0_0 : Nat) : Int)) (cb (decide (((UInt8.toNat (bt v0_0 x0_5) : Nat) : Int) = ((UInt8.toNat v0_1 : Nat) : Int))) (some (.inr (.inl x0_5))) (ck (InR (x0_5 - (1 : Int))) (some (.inl (x0_5 - (1 : Int))))))) (some (.inr (.inr ()))))
noncomputable def Q2.l0 (v0_0 : ByteArray) (v0_1 : UInt8) (x0_5 : Int) : Option (Int ⊕ Unit) :=
 Zp (fun (x : Int) => Q2.s0 v0_0 v0_1 x) x0_5
noncomputable def Q2.e0 : Ent where
 pre := []
 inv := [(0, .val .str), (1, .val .byte)]
 car := ⟨[(5, .val (.int .i64))], []⟩
 exits := [(.ret, ⟨[(4, .val (.int .i64))], []⟩), (.exit 0, ⟨[], []⟩)]
 step := fun iv x => Q2.s0 iv.1 iv.2 x
noncomputable def Q2.f (a0 : ByteArray) (a1 : UInt8) : Option Int :=
 (let y1 : Int := ((ByteArray.size a0 : Nat) : Int); (ck (InR (y1 - (1 : Int))) (ob (Q2.l0 a0 a1 (y1 - (1 : Int))) fun r2 => (Z31 r2 (fun a3 => (some a3)) (fun b4 => (some (-1 : Int)))))))
noncomputable def Q2.fn : TFn := ⟨[.str, .byte], [(.int .i64)], fun x => Q2.f x.1 x.2⟩
noncomputable def Q2.C : Cx := cxC [] 19
theorem Q2.hC : CxOK Tryz.prog Q2.C := cxq FsOK.nil
noncomputable def Q2.root : Code := Z5 Tryz.f243
theorem Q2.h0 : LsOK Tryz.prog Q2.C Q2.root (lkL [([0, 1, 0, 1], Q2.e0)]) :=
 LsOK.cons Q2.hC (LsOK.nil) (by kernel_rfl) (fun iv x => by kernel_rfl)
theorem Q2.ok : FnOK Tryz.prog 243 Q2.fn := .qq Q2.root Q2.hC Tryz.func243 (lkL [([0, 1, 0, 1], Q2.e0)]) [.tmp 4] Q2.h0 fun x => by kernel_rfl
noncomputable def Q19.f (a0 : ByteArray) (a1 : UInt8) : Option Int :=
 (ob (Q2.f a0 a1) fun r1 => (some r1))
noncomputable def Q19.fn : TFn := ⟨[.str, .byte], [(.int .i64)], fun x => Q19.f x.1 x.2⟩
noncomputable def Q19.C : Cx := cxC [((243, [0, 0]), Q2.fn)] 8
theorem Q19.hC : CxOK Tryz.prog Q19.C := cxq (FsOK.cons Q2.ok (FsOK.nil))
noncomputable def Q19.root : Code := Z5 Tryz.f212
theorem Q19.ok : FnOK Tryz.prog 212 Q19.fn := .qq Q19.root Q19.hC Tryz.func212 (lkL []) [.tmp 4] LsOK.nil fun x => by kernel_rfl
noncomputable def Q1x.f (a0 : ByteArray) : Option ByteArray :=
 (ob (Q19.f a0 (UInt8.ofInt (47 : Int))) fun r1 => (ck (InR (r1 + (1 : Int))) (ck (0 ≤ (r1 + (1 : Int)) ∧ (r1 + (1 : Int)) ≤ ((ByteArray.size a0 : Nat) : Int)) (let y2 : ByteArray := (ByteArray.extract a0 (Int.toNat (r1 + (1 : Int))) (ByteArray.size a0)); (some y2)))))
noncomputable def Q1x.fn : TFn := ⟨[.str], [.str], fun x => Q1x.f x⟩
noncomputable def Q1x.C : Cx := cxC [((212, [0, 0]), Q19.fn)] 8
theorem Q1x.hC : CxOK Tryz.prog Q1x.C := cxq (FsOK.cons Q19.ok (FsOK.nil))
noncomputable def Q1x.root : Code := Z5 Tryz.f180
theorem Q1x.ok : FnOK Tryz.prog 180 Q1x.fn := .qq Q1x.root Q1x.hC Tryz.func180 (lkL []) [.tmp 2] LsOK.nil fun x => by kernel_rfl
noncomputable def Qw.f (a0 : (ByteArray × ByteArray)) : Option Int :=
 (cb (!decide (a0.1 = bs_)) (ob (Qu.f a0.1) fun r1 => (cb (!r1) (some (3 : Int)) (ob (Qu.f a0.2) fun r2 => (cb (!r2) (some (3 : Int)) (some (0 : Int)))))) (ob (Qu.f a0.2) fun r3 => (cb (!r3) (some (3 : Int)) (some (0 : Int)))))
noncomputable def Qw.fn : TFn := ⟨[(.pair .str .str)], [(.int .i64)], fun x => Qw.f x⟩
noncomputable def Qw.C : Cx := ⟨T, TYt, lkF [((178, [0]), Qu.fn)], lkO [], lkD [], lkP [], [1], [], false, [], [], lkS [], 18, lkW [], 0⟩
theorem Qw.hC : CxOK Tryz.prog Qw.C := cxq (FsOK.cons Qu.ok (FsOK.nil))
noncomputable def Qw.root : Code := Z5 Tryz.f181
theorem Qw.ok : FnOK Tryz.prog 181 Qw.fn := .qq Qw.root Qw.hC Tryz.func181 (lkL []) [.tmp 2] LsOK.nil fun x => by kernel_rfl
noncomputable def Q1h.f (a0 : ByteArray) (a1 : ByteArray) : Option ((ByteArray × ByteArray) × Int) :=
 (cb (!decide (a1 = bs_)) (ob (Qu.f a1) fun r1 => (cb (!r1) (some ((bs_, bs_), (3 : Int))) (ob (Q17.f a0 Q1m) fun r2 => (ob (Q17.f a0 Q2d) fun r3 => (cb r2.2 (ob (Q1w.f r2.1 Q2d) fun r4 => (cb (!r4.2.2) (ob (Q1x.f r4.1) fun r5 => (ob (Qw.f (r4.1, r5)) fun r6 => (cb (!decide (r6 = (0 : Int))) (some ((bs_, bs_), (10 : Int))) (some ((r4.1, r5), (0 : Int)))))) (ob (Qw.f (r4.1, r4.2.1)) fun r7 => (cb (!decide (r7 = (0 : Int))) (some ((bs_, bs_), (10 : Int))) (some ((r4.1, r4.2.1), (0 : Int))))))) (cb r3.2 (ob (Qw.f (a1, r3.1)) fun r8 => (cb (!decide (r8 = (0 : Int))) (some ((bs_, bs_), (10 : Int))) (some ((a1, r3.1), (0 : Int))))) (ob (Qw.f (bs_, bs_)) fun r9 => (cb (!decide (r9 = (0 : Int))) (some ((bs_, bs_), (10 : Int))) (some ((bs_, bs_), (0 : Int))))))))))) (ob (Q17.f a0 Q1m) fun r10 => (ob (Q17.f a0 Q2d) fun r11 => (cb r10.2 (ob (Q1w.f r10.1 Q2d) fun r12 => (cb (!r12.2.2) (ob (Q1x.f r12.1) fun r13 => (ob (Qw.f (r12.1, r13)) fun r14 => (cb (!decide (r14 = (0 : Int))) (some ((bs_, bs_), (10 : Int))) (some ((r12.1, r13), (0 : Int)))))) (ob (Qw.f (r12.1, r12.2.1)) fun r15 => (cb (!decide (r15 = (0 : Int))) (some ((bs_, bs_), (10 : Int))) (some ((r12.1, r12.2.1), (0 : Int))))))) (cb r11.2 (ob (Qw.f (a1, r11.1)) fun r16 => (cb (!decide (r16 = (0 : Int))) (some ((bs_, bs_), (10 : Int))) (some ((a1, r11.1), (0 : Int))))) (ob (Qw.f (bs_, bs_)) fun r17 => (cb (!decide (r17 = (0 : Int))) (some ((bs_, bs_), (10 : Int))) (some ((bs_, bs_), (0 : Int))))))))))
noncomputable def Q1h.fn : TFn := ⟨[.str, .str], [(.pair .str .str), (.int .i64)], fun x => Q1h.f x.1 x.2⟩
noncomputable def Q1h.C : Cx := cxC [((104, [0, 0]), Q1w.fn), ((178, [0]), Qu.fn), ((179, [0, 0]), Q17.fn), ((180, [0]), Q1x.fn), ((181, [0]), Qw.fn)] 56
theorem Q1h.hC : CxOK Tryz.prog Q1h.C := cxq (FsOK.cons Q1w.ok (FsOK.cons Qu.ok (FsOK.cons Q17.ok (FsOK.cons Q1x.ok (FsOK.cons Qw.ok (FsOK.nil))))))
noncomputable def Q1h.root : Code := Z5 Tryz.f126
theorem Q1h.ok : FnOK Tryz.prog 126 Q1h.fn := .qq Q1h.root Q1h.hC Tryz.func126 (lkL []) [.cell 4 154, .tmp 5] LsOK.nil fun x => by kernel_rfl
noncomputable def Q1r.f (a0 : (ByteArray × ByteArray)) : Option ByteArray :=
 (ck (((ByteArray.size Q1m + ByteArray.size a0.1 : Nat) : Int) ≤ 9223372036854775807) (ck (((ByteArray.size (Q1m ++ a0.1) + ByteArray.size Q2d : Nat) : Int) ≤ 9223372036854775807) (let y1 : ByteArray := ((Q1m ++ a0.1) ++ Q2d); (ck (((ByteArray.size y1 + ByteArray.size a0.2 : Nat) : Int) ≤ 9223372036854775807) (some (y1 ++ a0.2))))))
noncomputable def Q1r.fn : TFn := ⟨[(.pair .str .str)], [.str], fun x => Q1r.f x⟩
noncomputable def Q1r.C : Cx := ⟨T, TYt, lkF [], lkO [], lkD [], lkP [], [1], [], false, [], [], lkS [], 10, lkW [], 0⟩
theorem Q1r.hC : CxOK Tryz.prog Q1r.C := cxq FsOK.nil
noncomputable def Q1r.root : Code := Z5 Tryz.f127
theorem Q1r.ok : FnOK Tryz.prog 127 Q1r.fn := .qq Q1r.root Q1r.hC Tryz.func127 (lkL []) [.tmp 2] LsOK.nil fun x => by kernel_rfl
noncomputable def Q1b.f (a0 : ByteArray) : Option Bool :=
 (ob (Q1h.f a0 bs_) fun r1 => (cb (decide (r1.2 = (0 : Int))) (ob (Q1r.f r1.1) fun r2 => (some (decide (r2 = a0)))) (some false)))
noncomputable def Q1b.fn : TFn := ⟨[.str], [.bool], fun x => Q1b.f x⟩
noncomputable def Q1b.C : Cx := ⟨T, TYt, lkF [((126, [0, 0]), Q1h.fn), ((127, [0]), Q1r.fn)], lkO [], lkD [], lkP [], [3], [], false, [], [], lkS [], 18, lkW [], 0⟩
theorem Q1b.hC : CxOK Tryz.prog Q1b.C := cxq (FsOK.cons Q1h.ok (FsOK.cons Q1r.ok (FsOK.nil)))
noncomputable def Q1b.root : Code := Z5 Tryz.f77
theorem Q1b.ok : FnOK Tryz.prog 77 Q1b.fn := .qq Q1b.root Q1b.hC Tryz.func77 (lkL []) [.tmp 2] LsOK.nil fun x => by kernel_rfl
noncomputable def Q9.s0 (v0_1 : (ByteArray × (ByteArray × (ByteArray × (ByteArray × (Int × ((List ByteArray) × ByteArray))))))) (v0_36 : (List ByteArray)) (v0_37 : Int) (x0_38 : Int) : Option (Int ⊕ (Int ⊕ Unit)) :=
 (cb (decide (x0_38 < v0_37)) (ck (0 ≤ x0_38 ∧ x0_38 < ((List.length v0_36 : Nat) : Int)) (let y11 : ByteArray := (rd ByteArray.empty v0_36 x0_38); (ob (Q18.f y11) fun r12 => (cb (!r12) (some (.inr (.inl (3 : Int)))) (cb (decide ((0 : Int) < x0_38)) (ck (InR (x0_38 - (1 : Int))) (ck (0 ≤ (x0_38 - (1 : Int)) ∧ (x0_38 - (1 : Int)) < ((List.length v0_1.2.2.2.2.2.1 : Nat) : Int)) (let y13 : ByteArray := (rd ByteArray.empty v0_1.2.2.2.2.2.1 (x0_38 - (1 : Int))); (cb (Z4e y11 y13 || decide (y11 = y13)) (some (.inr (.inl (8 : Int)))) (ck (InR (x0_38 + (1 : Int))) (some (.inl (x0_38 + (1 : Int))))))))) (ck (InR (x0_38 + (1 : Int))) (some (.inl (x0_38 + (1 : Int)))))))))) (some (.inr (.inr ()))))
noncomputable def Q9.l0 (v0_1 : (ByteArray × (ByteArray × (ByteArray × (ByteArray × (Int × ((List ByteArray) × ByteArray))))))) (v0_36 : (List ByteArray)) (v0_37 : Int) (x0_38 : Int) : Option (Int ⊕ Unit) :=
 Zp (fun (x : Int) => Q9.s0 v0_1 v0_36 v0_37 x) x0_38
noncomputable def Q9.e0 : Ent where
 pre := []
 inv := [(1, .rp (.pair .str (.pair .str (.pair .str (.pair .str (.pair (.int .i64) (.pair (.slice .str) .str))))))), (36, .val (.slice .str)), (37, .val (.int .i64))]
 car := ⟨[(38, .val (.int .i64))], []⟩
 exits := [(.ret, ⟨[(2, .val (.int .i64))], []⟩), (.exit 1, ⟨[], []⟩)]
 step := fun iv x => Q9.s0 iv.1 iv.2.1 iv.2.2 x
noncomputable def Q9.f (a0 : (ByteArray × (ByteArray × (ByteArray × (ByteArray × (Int × ((List ByteArray) × ByteArray))))))) : Option Int :=
 (ob (Q18.f a0.1) fun r1 => (cb (!r1) (some (3 : Int)) (ob (Q1b.f a0.2.1) fun r2 => (cb (!r2) (some (10 : Int)) (ob (Q18.f a0.2.2.1) fun r3 => (cb (!r3) (some (3 : Int)) (ob (Q1d.f a0.2.2.2.1) fun r4 => (cb (!r4) (some (5 : Int)) (ob (Q14.f a0.2.2.2.2.1 (0 : Int) (1000000000 : Int)) fun r5 => (cb (!r5) (some (1 : Int)) (let y6 : Int := ((List.length a0.2.2.2.2.2.1 : Nat) : Int); (cb (decide ((50 : Int) < y6)) (some (2 : Int)) (let y7 : Int := ((List.length a0.2.2.2.2.2.1 : Nat) : Int); (ob (Q9.l0 a0 a0.2.2.2.2.2.1 y7 (0 : Int)) fun r14 => (Z31 r14 (fun a15 => (some a15)) (fun b16 => (cb (!decide (a0.2.2.2.2.2.2 = bs_)) (ob (Q18.f a0.2.2.2.2.2.2) fun r17 => (cb (!r17) (some (3 : Int)) (some (0 : Int)))) (some (0 : Int)))))))))))))))))))
noncomputable def Q9.fn : TFn := ⟨[(.pair .str (.pair .str (.pair .str (.pair .str (.pair (.int .i64) (.pair (.slice .str) .str))))))], [(.int .i64)], fun x => Q9.f x⟩
noncomputable def Q9.C : Cx := ⟨T, TYt, lkF [((69, [0]), Q18.fn), ((70, [0, 0, 0]), Q14.fn), ((76, [0]), Q1d.fn), ((77, [0]), Q1b.fn)], lkO [], lkD [], lkP [], [1], [], false, [], [], lkS [], 68, lkW [], 0⟩
theorem Q9.hC : CxOK Tryz.prog Q9.C := cxq (FsOK.cons Q18.ok (FsOK.cons Q14.ok (FsOK.cons Q1d.ok (FsOK.cons Q1b.ok (FsOK.nil)))))
noncomputable def Q9.root : Code := Z5 Tryz.f84
theorem Q9.h0 : LsOK Tryz.prog Q9.C Q9.root (lkL [([0, 1, 0, 1, 1], Q9.e0)]) :=
 LsOK.cons Q9.hC (LsOK.nil) (by kernel_rfl) (fun iv x => by kernel_rfl)
theorem Q9.ok : FnOK Tryz.prog 84 Q9.fn := .qq Q9.root Q9.hC Tryz.func84 (lkL [([0, 1, 0, 1, 1], Q9.e0)]) [.tmp 2] Q9.h0 fun x => by kernel_rfl
noncomputable def Qn.s0 (v0_0 : (List (ByteArray × (ByteArray × (ByteArray × (ByteArray × (Int × ((List ByteArray) × ByteArray)))))))) (v0_9 : (List (ByteArray × (ByteArray × (ByteArray × (ByteArray × (Int × ((List ByteArray) × ByteArray)))))))) (v0_10 : Int) (x0_11 : Int) : Option (Int ⊕ (Int ⊕ Unit)) :=
 (cb (decide (x0_11 < v0_10)) (ck (0 ≤ x0_11 ∧ x0_11 < ((List.length v0_9 : Nat) : Int)) (let y6 : (ByteArray × (ByteArray × (ByteArray × (ByteArray × (Int × ((List ByteArray) × ByteArray)))))) := (rd (ByteArray.empty, (ByteArray.empty, (ByteArray.empty, (ByteArray.empty, ((0 : Int), (([] : (List ByteArray)), ByteArray.empty)))))) v0_9 x0_11); (ob (Q9.f y6) fun r7 => (cb (!decide (r7 = (0 : Int))) (some (.inr (.inl r7))) (cb (decide (y6.2.2.2.2.2.2 = bs_)) (some (.inr (.inl (3 : Int)))) (cb (decide ((0 : Int) < x0_11)) (ck (InR (x0_11 - (1 : Int))) (ck (0 ≤ (x0_11 - (1 : Int)) ∧ (x0_11 - (1 : Int)) < ((List.length v0_0 : Nat) : Int)) (let y8 : Int := (rd (ByteArray.empty, (ByteArray.empty, (ByteArray.empty, (ByteArray.empty, ((0 : Int), (([] : (List ByteArray)), ByteArray.empty)))))) v0_0 (x0_11 - (1 : Int))).2.2.2.2.1; (cb (decide (y6.2.2.2.2.1 < y8)) (some (.inr (.inl (8 : Int)))) (ck (InR (x0_11 + (1 : Int))) (some (.inl (x0_11 + (1 : Int))))))))) (ck (InR (x0_11 + (1 : Int))) (some (.inl (x0_11 + (1 : Int))))))))))) (some (.inr (.inr ()))))
noncomputable def Qn.l0 (v0_0 : (List (ByteArray × (ByteArray × (ByteArray × (ByteArray × (Int × ((List ByteArray) × ByteArray)))))))) (v0_9 : (List (ByteArray × (ByteArray × (ByteArray × (ByteArray × (Int × ((List ByteArray) × ByteArray)))))))) (v0_10 : Int) (x0_11 : Int) : Option (Int ⊕ Unit) :=
 Zp (fun (x : Int) => Qn.s0 v0_0 v0_9 v0_10 x) x0_11
noncomputable def Qn.e0 : Ent where
 pre := []
 inv := [(0, .val (.slice (.pair .str (.pair .str (.pair .str (.pair .str (.pair (.int .i64) (.pair (.slice .str) .str)))))))), (9, .val (.slice (.pair .str (.pair .str (.pair .str (.pair .str (.pair (.int .i64) (.pair (.slice .str) .str)))))))), (10, .val (.int .i64))]
 car := ⟨[(11, .val (.int .i64))], []⟩
 exits := [(.ret, ⟨[(2, .val (.int .i64))], []⟩), (.exit 0, ⟨[], []⟩)]
 step := fun iv x => Qn.s0 iv.1 iv.2.1 iv.2.2 x
noncomputable def Qn.f (a0 : (List (ByteArray × (ByteArray × (ByteArray × (ByteArray × (Int × ((List ByteArray) × ByteArray)))))))) : Option Int :=
 (let y1 : Int := ((List.length a0 : Nat) : Int); (cb (decide ((1000 : Int) < y1)) (some (2 : Int)) (let y2 : Int := ((List.length a0 : Nat) : Int); (ob (Qn.l0 a0 a0 y2 (0 : Int)) fun r9 => (Z31 r9 (fun a10 => (some a10)) (fun b11 => (some (0 : Int))))))))
noncomputable def Qn.fn : TFn := ⟨[(.slice (.pair .str (.pair .str (.pair .str (.pair .str (.pair (.int .i64) (.pair (.slice .str) .str)))))))], [(.int .i64)], fun x => Qn.f x⟩
noncomputable def Qn.C : Cx := ⟨T, TYt, lkF [((84, [0]), Q9.fn)], lkO [], lkD [(11, 11, [(0, true), (1, true), (2, true), (3, true), (4, true), (5, true), (6, true), (7, true), (8, true), (9, true), (10, true)], none)], lkP [], [4], [], false, [], [], lkS [], 38, lkW [], 0⟩
theorem Qn.hC : CxOK Tryz.prog Qn.C := cxq (FsOK.cons Q9.ok (FsOK.nil))
noncomputable def Qn.root : Code := Z5 Tryz.f36
theorem Qn.h0 : LsOK Tryz.prog Qn.C Qn.root (lkL [([0, 1, 0, 1, 1], Qn.e0)]) :=
 LsOK.cons Qn.hC (LsOK.nil) (by kernel_rfl) (fun iv x => by kernel_rfl)
theorem Qn.ok : FnOK Tryz.prog 36 Qn.fn := .qq Qn.root Qn.hC Tryz.func36 (lkL [([0, 1, 0, 1, 1], Qn.e0)]) [.tmp 2] Qn.h0 fun x => by kernel_rfl
noncomputable def Q5.s0 (v0_0 : (List (ByteArray × (ByteArray × (ByteArray × (ByteArray × (Int × ((List ByteArray) × ByteArray)))))))) (v0_1 : (List (Int × (ByteArray × Int)))) (v0_16 : (List (Int × (ByteArray × Int)))) (v0_17 : Int) (x0_18 : Int) : Option (Int ⊕ (Int ⊕ Unit)) :=
 (cb (decide (x0_18 < v0_17)) (ck (0 ≤ x0_18 ∧ x0_18 < ((List.length v0_16 : Nat) : Int)) (let y11 : (Int × (ByteArray × Int)) := (rd ((0 : Int), (ByteArray.empty, (0 : Int))) v0_16 x0_18); (let y12 : Int := ((List.length v0_0 : Nat) : Int); (ck (InR (y12 - (1 : Int))) (ob (Q14.f y11.1 (0 : Int) (y12 - (1 : Int))) fun r13 => (cb (!r13) (some (.inr (.inl (9 : Int)))) (ob (Q18.f y11.2.1) fun r14 => (cb (!r14) (some (.inr (.inl (3 : Int)))) (ck (0 ≤ y11.1 ∧ y11.1 < ((List.length v0_0 : Nat) : Int)) (let y15 : Int := (rd (ByteArray.empty, (ByteArray.empty, (ByteArray.empty, (ByteArray.empty, ((0 : Int), (([] : (List ByteArray)), ByteArray.empty)))))) v0_0 y11.1).2.2.2.2.1; (ob (Q14.f y11.2.2 y15 (1000000000 : Int)) fun r16 => (cb (!r16) (some (.inr (.inl (1 : Int)))) (cb (decide ((0 : Int) < x0_18)) (ck (InR (x0_18 - (1 : Int))) (ck (0 ≤ (x0_18 - (1 : Int)) ∧ (x0_18 - (1 : Int)) < ((List.length v0_1 : Nat) : Int)) (let y17 : Int := (rd ((0 : Int), (ByteArray.empty, (0 : Int))) v0_1 (x0_18 - (1 : Int))).2.2; (cb (decide (y11.2.2 < y17)) (some (.inr (.inl (8 : Int)))) (ck (InR (x0_18 + (1 : Int))) (some (.inl (x0_18 + (1 : Int))))))))) (ck (InR (x0_18 + (1 : Int))) (some (.inl (x0_18 + (1 : Int)))))))))))))))))) (some (.inr (.inr ()))))
noncomputable def Q5.l0 (v0_0 : (List (ByteArray × (ByteArray × (ByteArray × (ByteArray × (Int × ((List ByteArray) × ByteArray)))))))) (v0_1 : (List (Int × (ByteArray × Int)))) (v0_16 : (List (Int × (ByteArray × Int)))) (v0_17 : Int) (x0_18 : Int) : Option (Int ⊕ Unit) :=
 Zp (fun (x : Int) => Q5.s0 v0_0 v0_1 v0_16 v0_17 x) x0_18
noncomputable def Q5.e0 : Ent where
 pre := []
 inv := [(0, .val (.slice (.pair .str (.pair .str (.pair .str (.pair .str (.pair (.int .i64) (.pair (.slice .str) .str)))))))), (1, .val (.slice (.pair (.int .i64) (.pair .str (.int .i64))))), (16, .val (.slice (.pair (.int .i64) (.pair .str (.int .i64))))), (17, .val (.int .i64))]
 car := ⟨[(18, .val (.int .i64))], []⟩
 exits := [(.ret, ⟨[(4, .val (.int .i64))], []⟩), (.exit 0, ⟨[], []⟩)]
 step := fun iv x => Q5.s0 iv.1 iv.2.1 iv.2.2.1 iv.2.2.2 x
noncomputable def Q5.f (a0 : (List (ByteArray × (ByteArray × (ByteArray × (ByteArray × (Int × ((List ByteArray) × ByteArray)))))))) (a1 : (List (Int × (ByteArray × Int)))) : Option Int :=
 (ob (Qn.f a0) fun r1 => (cb (!decide (r1 = (0 : Int))) (some r1) (let y2 : Int := ((List.length a1 : Nat) : Int); (cb (decide ((1000 : Int) < y2)) (some (2 : Int)) (let y3 : Int := ((List.length a1 : Nat) : Int); (ob (Q5.l0 a0 a1 a1 y3 (0 : Int)) fun r18 => (Z31 r18 (fun a19 => (some a19)) (fun b20 => (some (0 : Int))))))))))
noncomputable def Q5.fn : TFn := ⟨[(.slice (.pair .str (.pair .str (.pair .str (.pair .str (.pair (.int .i64) (.pair (.slice .str) .str))))))), (.slice (.pair (.int .i64) (.pair .str (.int .i64))))], [(.int .i64)], fun x => Q5.f x.1 x.2⟩
noncomputable def Q5.C : Cx := ⟨T, TYt, lkF [((36, [0]), Qn.fn), ((69, [0]), Q18.fn), ((70, [0, 0, 0]), Q14.fn)], lkO [], lkD [(13, 8, [(0, true), (1, true), (2, true), (3, true), (4, true), (5, true), (6, true), (7, true)], none), (15, 11, [(0, true), (1, true), (2, true), (3, true), (4, true), (5, true), (6, true), (7, true), (8, true), (9, true), (10, true)], none)], lkP [], [7], [], false, [], [], lkS [], 62, lkW [], 0⟩
theorem Q5.hC : CxOK Tryz.prog Q5.C := cxq (FsOK.cons Qn.ok (FsOK.cons Q18.ok (FsOK.cons Q14.ok (FsOK.nil))))
noncomputable def Q5.root : Code := Z5 Tryz.f65
theorem Q5.h0 : LsOK Tryz.prog Q5.C Q5.root (lkL [([0, 1, 0, 1, 1, 1], Q5.e0)]) :=
 LsOK.cons Q5.hC (LsOK.nil) (by kernel_rfl) (fun iv x => by kernel_rfl)
theorem Q5.ok : FnOK Tryz.prog 65 Q5.fn := .qq Q5.root Q5.hC Tryz.func65 (lkL [([0, 1, 0, 1, 1, 1], Q5.e0)]) [.tmp 4] Q5.h0 fun x => by kernel_rfl
noncomputable def Ql.s0 (v0_0 : (List (ByteArray × (ByteArray × (ByteArray × (ByteArray × (Int × ((List ByteArray) × ByteArray)))))))) (v0_16 : (List (Int × (ByteArray × Int)))) (v0_17 : Int) (x0_18 : Int) (o0_0_0 : (List Bool)) (o0_0_1 : (List Bool)) (o0_0_2 : (List (ByteArray × Bool))) (o0_1 : (List Bool)) (o0_2 : (List Bool)) (o0_3 : (List (ByteArray × Bool))) : Option ((Int × ((List Bool) × ((List Bool) × ((List (ByteArray × Bool)) × ((List Bool) × ((List Bool) × (List (ByteArray × Bool)))))))) ⊕ ((List Bool) × ((List Bool) × ((List (ByteArray × Bool)) × ((List Bool) × ((List Bool) × (List (ByteArray × Bool)))))))) :=
 (cb (decide (x0_18 < v0_17)) (ck (0 ≤ x0_18 ∧ x0_18 < ((List.length v0_16 : Nat) : Int)) (let y5 : (Int × (ByteArray × Int)) := (rd ((0 : Int), (ByteArray.empty, (0 : Int))) v0_16 x0_18); (ck (0 ≤ y5.1 ∧ y5.1 < ((List.length o0_1 : Nat) : Int)) (ck ((Int.toNat y5.1) < List.length o0_1) (ck (0 ≤ y5.1 ∧ y5.1 < ((List.length v0_0 : Nat) : Int)) (let y6 : ByteArray := (rd (ByteArray.empty, (ByteArray.empty, (ByteArray.empty, (ByteArray.empty, ((0 : Int), (([] : (List ByteArray)), ByteArray.empty)))))) v0_0 y5.1).2.2.1; (cb (!decide (y5.2.1 = y6)) (ck (0 ≤ y5.1 ∧ y5.1 < ((List.length o0_2 : Nat) : Int)) (ck ((Int.toNat y5.1) < List.length o0_2) (ck (0 ≤ y5.1 ∧ y5.1 < ((List.length v0_0 : Nat) : Int)) (let y7 : ByteArray := (rd (ByteArray.empty, (ByteArray.empty, (ByteArray.empty, (ByteArray.empty, ((0 : Int), (([] : (List ByteArray)), ByteArray.empty)))))) v0_0 y5.1).2.2.2.1; (ck (InR (x0_18 + (1 : Int))) (some (.inl ((x0_18 + (1 : Int)), o0_0_0, o0_0_1, o0_0_2, (List.set o0_1 (Int.toNat y5.1) true), (List.set o0_2 (Int.toNat y5.1) true), (mset y7 true o0_3))))))))) (ck (InR (x0_18 + (1 : Int))) (some (.inl ((x0_18 + (1 : Int)), o0_0_0, o0_0_1, o0_0_2, (List.set o0_1 (Int.toNat y5.1) true), o0_2, o0_3))))))))))) (some (.inr (o0_0_0, o0_0_1, o0_0_2, o0_1, o0_2, o0_3))))
noncomputable def Ql.l0 (v0_0 : (List (ByteArray × (ByteArray × (ByteArray × (ByteArray × (Int × ((List ByteArray) × ByteArray)))))))) (v0_16 : (List (Int × (ByteArray × Int)))) (v0_17 : Int) (x0_18 : Int) (o0_0_0 : (List Bool)) (o0_0_1 : (List Bool)) (o0_0_2 : (List (ByteArray × Bool))) (o0_1 : (List Bool)) (o0_2 : (List Bool)) (o0_3 : (List (ByteArray × Bool))) : Option ((List Bool) × ((List Bool) × ((List (ByteArray × Bool)) × ((List Bool) × ((List Bool) × (List (ByteArray × Bool))))))) :=
 Zp (fun (x : (Int × ((List Bool) × ((List Bool) × ((List (ByteArray × Bool)) × ((List Bool) × ((List Bool) × (List (ByteArray × Bool))))))))) => Ql.s0 v0_0 v0_16 v0_17 x.1 x.2.1 x.2.2.1 x.2.2.2.1 x.2.2.2.2.1 x.2.2.2.2.2.1 x.2.2.2.2.2.2) (x0_18, o0_0_0, o0_0_1, o0_0_2, o0_1, o0_2, o0_3)
noncomputable def Ql.e0 : Ent where
 pre := []
 inv := [(0, .val (.slice (.pair .str (.pair .str (.pair .str (.pair .str (.pair (.int .i64) (.pair (.slice .str) .str)))))))), (16, .val (.slice (.pair (.int .i64) (.pair .str (.int .i64))))), (17, .val (.int .i64))]
 car := ⟨[(4, .ptr 0 3), (5, .ptr 4 3), (18, .val (.int .i64))], [.box 112 [.val (.slice .bool), .val (.slice .bool), .val (.mp .bool)], .row 4 .bool, .row 4 .bool, .mapo .bool, .box 112 [.own 1 1, .own 2 1, .nm 3 []]]⟩
 exits := [(.exit 0, ⟨[(4, .ptr 0 3), (5, .ptr 4 3)], [.box 112 [.val (.slice .bool), .val (.slice .bool), .val (.mp .bool)], .row 4 .bool, .row 4 .bool, .mapo .bool, .box 112 [.own 1 1, .own 2 1, .nm 3 []]]⟩)]
 step := fun iv x => Ql.s0 iv.1 iv.2.1 iv.2.2 x.1 x.2.1 x.2.2.1 x.2.2.2.1 x.2.2.2.2.1 x.2.2.2.2.2.1 x.2.2.2.2.2.2
noncomputable def Ql.f (a0 : (List (ByteArray × (ByteArray × (ByteArray × (ByteArray × (Int × ((List ByteArray) × ByteArray)))))))) (a1 : (List (Int × (ByteArray × Int)))) : Option ((List Bool) × ((List Bool) × (List (ByteArray × Bool)))) :=
 (both (ck (0 ≤ ((List.length a0 : Nat) : Int) ∧ ((List.length a0 : Nat) : Int) * (1 : Int) ≤ 140737488355328) (both (ck (0 ≤ ((List.length a0 : Nat) : Int) ∧ ((List.length a0 : Nat) : Int) * (1 : Int) ≤ 140737488355328) (mix (.node .leaf .leaf) (let y1 : Int := ((List.length a1 : Nat) : Int); (ob (Ql.l0 a0 a1 y1 (0 : Int) ([] : List Bool) ([] : List Bool) ([] : (List (ByteArray × Bool))) (List.replicate (Int.toNat ((List.length a0 : Nat) : Int)) false) (List.replicate (Int.toNat ((List.length a0 : Nat) : Int)) false) ([] : List (ByteArray × Bool))) fun r8 => (some r8.2.2.2))))) (mix (.node (.node .leaf .leaf) (.node .leaf .leaf)) (ck (0 ≤ ((List.length a0 : Nat) : Int) ∧ ((List.length a0 : Nat) : Int) * (1 : Int) ≤ 140737488355328) (let y1 : Int := ((List.length a1 : Nat) : Int); (ob (Ql.l0 a0 a1 y1 (0 : Int) ([] : List Bool) ([] : List Bool) ([] : (List (ByteArray × Bool))) (List.replicate (Int.toNat ((List.length a0 : Nat) : Int)) false) (List.replicate (Int.toNat ((List.length a0 : Nat) : Int)) false) ([] : List (ByteArray × Bool))) fun r2 => (some r2.2.2.2))))))) (both (ck (0 ≤ ((List.length a0 : Nat) : Int) ∧ ((List.length a0 : Nat) : Int) * (1 : Int) ≤ 140737488355328) (both (ck (0 ≤ ((List.length a0 : Nat) : Int) ∧ ((List.length a0 : Nat) : Int) * (1 : Int) ≤ 140737488355328) (mix (.node .leaf .leaf) (let y1 : Int := ((List.length a1 : Nat) : Int); (ob (Ql.l0 a0 a1 y1 (0 : Int) ([] : List Bool) ([] : List Bool) ([] : (List (ByteArray × Bool))) (List.replicate (Int.toNat ((List.length a0 : Nat) : Int)) false) (List.replicate (Int.toNat ((List.length a0 : Nat) : Int)) false) ([] : List (ByteArray × Bool))) fun r2 => (some r2.2.2.2))))) (mix (.node (.node .leaf .leaf) (.node .leaf .leaf)) (ck (0 ≤ ((List.length a0 : Nat) : Int) ∧ ((List.length a0 : Nat) : Int) * (1 : Int) ≤ 140737488355328) (let y1 : Int := ((List.length a1 : Nat) : Int); (ob (Ql.l0 a0 a1 y1 (0 : Int) ([] : List Bool) ([] : List Bool) ([] : (List (ByteArray × Bool))) (List.replicate (Int.toNat ((List.length a0 : Nat) : Int)) false) (List.replicate (Int.toNat ((List.length a0 : Nat) : Int)) false) ([] : List (ByteArray × Bool))) fun r2 => (some r2.2.2.2))))))) (mix (.node .leaf .leaf) (both (ck (0 ≤ ((List.length a0 : Nat) : Int) ∧ ((List.length a0 : Nat) : Int) * (1 : Int) ≤ 140737488355328) (mix (.node .leaf .leaf) (ck (0 ≤ ((List.length a0 : Nat) : Int) ∧ ((List.length a0 : Nat) : Int) * (1 : Int) ≤ 140737488355328) (let y1 : Int := ((List.length a1 : Nat) : Int); (ob (Ql.l0 a0 a1 y1 (0 : Int) ([] : List Bool) ([] : List Bool) ([] : (List (ByteArray × Bool))) (List.replicate (Int.toNat ((List.length a0 : Nat) : Int)) false) (List.replicate (Int.toNat ((List.length a0 : Nat) : Int)) false) ([] : List (ByteArray × Bool))) fun r2 => (some r2.2.2.2)))))) (both (ck (0 ≤ ((List.length a0 : Nat) : Int) ∧ ((List.length a0 : Nat) : Int) * (1 : Int) ≤ 140737488355328) (mix (.node .leaf .leaf) (ck (0 ≤ ((List.length a0 : Nat) : Int) ∧ ((List.length a0 : Nat) : Int) * (1 : Int) ≤ 140737488355328) (let y1 : Int := ((List.length a1 : Nat) : Int); (ob (Ql.l0 a0 a1 y1 (0 : Int) ([] : List Bool) ([] : List Bool) ([] : (List (ByteArray × Bool))) (List.replicate (Int.toNat ((List.length a0 : Nat) : Int)) false) (List.replicate (Int.toNat ((List.length a0 : Nat) : Int)) false) ([] : List (ByteArray × Bool))) fun r2 => (some r2.2.2.2)))))) (mix (.node .leaf .leaf) (ck (0 ≤ ((List.length a0 : Nat) : Int) ∧ ((List.length a0 : Nat) : Int) * (1 : Int) ≤ 140737488355328) (ck (0 ≤ ((List.length a0 : Nat) : Int) ∧ ((List.length a0 : Nat) : Int) * (1 : Int) ≤ 140737488355328) (let y1 : Int := ((List.length a1 : Nat) : Int); (ob (Ql.l0 a0 a1 y1 (0 : Int) ([] : List Bool) ([] : List Bool) ([] : (List (ByteArray × Bool))) (List.replicate (Int.toNat ((List.length a0 : Nat) : Int)) false) (List.replicate (Int.toNat ((List.length a0 : Nat) : Int)) false) ([] : List (ByteArray × Bool))) fun r2 => (some r2.2.2.2)))))))))))
noncomputable def Ql.fn : TFn := ⟨[(.slice (.pair .str (.pair .str (.pair .str (.pair .str (.pair (.int .i64) (.pair (.slice .str) .str))))))), (.slice (.pair (.int .i64) (.pair .str (.int .i64))))], [(.pair (.slice .bool) (.pair (.slice .bool) (.mp .bool)))], fun x => Ql.f x.1 x.2⟩
noncomputable def Ql.C : Cx := ⟨T, TYt, lkF [], lkO [], lkD [(6, 8, [(0, true), (1, true), (2, true), (3, true), (4, true), (5, true), (6, true), (7, true)], none), (8, 8, [(0, true), (1, true), (2, true), (3, true), (4, true), (5, true), (6, true), (7, true)], none)], lkP [(1, 9, (.take 0 (.take 1 (.take 3 (.take 4 (.alt 2 (.alt 5 (.alt 6 (.take 7 (.alt 8 .done .no)) (.alt 8 (.alt 6 (.take 7 (.swp 2 .done)) .no) .no)) (.alt 6 (.alt 5 (.take 7 (.alt 8 (.swp 3 .done) .no)) (.alt 8 (.alt 5 (.take 7 (.swp 2 (.swp 3 .done))) .no) .no)) (.alt 8 (.alt 5 (.alt 6 (.take 7 (.swp 3 (.swp 2 .done))) .no) (.alt 6 (.alt 5 (.take 7 (.swp 3 (.swp 2 (.swp 3 .done)))) .no) .no)) .no))) (.alt 5 (.alt 2 (.alt 6 (.take 7 (.alt 8 (.swp 4 .done) .no)) (.alt 8 (.alt 6 (.take 7 (.swp 4 (.swp 2 .done))) .no) .no)) (.alt 6 (.alt 2 (.take 7 (.alt 8 (.swp 3 (.swp 4 .done)) .no)) (.alt 8 (.alt 2 (.take 7 (.swp 2 (.swp 3 (.swp 4 .done)))) .no) .no)) (.alt 8 (.alt 2 (.alt 6 (.take 7 (.swp 3 (.swp 2 (.swp 4 .done)))) .no) (.alt 6 (.alt 2 (.take 7 (.swp 3 (.swp 2 (.swp 3 (.swp 4 .done))))) .no) .no)) .no))) (.alt 6 (.alt 2 (.alt 5 (.take 7 (.alt 8 (.swp 4 (.swp 3 .done)) .no)) (.alt 8 (.alt 5 (.take 7 (.swp 4 (.swp 2 (.swp 3 .done)))) .no) .no)) (.alt 5 (.alt 2 (.take 7 (.alt 8 (.swp 4 (.swp 3 (.swp 4 .done))) .no)) (.alt 8 (.alt 2 (.take 7 (.swp 4 (.swp 2 (.swp 3 (.swp 4 .done))))) .no) .no)) (.alt 8 (.alt 2 (.alt 5 (.take 7 (.swp 3 (.swp 2 (.swp 4 (.swp 3 .done))))) .no) (.alt 5 (.alt 2 (.take 7 (.swp 3 (.swp 2 (.swp 4 (.swp 3 (.swp 4 .done)))))) .no) .no)) .no))) (.alt 8 (.alt 2 (.alt 5 (.alt 6 (.take 7 (.swp 4 (.swp 3 (.swp 2 .done)))) .no) (.alt 6 (.alt 5 (.take 7 (.swp 4 (.swp 3 (.swp 2 (.swp 3 .done))))) .no) .no)) (.alt 5 (.alt 2 (.alt 6 (.take 7 (.swp 4 (.swp 3 (.swp 2 (.swp 4 .done))))) .no) (.alt 6 (.alt 2 (.take 7 (.swp 4 (.swp 3 (.swp 2 (.swp 3 (.swp 4 .done)))))) .no) .no)) (.alt 6 (.alt 2 (.alt 5 (.take 7 (.swp 4 (.swp 3 (.swp 2 (.swp 4 (.swp 3 .done)))))) .no) (.alt 5 (.alt 2 (.take 7 (.swp 4 (.swp 3 (.swp 2 (.swp 4 (.swp 3 (.swp 4 .done))))))) .no) .no)) .no))) .no)))))))))], [5, 7], [(103, 4)], false, [], [], lkS [], 51, lkW [], 0⟩
theorem Ql.hC : CxOK Tryz.prog Ql.C := ⟨tabOK, FsOK.nil, OsOK.nil, mixed, (fun t h => by cases h), (Zd9 [(103, 4)] (by kernel_rfl)), SsOK.nil, WsOK.nil⟩
noncomputable def Ql.root : Code := Z5 Tryz.f95
theorem Ql.h0 : LsOK Tryz.prog Ql.C Ql.root (lkL [([0, 1, 0, 1, 1], Ql.e0)]) :=
 LsOK.cons Ql.hC (LsOK.nil) (by kernel_rfl) (fun iv x => by kernel_rfl)
theorem Ql.ok : FnOK Tryz.prog 95 Ql.fn := .qq Ql.root Ql.hC Tryz.func95 (lkL [([0, 1, 0, 1, 1], Ql.e0)]) [.cell 4 112] Ql.h0 fun x => by kernel_rfl
noncomputable def Q7.s0 (o0_0 : (List (ByteArray × Int))) (o0_1 : (List (ByteArray × Bool))) (e : Option (ByteArray × Bool)) : Option (((List (ByteArray × Int)) × (List (ByteArray × Bool))) ⊕ ((List (ByteArray × Int)) × (List (ByteArray × Bool)))) :=
 (match e with | none => (some (.inr (o0_0, o0_1))) | some e => (some (.inl ((mset e.1 (-1 : Int) o0_0), o0_1))))
noncomputable def Q7.l0 (es : List (ByteArray × Bool)) (o0_0 : (List (ByteArray × Int))) (o0_1 : (List (ByteArray × Bool))) : Option ((List (ByteArray × Int)) × (List (ByteArray × Bool))) :=
 Zeb (fun (x : ((List (ByteArray × Int)) × (List (ByteArray × Bool)))) e => Q7.s0 x.1 x.2 e) es (o0_0, o0_1)
noncomputable def Q7.e0 : EntM where
 it := 14
 k := 2
 t := .bool
 pre := []
 inv := [(1, .val (.slice (.pair .str (.pair .str (.pair .str (.pair .str (.pair (.int .i64) (.pair (.slice .str) .str)))))))), (2, .rp (.pair (.slice .bool) (.pair (.slice .bool) (.mp .bool))))]
 car := ⟨[(5, .nm 0 []), (6, .nm 1 [])], [.mapo (.int .i64), .mapo .bool, .dead]⟩
 exits := [(.exit 0, ⟨[(5, .nm 0 []), (6, .nm 1 [])], [.mapo (.int .i64), .mapo .bool, .dead]⟩)]
 step := fun iv x e => Q7.s0 x.1 x.2 e
noncomputable def Q7.s1 (v1_2 : ((List Bool) × ((List Bool) × (List (ByteArray × Bool))))) (v1_21 : (List (ByteArray × (ByteArray × (ByteArray × (ByteArray × (Int × ((List ByteArray) × ByteArray)))))))) (v1_22 : Int) (x1_23 : Int) (o1_0 : (List (ByteArray × Int))) (o1_1 : (List (ByteArray × Bool))) : Option ((Int × ((List (ByteArray × Int)) × (List (ByteArray × Bool)))) ⊕ ((List (ByteArray × Int)) × (List (ByteArray × Bool)))) :=
 (cb (decide (x1_23 < v1_22)) (ck (0 ≤ x1_23 ∧ x1_23 < ((List.length v1_21 : Nat) : Int)) (let y4 : (ByteArray × (ByteArray × (ByteArray × (ByteArray × (Int × ((List ByteArray) × ByteArray)))))) := (rd (ByteArray.empty, (ByteArray.empty, (ByteArray.empty, (ByteArray.empty, ((0 : Int), (([] : (List ByteArray)), ByteArray.empty)))))) v1_21 x1_23); (ck (0 ≤ x1_23 ∧ x1_23 < ((List.length v1_2.2.1 : Nat) : Int)) (cb (rd false v1_2.2.1 x1_23) (ck (InR (x1_23 + (1 : Int))) (some (.inl ((x1_23 + (1 : Int)), o1_0, (mset y4.2.2.2.1 true o1_1))))) (ck (0 ≤ x1_23 ∧ x1_23 < ((List.length v1_2.1 : Nat) : Int)) (cb (rd false v1_2.1 x1_23) (cb (Option.getD (mget y4.2.2.2.1 v1_2.2.2) false) (cb (!(Option.getD (mget y4.2.2.2.1 o1_1) false)) (ck (InR (x1_23 + (1 : Int))) (some (.inl ((x1_23 + (1 : Int)), (mset y4.2.2.2.1 x1_23 o1_0), o1_1)))) (ck (InR (x1_23 + (1 : Int))) (some (.inl ((x1_23 + (1 : Int)), o1_0, o1_1))))) (ck (InR (x1_23 + (1 : Int))) (some (.inl ((x1_23 + (1 : Int)), o1_0, o1_1))))) (ck (InR (x1_23 + (1 : Int))) (some (.inl ((x1_23 + (1 : Int)), o1_0, o1_1)))))))))) (some (.inr (o1_0, o1_1))))
noncomputable def Q7.l1 (v1_2 : ((List Bool) × ((List Bool) × (List (ByteArray × Bool))))) (v1_21 : (List (ByteArray × (ByteArray × (ByteArray × (ByteArray × (Int × ((List ByteArray) × ByteArray)))))))) (v1_22 : Int) (x1_23 : Int) (o1_0 : (List (ByteArray × Int))) (o1_1 : (List (ByteArray × Bool))) : Option ((List (ByteArray × Int)) × (List (ByteArray × Bool))) :=
 Zp (fun (x : (Int × ((List (ByteArray × Int)) × (List (ByteArray × Bool))))) => Q7.s1 v1_2 v1_21 v1_22 x.1 x.2.1 x.2.2) (x1_23, o1_0, o1_1)
noncomputable def Q7.e1 : Ent where
 pre := []
 inv := [(2, .rp (.pair (.slice .bool) (.pair (.slice .bool) (.mp .bool)))), (21, .val (.slice (.pair .str (.pair .str (.pair .str (.pair .str (.pair (.int .i64) (.pair (.slice .str) .str)))))))), (22, .val (.int .i64))]
 car := ⟨[(5, .nm 0 []), (6, .nm 1 []), (23, .val (.int .i64))], [.mapo (.int .i64), .mapo .bool, .dead]⟩
 exits := [(.exit 2, ⟨[(5, .nm 0 [])], [.mapo (.int .i64), .mapo .bool, .dead]⟩)]
 step := fun iv x => Q7.s1 iv.1 iv.2.1 iv.2.2 x.1 x.2.1 x.2.2
noncomputable def Q7.f (a0 : ((List Bool) × ((List Bool) × (List (ByteArray × Bool))))) (a1 : (List (ByteArray × (ByteArray × (ByteArray × (ByteArray × (Int × ((List ByteArray) × ByteArray)))))))) : Option (List (ByteArray × Int)) :=
 (ob (Q7.l0 a0.2.2 ([] : List (ByteArray × Int)) ([] : List (ByteArray × Bool))) fun r1 => (let y2 : Int := ((List.length a1 : Nat) : Int); (ob (Q7.l1 a0 a1 y2 (0 : Int) r1.1 r1.2) fun r5 => (some r5.1))))
noncomputable def Q7.fn : TFn := ⟨[(.pair (.slice .bool) (.pair (.slice .bool) (.mp .bool))), (.slice (.pair .str (.pair .str (.pair .str (.pair .str (.pair (.int .i64) (.pair (.slice .str) .str)))))))], [(.mp (.int .i64))], fun x => Q7.f x.1 x.2⟩
noncomputable def Q7.C : Cx := ⟨T, TYt, lkF [], lkO [], lkD [], lkP [], [2, 9], [(103, 4), (162, 3)], false, [], [], lkS [], 63, lkW [], 0⟩
theorem Q7.hC : CxOK Tryz.prog Q7.C := ⟨tabOK, FsOK.nil, OsOK.nil, mixed, (fun t h => by cases h), (Zd9 [(103, 4), (162, 3)] (by kernel_rfl)), SsOK.nil, WsOK.nil⟩
noncomputable def Q7.root : Code := Z5 Tryz.f139
theorem Q7.h0 : LsOK Tryz.prog Q7.C Q7.root (lkL [([0, 1, 0, 1, 1], Q7.e0)]) :=
 LsOK.consM Q7.hC (LsOK.nil) (by kernel_rfl) (fun g iv x e => by cases e <;> kernel_rfl)
theorem Q7.h1 : LsOK Tryz.prog Q7.C Q7.root (lkL [([0, 1, 0, 1, 1, 1], Q7.e1), ([0, 1, 0, 1, 1], Q7.e0)]) :=
 LsOK.cons Q7.hC (Q7.h0) (by kernel_rfl) (fun iv x => by kernel_rfl)
theorem Q7.ok : FnOK Tryz.prog 139 Q7.fn := .qq Q7.root Q7.hC Tryz.func139 (lkL [([0, 1, 0, 1, 1, 1], Q7.e1), ([0, 1, 0, 1, 1], Q7.e0)]) [.tmp 4] Q7.h1 fun x => by kernel_rfl
noncomputable def Q1j.f (a0 : ByteArray) (a1 : (List (ByteArray × Bool))) (a2 : (List (ByteArray × Bool))) : Option Bool :=
 (cb (Option.getD (mget a0 a1) false) (some (!(Option.getD (mget a0 a2) false))) (some false))
noncomputable def Q1j.fn : TFn := ⟨[.str, (.ref (.mp .bool)), (.ref (.mp .bool))], [.bool], fun x => Q1j.f x.1 x.2.1 x.2.2⟩
noncomputable def Q1j.C : Cx := ⟨T, TYt, lkF [], lkO [], lkD [], lkP [], [], [(103, 4)], false, [], [], lkS [], 14, lkW [], 0⟩
theorem Q1j.hC : CxOK Tryz.prog Q1j.C := ⟨tabOK, FsOK.nil, OsOK.nil, mixed, (fun t h => by cases h), (Zd9 [(103, 4)] (by kernel_rfl)), SsOK.nil, WsOK.nil⟩
noncomputable def Q1j.root : Code := Z5 Tryz.f140
theorem Q1j.ok : FnOK Tryz.prog 140 Q1j.fn := .qq Q1j.root Q1j.hC Tryz.func140 (lkL []) [.tmp 4] LsOK.nil fun x => by kernel_rfl
noncomputable def Q3.s0 (v0_0 : (List ByteArray)) (v0_1 : ((List (ByteArray × Bool)) × (List (ByteArray × Bool)))) (v0_7 : Int) (x0_8 : Int) : Option (Int ⊕ (Int ⊕ Unit)) :=
 (cb (decide (x0_8 < v0_7)) (ck (0 ≤ x0_8 ∧ x0_8 < ((List.length v0_0 : Nat) : Int)) (let y4 : ByteArray := (rd ByteArray.empty v0_0 x0_8); (ob (Q1j.f y4 v0_1.1 v0_1.2) fun r5 => (cb r5 (some (.inr (.inl x0_8))) (ck (InR (x0_8 + (1 : Int))) (some (.inl (x0_8 + (1 : Int))))))))) (some (.inr (.inr ()))))
noncomputable def Q3.l0 (v0_0 : (List ByteArray)) (v0_1 : ((List (ByteArray × Bool)) × (List (ByteArray × Bool)))) (v0_7 : Int) (x0_8 : Int) : Option (Int ⊕ Unit) :=
 Zp (fun (x : Int) => Q3.s0 v0_0 v0_1 v0_7 x) x0_8
noncomputable def Q3.e0 : Ent where
 pre := []
 inv := [(0, .val (.slice .str)), (1, .val (.clo 140 (.pair (.ref (.mp .bool)) (.ref (.mp .bool))))), (7, .val (.int .i64))]
 car := ⟨[(8, .val (.int .i64))], []⟩
 exits := [(.ret, ⟨[(4, .val (.int .i64))], []⟩), (.exit 0, ⟨[], []⟩)]
 step := fun iv x => Q3.s0 iv.1 iv.2.1 iv.2.2 x
noncomputable def Q3.f (a0 : (List ByteArray)) (a1 : ((List (ByteArray × Bool)) × (List (ByteArray × Bool)))) : Option Int :=
 (let y1 : Int := ((List.length a0 : Nat) : Int); (ob (Q3.l0 a0 a1 y1 (0 : Int)) fun r6 => (Z31 r6 (fun a7 => (some a7)) (fun b8 => (some (-1 : Int))))))
noncomputable def Q3.fn : TFn := ⟨[(.slice .str), (.clo 140 (.pair (.ref (.mp .bool)) (.ref (.mp .bool))))], [(.int .i64)], fun x => Q3.f x.1 x.2⟩
noncomputable def Q3.C : Cx := cxC [((140, [0]), Q1j.fn)] 19
theorem Q3.hC : CxOK Tryz.prog Q3.C := cxq (FsOK.cons Q1j.ok (FsOK.nil))
noncomputable def Q3.root : Code := Z5 Tryz.f182
theorem Q3.h0 : LsOK Tryz.prog Q3.C Q3.root (lkL [([0, 1, 0, 1], Q3.e0)]) :=
 LsOK.cons Q3.hC (LsOK.nil) (by kernel_rfl) (fun iv x => by kernel_rfl)
theorem Q3.ok : FnOK Tryz.prog 182 Q3.fn := .qq Q3.root Q3.hC Tryz.func182 (lkL [([0, 1, 0, 1], Q3.e0)]) [.tmp 4] Q3.h0 fun x => by kernel_rfl
noncomputable def Qd.f (a0 : (List ByteArray)) (a1 : ((List (ByteArray × Bool)) × (List (ByteArray × Bool)))) : Option Bool :=
 (ob (Q3.f a0 a1) fun r1 => (some (decide ((0 : Int) ≤ r1))))
noncomputable def Qd.fn : TFn := ⟨[(.slice .str), (.clo 140 (.pair (.ref (.mp .bool)) (.ref (.mp .bool))))], [.bool], fun x => Qd.f x.1 x.2⟩
noncomputable def Qd.C : Cx := cxC [((182, [0, 142]), Q3.fn)] 9
theorem Qd.hC : CxOK Tryz.prog Qd.C := cxq (FsOK.cons Q3.ok (FsOK.nil))
noncomputable def Qd.root : Code := Z5 Tryz.f128
theorem Qd.ok : FnOK Tryz.prog 128 Qd.fn := .qq Qd.root Qd.hC Tryz.func128 (lkL []) [.tmp 4] LsOK.nil fun x => by kernel_rfl
noncomputable def Qo.s0 (v0_5 : ((List Bool) × ((List Bool) × (List (ByteArray × Bool))))) (v0_6 : (List (ByteArray × Int))) (v0_25 : (List (ByteArray × (ByteArray × (ByteArray × (ByteArray × (Int × ((List ByteArray) × ByteArray)))))))) (v0_26 : Int) (x0_27 : Int) (o0_1 : (List Bool)) (o0_2 : (List (ByteArray × Bool))) (o0_3 : (List (ByteArray × Bool))) : Option ((Int × ((List Bool) × ((List (ByteArray × Bool)) × (List (ByteArray × Bool))))) ⊕ ((List Bool) × ((List (ByteArray × Bool)) × (List (ByteArray × Bool))))) :=
 (cb (decide (x0_27 < v0_26)) (ck (0 ≤ x0_27 ∧ x0_27 < ((List.length v0_25 : Nat) : Int)) (let y10 : (ByteArray × (ByteArray × (ByteArray × (ByteArray × (Int × ((List ByteArray) × ByteArray)))))) := (rd (ByteArray.empty, (ByteArray.empty, (ByteArray.empty, (ByteArray.empty, ((0 : Int), (([] : (List ByteArray)), ByteArray.empty)))))) v0_25 x0_27); (let y11 : Int := (Option.getD (mget y10.2.2.2.1 v0_6) (0 : Int)); (ck (0 ≤ x0_27 ∧ x0_27 < ((List.length v0_5.2.1 : Nat) : Int)) (cb (rd false v0_5.2.1 x0_27) (ck (0 ≤ x0_27 ∧ x0_27 < ((List.length o0_1 : Nat) : Int)) (ck ((Int.toNat x0_27) < List.length o0_1) (ck (0 ≤ x0_27 ∧ x0_27 < ((List.length (List.set o0_1 (Int.toNat x0_27) true) : Nat) : Int)) (ck ((Int.toNat x0_27) < List.length (List.set o0_1 (Int.toNat x0_27) true)) (cb (List.getD (List.set o0_1 (Int.toNat x0_27) true) (Int.toNat x0_27) false) (ck (InR (x0_27 + (1 : Int))) (some (.inl ((x0_27 + (1 : Int)), (List.set o0_1 (Int.toNat x0_27) true), (mset y10.2.2.1 true o0_2), o0_3)))) (ck (InR (x0_27 + (1 : Int))) (some (.inl ((x0_27 + (1 : Int)), (List.set o0_1 (Int.toNat x0_27) true), o0_2, (mset y10.2.2.1 true o0_3)))))))))) (cb (Option.isSome (mget y10.2.2.2.1 v0_6)) (ck (0 ≤ x0_27 ∧ x0_27 < ((List.length v0_5.1 : Nat) : Int)) (cb (!(rd false v0_5.1 x0_27)) (cb (decide (y11 < x0_27)) (ck (0 ≤ x0_27 ∧ x0_27 < ((List.length o0_1 : Nat) : Int)) (ck ((Int.toNat x0_27) < List.length o0_1) (ck (0 ≤ x0_27 ∧ x0_27 < ((List.length (List.set o0_1 (Int.toNat x0_27) true) : Nat) : Int)) (ck ((Int.toNat x0_27) < List.length (List.set o0_1 (Int.toNat x0_27) true)) (cb (List.getD (List.set o0_1 (Int.toNat x0_27) true) (Int.toNat x0_27) false) (ck (InR (x0_27 + (1 : Int))) (some (.inl ((x0_27 + (1 : Int)), (List.set o0_1 (Int.toNat x0_27) true), (mset y10.2.2.1 true o0_2), o0_3)))) (ck (InR (x0_27 + (1 : Int))) (some (.inl ((x0_27 + (1 : Int)), (List.set o0_1 (Int.toNat x0_27) true), o0_2, (mset y10.2.2.1 true o0_3)))))))))) (ob (Qd.f y10.2.2.2.2.2.1 (o0_2, o0_3)) fun r12 => (ck (0 ≤ x0_27 ∧ x0_27 < ((List.length o0_1 : Nat) : Int)) (ck ((Int.toNat x0_27) < List.length o0_1) (ck (0 ≤ x0_27 ∧ x0_27 < ((List.length (List.set o0_1 (Int.toNat x0_27) r12) : Nat) : Int)) (ck ((Int.toNat x0_27) < List.length (List.set o0_1 (Int.toNat x0_27) r12)) (cb (List.getD (List.set o0_1 (Int.toNat x0_27) r12) (Int.toNat x0_27) false) (ck (InR (x0_27 + (1 : Int))) (some (.inl ((x0_27 + (1 : Int)), (List.set o0_1 (Int.toNat x0_27) r12), (mset y10.2.2.1 true o0_2), o0_3)))) (ck (InR (x0_27 + (1 : Int))) (some (.inl ((x0_27 + (1 : Int)), (List.set o0_1 (Int.toNat x0_27) r12), o0_2, (mset y10.2.2.1 true o0_3)))))))))))) (ob (Qd.f y10.2.2.2.2.2.1 (o0_2, o0_3)) fun r13 => (ck (0 ≤ x0_27 ∧ x0_27 < ((List.length o0_1 : Nat) : Int)) (ck ((Int.toNat x0_27) < List.length o0_1) (ck (0 ≤ x0_27 ∧ x0_27 < ((List.length (List.set o0_1 (Int.toNat x0_27) r13) : Nat) : Int)) (ck ((Int.toNat x0_27) < List.length (List.set o0_1 (Int.toNat x0_27) r13)) (cb (List.getD (List.set o0_1 (Int.toNat x0_27) r13) (Int.toNat x0_27) false) (ck (InR (x0_27 + (1 : Int))) (some (.inl ((x0_27 + (1 : Int)), (List.set o0_1 (Int.toNat x0_27) r13), (mset y10.2.2.1 true o0_2), o0_3)))) (ck (InR (x0_27 + (1 : Int))) (some (.inl ((x0_27 + (1 : Int)), (List.set o0_1 (Int.toNat x0_27) r13), o0_2, (mset y10.2.2.1 true o0_3))))))))))))) (ob (Qd.f y10.2.2.2.2.2.1 (o0_2, o0_3)) fun r14 => (ck (0 ≤ x0_27 ∧ x0_27 < ((List.length o0_1 : Nat) : Int)) (ck ((Int.toNat x0_27) < List.length o0_1) (ck (0 ≤ x0_27 ∧ x0_27 < ((List.length (List.set o0_1 (Int.toNat x0_27) r14) : Nat) : Int)) (ck ((Int.toNat x0_27) < List.length (List.set o0_1 (Int.toNat x0_27) r14)) (cb (List.getD (List.set o0_1 (Int.toNat x0_27) r14) (Int.toNat x0_27) false) (ck (InR (x0_27 + (1 : Int))) (some (.inl ((x0_27 + (1 : Int)), (List.set o0_1 (Int.toNat x0_27) r14), (mset y10.2.2.1 true o0_2), o0_3)))) (ck (InR (x0_27 + (1 : Int))) (some (.inl ((x0_27 + (1 : Int)), (List.set o0_1 (Int.toNat x0_27) r14), o0_2, (mset y10.2.2.1 true o0_3))))))))))))))))) (some (.inr (o0_1, o0_2, o0_3))))
noncomputable def Qo.l0 (v0_5 : ((List Bool) × ((List Bool) × (List (ByteArray × Bool))))) (v0_6 : (List (ByteArray × Int))) (v0_25 : (List (ByteArray × (ByteArray × (ByteArray × (ByteArray × (Int × ((List ByteArray) × ByteArray)))))))) (v0_26 : Int) (x0_27 : Int) (o0_1 : (List Bool)) (o0_2 : (List (ByteArray × Bool))) (o0_3 : (List (ByteArray × Bool))) : Option ((List Bool) × ((List (ByteArray × Bool)) × (List (ByteArray × Bool)))) :=
 Zp (fun (x : (Int × ((List Bool) × ((List (ByteArray × Bool)) × (List (ByteArray × Bool)))))) => Qo.s0 v0_5 v0_6 v0_25 v0_26 x.1 x.2.1 x.2.2.1 x.2.2.2) (x0_27, o0_1, o0_2, o0_3)
noncomputable def Qo.e0 : Ent where
 pre := []
 inv := [(5, .rp (.pair (.slice .bool) (.pair (.slice .bool) (.mp .bool)))), (6, .val (.mp (.int .i64))), (25, .val (.slice (.pair .str (.pair .str (.pair .str (.pair .str (.pair (.int .i64) (.pair (.slice .str) .str)))))))), (26, .val (.int .i64))]
 car := ⟨[(7, .own 1 1), (8, .ptr 4 1), (9, .ptr 5 1), (27, .val (.int .i64))], [.dead, .row 4 .bool, .mapo .bool, .mapo .bool, .box 103 [.nm 2 []], .box 103 [.nm 3 []]]⟩
 exits := [(.exit 0, ⟨[(7, .own 1 1)], [.dead, .row 4 .bool, .mapo .bool, .mapo .bool, .box 103 [.nm 2 []], .box 103 [.nm 3 []]]⟩)]
 step := fun iv x => Qo.s0 iv.1 iv.2.1 iv.2.2.1 iv.2.2.2 x.1 x.2.1 x.2.2.1 x.2.2.2
noncomputable def Qo.f (a0 : (List (ByteArray × (ByteArray × (ByteArray × (ByteArray × (Int × ((List ByteArray) × ByteArray)))))))) (a1 : (List (Int × (ByteArray × Int)))) : Option (List Bool) :=
 (ob (Ql.f a0 a1) fun r1 => (ob (Q7.f r1 a0) fun r2 => (let y3 : Int := ((List.length a0 : Nat) : Int); (ck (0 ≤ y3 ∧ y3 * (1 : Int) ≤ 140737488355328) (let y4 : Int := ((List.length a0 : Nat) : Int); (ob (Qo.l0 r1 r2 a0 y4 (0 : Int) (List.replicate (Int.toNat y3) false) ([] : List (ByteArray × Bool)) ([] : List (ByteArray × Bool))) fun r15 => (some r15.1)))))))
noncomputable def Qo.fn : TFn := ⟨[(.slice (.pair .str (.pair .str (.pair .str (.pair .str (.pair (.int .i64) (.pair (.slice .str) .str))))))), (.slice (.pair (.int .i64) (.pair .str (.int .i64))))], [(.slice .bool)], fun x => Qo.f x.1 x.2⟩
noncomputable def Qo.C : Cx := ⟨T, TYt, lkF [((95, [0, 0]), Ql.fn), ((128, [0, 142]), Qd.fn), ((139, [0, 0]), Q7.fn)], lkO [], lkD [], lkP [], [5, 11], [(103, 4), (162, 3)], false, [], [], lkS [], 81, lkW [], 0⟩
theorem Qo.hC : CxOK Tryz.prog Qo.C := ⟨tabOK, FsOK.cons Ql.ok (FsOK.cons Qd.ok (FsOK.cons Q7.ok (FsOK.nil))), OsOK.nil, mixed, (fun t h => by cases h), (Zd9 [(103, 4), (162, 3)] (by kernel_rfl)), SsOK.nil, WsOK.nil⟩
noncomputable def Qo.root : Code := Z5 Tryz.f91
theorem Qo.h0 : LsOK Tryz.prog Qo.C Qo.root (lkL [([0, 1, 0, 1, 1, 1, 1, 1], Qo.e0)]) :=
 LsOK.cons Qo.hC (LsOK.nil) (by kernel_rfl) (fun iv x => by kernel_rfl)
theorem Qo.ok : FnOK Tryz.prog 91 Qo.fn := .qq Qo.root Qo.hC Tryz.func91 (lkL [([0, 1, 0, 1, 1, 1, 1, 1], Qo.e0)]) [.tmp 4] Qo.h0 fun x => by kernel_rfl
noncomputable def Q1v.f (a0 : (ByteArray × (ByteArray × ((List ByteArray) × (Int × Int))))) (a1 : ByteArray) : Option Int :=
 (ob (Q2b.f a0.1 a1) fun r1 => (some r1))
noncomputable def Q1v.fn : TFn := ⟨[(.pair .str (.pair .str (.pair (.slice .str) (.pair (.int .i64) (.int .i64))))), .str], [(.int .i64)], fun x => Q1v.f x.1 x.2⟩
noncomputable def Q1v.C : Cx := ⟨T, TYt, lkF [((124, [0, 0]), Q2b.fn)], lkO [], lkD [], lkP [], [2], [], false, [], [], lkS [], 9, lkW [], 0⟩
theorem Q1v.hC : CxOK Tryz.prog Q1v.C := cxq (FsOK.cons Q2b.ok (FsOK.nil))
noncomputable def Q1v.root : Code := Z5 Tryz.f123
theorem Q1v.ok : FnOK Tryz.prog 123 Q1v.fn := .qq Q1v.root Q1v.hC Tryz.func123 (lkL []) [.tmp 4] LsOK.nil fun x => by kernel_rfl
noncomputable def Q0.s0 (v0_0 : (List (ByteArray × (ByteArray × ((List ByteArray) × (Int × Int)))))) (v0_1 : ByteArray) (x0_9 : Int) (x0_10 : Int) : Option ((Int × Int) ⊕ Int) :=
 (cb (decide (x0_9 < x0_10)) (ck (InR (x0_9 + x0_10)) (let y7 : Int := (IntKind.u64.wrap (x0_9 + x0_10)); (let y8 : Int := (Int.fdiv y7 (2 ^ min (Int.toNat (1 : Int)) (IntKind.bits .u64))); (ck (0 ≤ (IntKind.i64.wrap y8) ∧ (IntKind.i64.wrap y8) < ((List.length v0_0 : Nat) : Int)) (let y9 : (ByteArray × (ByteArray × ((List ByteArray) × (Int × Int)))) := (rd (ByteArray.empty, (ByteArray.empty, (([] : (List ByteArray)), ((0 : Int), (0 : Int))))) v0_0 (IntKind.i64.wrap y8)); (ob (Q1v.f y9 v0_1) fun r10 => (cb (decide (r10 < (0 : Int))) (ck (InR ((IntKind.i64.wrap y8) + (1 : Int))) (let y11 : Int := ((IntKind.i64.wrap y8) + (1 : Int)); (some (.inl (y11, x0_10))))) (some (.inl (x0_9, (IntKind.i64.wrap y8))))))))))) (some (.inr x0_9)))
noncomputable def Q0.l0 (v0_0 : (List (ByteArray × (ByteArray × ((List ByteArray) × (Int × Int)))))) (v0_1 : ByteArray) (x0_9 : Int) (x0_10 : Int) : Option Int :=
 Zp (fun (x : (Int × Int)) => Q0.s0 v0_0 v0_1 x.1 x.2) (x0_9, x0_10)
noncomputable def Q0.e0 : Ent where
 pre := []
 inv := [(0, .val (.slice (.pair .str (.pair .str (.pair (.slice .str) (.pair (.int .i64) (.int .i64))))))), (1, .val .str), (2, .fn 123), (8, .val (.int .i64))]
 car := ⟨[(9, .val (.int .i64)), (10, .val (.int .i64))], []⟩
 exits := [(.exit 0, ⟨[(9, .val (.int .i64))], []⟩)]
 step := fun iv x => Q0.s0 iv.1 iv.2.1 x.1 x.2
noncomputable def Q0.f (a0 : (List (ByteArray × (ByteArray × ((List ByteArray) × (Int × Int)))))) (a1 : ByteArray) (a2 : Unit) : Option (Int × Bool) :=
 (let y1 : Int := ((List.length a0 : Nat) : Int); (ob (Q0.l0 a0 a1 (0 : Int) y1) fun r12 => (cb (decide (r12 < y1)) (ck (0 ≤ r12 ∧ r12 < ((List.length a0 : Nat) : Int)) (let y13 : (ByteArray × (ByteArray × ((List ByteArray) × (Int × Int)))) := (rd (ByteArray.empty, (ByteArray.empty, (([] : (List ByteArray)), ((0 : Int), (0 : Int))))) a0 r12); (ob (Q1v.f y13 a1) fun r14 => (some (r12, (decide (r14 = (0 : Int)))))))) (some (r12, false)))))
noncomputable def Q0.fn : TFn := ⟨[(.slice (.pair .str (.pair .str (.pair (.slice .str) (.pair (.int .i64) (.int .i64)))))), .str, (.fnc 123)], [(.int .i64), .bool], fun x => Q0.f x.1 x.2.1 x.2.2⟩
noncomputable def Q0.C : Cx := cxC [((123, [0, 0]), Q1v.fn)] 49
theorem Q0.hC : CxOK Tryz.prog Q0.C := cxq (FsOK.cons Q1v.ok (FsOK.nil))
noncomputable def Q0.root : Code := Z5 Tryz.f122
theorem Q0.h0 : LsOK Tryz.prog Q0.C Q0.root (lkL [([0, 0, 1, 1, 1], Q0.e0)]) :=
 LsOK.cons Q0.hC (LsOK.nil) (by kernel_rfl) (fun iv x => by kernel_rfl)
theorem Q0.ok : FnOK Tryz.prog 122 Q0.fn := .qq Q0.root Q0.hC Tryz.func122 (lkL [([0, 0, 1, 1, 1], Q0.e0)]) [.tmp 6, .tmp 7] Q0.h0 fun x => by kernel_rfl
noncomputable def Q1q.f (a0 : (List (ByteArray × (ByteArray × ((List ByteArray) × (Int × Int)))))) (a1 : ByteArray) : Option ((ByteArray × (ByteArray × ((List ByteArray) × (Int × Int)))) × Bool) :=
 (ob (Q0.f a0 a1 ()) fun r1 => (cb (!r1.2) (some ((bs_, (bs_, (([] : List ByteArray), ((0 : Int), (0 : Int))))), false)) (ck (0 ≤ r1.1 ∧ r1.1 < ((List.length a0 : Nat) : Int)) (let y2 : (ByteArray × (ByteArray × ((List ByteArray) × (Int × Int)))) := (rd (ByteArray.empty, (ByteArray.empty, (([] : (List ByteArray)), ((0 : Int), (0 : Int))))) a0 r1.1); (some (y2, true))))))
noncomputable def Q1q.fn : TFn := ⟨[(.slice (.pair .str (.pair .str (.pair (.slice .str) (.pair (.int .i64) (.int .i64)))))), .str], [(.pair .str (.pair .str (.pair (.slice .str) (.pair (.int .i64) (.int .i64))))), .bool], fun x => Q1q.f x.1 x.2⟩
noncomputable def Q1q.C : Cx := cxC [((122, [0, 0, 125]), Q0.fn)] 21
theorem Q1q.hC : CxOK Tryz.prog Q1q.C := cxq (FsOK.cons Q0.ok (FsOK.nil))
noncomputable def Q1q.root : Code := Z5 Tryz.f72
theorem Q1q.ok : FnOK Tryz.prog 72 Q1q.fn := .qq Q1q.root Q1q.hC Tryz.func72 (lkL []) [.cell 4 91, .tmp 5] LsOK.nil fun x => by kernel_rfl
noncomputable def Q1y.f (a0 : (ByteArray × (ByteArray × (ByteArray × (ByteArray × (Int × ((List ByteArray) × ByteArray))))))) : Option ByteArray :=
 (ob (Q26.f a0.2.2.2.2.1) fun r1 => (ck ((List.length ([a0.1, a0.2.1, a0.2.2.1, a0.2.2.2.1, r1] : List ByteArray) + List.length a0.2.2.2.2.2.1) * 16 ≤ 140737488355328) (ob (Q27.f (([a0.1, a0.2.1, a0.2.2.1, a0.2.2.2.1, r1] : List ByteArray) ++ a0.2.2.2.2.2.1) Q2g) fun r2 => (some r2))))
noncomputable def Q1y.fn : TFn := ⟨[(.pair .str (.pair .str (.pair .str (.pair .str (.pair (.int .i64) (.pair (.slice .str) .str))))))], [.str], fun x => Q1y.f x⟩
noncomputable def Q1y.C : Cx := ⟨T, TYt, lkF [((109, [0]), Q26.fn), ((111, [0, 0]), Q27.fn)], lkO [], lkD [(1, 14, [(0, true), (1, true), (2, true), (3, true), (4, true), (5, true), (6, true), (7, true), (8, true), (9, true), (12, true), (13, true), (10, false), (11, false)], none)], lkP [], [1], [], false, [], [], lkS [], 19, lkW [], 0⟩
theorem Q1y.hC : CxOK Tryz.prog Q1y.C := cxq (FsOK.cons Q26.ok (FsOK.cons Q27.ok (FsOK.nil)))
noncomputable def Q1y.root : Code := Z5 Tryz.f120
theorem Q1y.ok : FnOK Tryz.prog 120 Q1y.fn := .qq Q1y.root Q1y.hC Tryz.func120 (lkL []) [.tmp 2] LsOK.nil fun x => by kernel_rfl
noncomputable def Qj.s0 (v0_8 : (List UInt8)) (v0_9 : Int) (x0_3 : Int) (x0_10 : Int) : Option ((Int × Int) ⊕ Int) :=
 (cb (decide (x0_10 < v0_9)) (ck (0 ≤ x0_10 ∧ x0_10 < ((List.length v0_8 : Nat) : Int)) (let y6 : UInt8 := (rd (0 : UInt8) v0_8 x0_10); (let y7 : Int := (IntKind.u64.wrap ((UInt8.toNat y6 : Nat) : Int)); (let y8 : Int := (IntKind.u64.wrap ((BitVec.toNat (BitVec.ofInt (IntKind.bits .u64) x0_3 ^^^ BitVec.ofInt (IntKind.bits .u64) y7) : Nat) : Int)); (let y9 : Int := (IntKind.u64.wrap (y8 * (1099511628211 : Int))); (ck (InR (x0_10 + (1 : Int))) (some (.inl (y9, (x0_10 + (1 : Int))))))))))) (some (.inr x0_3)))
noncomputable def Qj.l0 (v0_8 : (List UInt8)) (v0_9 : Int) (x0_3 : Int) (x0_10 : Int) : Option Int :=
 Zp (fun (x : (Int × Int)) => Qj.s0 v0_8 v0_9 x.1 x.2) (x0_3, x0_10)
noncomputable def Qj.e0 : Ent where
 pre := []
 inv := [(8, .val (.slice .byte)), (9, .val (.int .i64))]
 car := ⟨[(3, .val (.int .u64)), (10, .val (.int .i64))], []⟩
 exits := [(.exit 0, ⟨[(3, .val (.int .u64))], []⟩)]
 step := fun iv x => Qj.s0 iv.1 iv.2 x.1 x.2
noncomputable def Qj.s1 (v1_22 : Int) (x1_3 : Int) (x1_23 : Int) (o1_0 : (List UInt8)) : Option ((Int × (Int × (List UInt8))) ⊕ (List UInt8)) :=
 (cb (decide (x1_23 < v1_22)) (ck (InR ((15 : Int) - x1_23)) (let y15 : Int := (IntKind.u64.wrap ((BitVec.toNat (BitVec.ofInt (IntKind.bits .u64) x1_3 &&& BitVec.ofInt (IntKind.bits .u64) (15 : Int)) : Nat) : Int)); (ck (0 ≤ y15 ∧ y15 < ((ByteArray.size Qg : Nat) : Int)) (let y16 : UInt8 := (bt Qg y15); (ck (0 ≤ ((15 : Int) - x1_23) ∧ ((15 : Int) - x1_23) < ((List.length o1_0 : Nat) : Int)) (ck ((Int.toNat ((15 : Int) - x1_23)) < List.length o1_0) (let y17 : Int := (Int.fdiv x1_3 (2 ^ min (Int.toNat (4 : Int)) (IntKind.bits .u64))); (ck (InR (x1_23 + (1 : Int))) (some (.inl (y17, (x1_23 + (1 : Int)), (List.set o1_0 (Int.toNat ((15 : Int) - x1_23)) y16)))))))))))) (some (.inr o1_0)))
noncomputable def Qj.l1 (v1_22 : Int) (x1_3 : Int) (x1_23 : Int) (o1_0 : (List UInt8)) : Option (List UInt8) :=
 Zp (fun (x : (Int × (Int × (List UInt8)))) => Qj.s1 v1_22 x.1 x.2.1 x.2.2) (x1_3, x1_23, o1_0)
noncomputable def Qj.e1 : Ent where
 pre := []
 inv := [(22, .val (.int .i64))]
 car := ⟨[(3, .val (.int .u64)), (6, .own 0 1), (23, .val (.int .i64))], [.row 5 .byte]⟩
 exits := [(.exit 2, ⟨[(6, .own 0 1)], [.row 5 .byte]⟩)]
 step := fun iv x => Qj.s1 iv x.1 x.2.1 x.2.2
noncomputable def Qj.f (a0 : (List UInt8)) : Option ByteArray :=
 (let y1 : Int := ((List.length a0 : Nat) : Int); (ob (Qj.l0 a0 y1 (14695981039346656037 : Int) (0 : Int)) fun r10 => (ck (0 ≤ (16 : Int) ∧ (16 : Int) * (1 : Int) ≤ 140737488355328) (let y11 : Int := ((List.length (List.replicate (Int.toNat (16 : Int)) (0 : UInt8)) : Nat) : Int); (ob (Qj.l1 y11 r10 (0 : Int) (List.replicate (Int.toNat (16 : Int)) (0 : UInt8))) fun r18 => (some (bstr r18)))))))
noncomputable def Qj.fn : TFn := ⟨[(.slice .byte)], [.str], fun x => Qj.f x⟩
noncomputable def Qj.C : Cx := cxC [] 38
theorem Qj.hC : CxOK Tryz.prog Qj.C := cxq FsOK.nil
noncomputable def Qj.root : Code := Z5 Tryz.f119
theorem Qj.h0 : LsOK Tryz.prog Qj.C Qj.root (lkL [([0, 1, 0, 1, 1], Qj.e0)]) :=
 LsOK.cons Qj.hC (LsOK.nil) (by kernel_rfl) (fun iv x => by kernel_rfl)
theorem Qj.h1 : LsOK Tryz.prog Qj.C Qj.root (lkL [([0, 1, 0, 1, 1, 1, 1], Qj.e1), ([0, 1, 0, 1, 1], Qj.e0)]) :=
 LsOK.cons Qj.hC (Qj.h0) (by kernel_rfl) (fun iv x => by kernel_rfl)
theorem Qj.ok : FnOK Tryz.prog 119 Qj.fn := .qq Qj.root Qj.hC Tryz.func119 (lkL [([0, 1, 0, 1, 1, 1, 1], Qj.e1), ([0, 1, 0, 1, 1], Qj.e0)]) [.tmp 2] Qj.h1 fun x => by kernel_rfl
noncomputable def Q1i.f (a0 : ByteArray) (a1 : (ByteArray × (ByteArray × (ByteArray × (ByteArray × (Int × ((List ByteArray) × ByteArray))))))) : Option ByteArray :=
 (ck (((ByteArray.size a0 + ByteArray.size Q2c : Nat) : Int) ≤ 9223372036854775807) (ob (Q1y.f a1) fun r1 => (ck (((ByteArray.size (a0 ++ Q2c) + ByteArray.size r1 : Nat) : Int) ≤ 9223372036854775807) (ck (((ByteArray.size ((a0 ++ Q2c) ++ r1) + ByteArray.size Q2c : Nat) : Int) ≤ 9223372036854775807) (let y2 : ByteArray := (((a0 ++ Q2c) ++ r1) ++ Q2c); (ck (((ByteArray.size y2 + ByteArray.size a0 : Nat) : Int) ≤ 9223372036854775807) (let y3 : (List UInt8) := (Array.toList (ByteArray.data (y2 ++ a0))); (ob (Qj.f y3) fun r4 => (some r4)))))))))
noncomputable def Q1i.fn : TFn := ⟨[.str, (.pair .str (.pair .str (.pair .str (.pair .str (.pair (.int .i64) (.pair (.slice .str) .str))))))], [.str], fun x => Q1i.f x.1 x.2⟩
noncomputable def Q1i.C : Cx := ⟨T, TYt, lkF [((119, [0]), Qj.fn), ((120, [0]), Q1y.fn)], lkO [], lkD [], lkP [], [3], [], false, [], [], lkS [], 15, lkW [], 0⟩
theorem Q1i.hC : CxOK Tryz.prog Q1i.C := cxq (FsOK.cons Qj.ok (FsOK.cons Q1y.ok (FsOK.nil)))
noncomputable def Q1i.root : Code := Z5 Tryz.f74
theorem Q1i.ok : FnOK Tryz.prog 74 Q1i.fn := .qq Q1i.root Q1i.hC Tryz.func74 (lkL []) [.tmp 4] LsOK.nil fun x => by kernel_rfl
noncomputable def Q22.f (a0 : ByteArray) (a1 : ByteArray) : Option Bool :=
 (ob (Qz.f a1 a0) fun r1 => (some r1))
noncomputable def Q22.fn : TFn := ⟨[.str, (.ref .str)], [.bool], fun x => Q22.f x.1 x.2⟩
noncomputable def Q22.C : Cx := cxC [((130, [0, 0]), Qz.fn)] 7
theorem Q22.hC : CxOK Tryz.prog Q22.C := cxq (FsOK.cons Qz.ok (FsOK.nil))
noncomputable def Q22.root : Code := Z5 Tryz.f129
theorem Q22.ok : FnOK Tryz.prog 129 Q22.fn := .qq Q22.root Q22.hC Tryz.func129 (lkL []) [.tmp 3] LsOK.nil fun x => by kernel_rfl
noncomputable def Q4.s0 (v0_0 : (List ByteArray)) (v0_1 : ByteArray) (v0_7 : Int) (x0_8 : Int) : Option (Int ⊕ (Int ⊕ Unit)) :=
 (cb (decide (x0_8 < v0_7)) (ck (0 ≤ x0_8 ∧ x0_8 < ((List.length v0_0 : Nat) : Int)) (let y4 : ByteArray := (rd ByteArray.empty v0_0 x0_8); (ob (Q22.f y4 v0_1) fun r5 => (cb r5 (some (.inr (.inl x0_8))) (ck (InR (x0_8 + (1 : Int))) (some (.inl (x0_8 + (1 : Int))))))))) (some (.inr (.inr ()))))
noncomputable def Q4.l0 (v0_0 : (List ByteArray)) (v0_1 : ByteArray) (v0_7 : Int) (x0_8 : Int) : Option (Int ⊕ Unit) :=
 Zp (fun (x : Int) => Q4.s0 v0_0 v0_1 v0_7 x) x0_8
noncomputable def Q4.e0 : Ent where
 pre := []
 inv := [(0, .val (.slice .str)), (1, .val (.clo 129 (.ref .str))), (7, .val (.int .i64))]
 car := ⟨[(8, .val (.int .i64))], []⟩
 exits := [(.ret, ⟨[(4, .val (.int .i64))], []⟩), (.exit 0, ⟨[], []⟩)]
 step := fun iv x => Q4.s0 iv.1 iv.2.1 iv.2.2 x
noncomputable def Q4.f (a0 : (List ByteArray)) (a1 : ByteArray) : Option Int :=
 (let y1 : Int := ((List.length a0 : Nat) : Int); (ob (Q4.l0 a0 a1 y1 (0 : Int)) fun r6 => (Z31 r6 (fun a7 => (some a7)) (fun b8 => (some (-1 : Int))))))
noncomputable def Q4.fn : TFn := ⟨[(.slice .str), (.clo 129 (.ref .str))], [(.int .i64)], fun x => Q4.f x.1 x.2⟩
noncomputable def Q4.C : Cx := cxC [((129, [0]), Q22.fn)] 19
theorem Q4.hC : CxOK Tryz.prog Q4.C := cxq (FsOK.cons Q22.ok (FsOK.nil))
noncomputable def Q4.root : Code := Z5 Tryz.f182
theorem Q4.h0 : LsOK Tryz.prog Q4.C Q4.root (lkL [([0, 1, 0, 1], Q4.e0)]) :=
 LsOK.cons Q4.hC (LsOK.nil) (by kernel_rfl) (fun iv x => by kernel_rfl)
theorem Q4.ok : FnOK Tryz.prog 182 Q4.fn := .qq Q4.root Q4.hC Tryz.func182 (lkL [([0, 1, 0, 1], Q4.e0)]) [.tmp 4] Q4.h0 fun x => by kernel_rfl
noncomputable def Qf.f (a0 : (List ByteArray)) (a1 : ByteArray) : Option Bool :=
 (ob (Q4.f a0 a1) fun r1 => (some (decide ((0 : Int) ≤ r1))))
noncomputable def Qf.fn : TFn := ⟨[(.slice .str), (.clo 129 (.ref .str))], [.bool], fun x => Qf.f x.1 x.2⟩
noncomputable def Qf.C : Cx := cxC [((182, [0, 131]), Q4.fn)] 9
theorem Qf.hC : CxOK Tryz.prog Qf.C := cxq (FsOK.cons Q4.ok (FsOK.nil))
noncomputable def Qf.root : Code := Z5 Tryz.f128
theorem Qf.ok : FnOK Tryz.prog 128 Qf.fn := .qq Qf.root Qf.hC Tryz.func128 (lkL []) [.tmp 4] LsOK.nil fun x => by kernel_rfl
noncomputable def Q23.f (a0 : (ByteArray × (ByteArray × ((List ByteArray) × (Int × Int))))) (a1 : ByteArray) (a2 : Int) : Option Bool :=
 (cb (decide (a0.2.2.2.1 ≤ a2)) (cb (decide (a2 < a0.2.2.2.2)) (ob (Qf.f a0.2.2.1 a1) fun r1 => (some r1)) (some false)) (some false))
noncomputable def Q23.fn : TFn := ⟨[(.pair .str (.pair .str (.pair (.slice .str) (.pair (.int .i64) (.int .i64))))), .str, (.int .i64)], [.bool], fun x => Q23.f x.1 x.2.1 x.2.2⟩
noncomputable def Q23.C : Cx := ⟨T, TYt, lkF [((128, [0, 131]), Qf.fn)], lkO [], lkD [], lkP [], [3], [], false, [], [], lkS [], 23, lkW [], 0⟩
theorem Q23.hC : CxOK Tryz.prog Q23.C := cxq (FsOK.cons Qf.ok (FsOK.nil))
noncomputable def Q23.root : Code := Z5 Tryz.f78
theorem Q23.ok : FnOK Tryz.prog 78 Q23.fn := .qq Q23.root Q23.hC Tryz.func78 (lkL []) [.tmp 6] LsOK.nil fun x => by kernel_rfl
noncomputable def Q15.f (a0 : (List (ByteArray × (ByteArray × ((List ByteArray) × (Int × Int)))))) (a1 : (ByteArray × (ByteArray × (ByteArray × (ByteArray × (Int × ((List ByteArray) × ByteArray))))))) : Option Int :=
 (ob (Q1q.f a0 a1.2.2.2.1) fun r1 => (cb (!r1.2) (some (3 : Int)) (ob (Q1i.f r1.1.2.1 a1) fun r2 => (cb (!decide (a1.2.2.2.2.2.2 = r2)) (some (2 : Int)) (ob (Q23.f r1.1 a1.2.1 a1.2.2.2.2.1) fun r3 => (cb (!r3) (some (4 : Int)) (some (1 : Int))))))))
noncomputable def Q15.fn : TFn := ⟨[(.slice (.pair .str (.pair .str (.pair (.slice .str) (.pair (.int .i64) (.int .i64)))))), (.pair .str (.pair .str (.pair .str (.pair .str (.pair (.int .i64) (.pair (.slice .str) .str))))))], [(.int .i64)], fun x => Q15.f x.1 x.2⟩
noncomputable def Q15.C : Cx := ⟨T, TYt, lkF [((72, [0, 0]), Q1q.fn), ((74, [0, 0]), Q1i.fn), ((78, [0, 0, 0]), Q23.fn)], lkO [], lkD [(4, 6, [(0, true), (1, true), (2, true), (3, true), (4, true), (5, false)], none)], lkP [], [3, 5], [], false, [], [], lkS [], 33, lkW [], 0⟩
theorem Q15.hC : CxOK Tryz.prog Q15.C := cxq (FsOK.cons Q1q.ok (FsOK.cons Q1i.ok (FsOK.cons Q23.ok (FsOK.nil))))
noncomputable def Q15.root : Code := Z5 Tryz.f79
theorem Q15.ok : FnOK Tryz.prog 79 Q15.fn := .qq Q15.root Q15.hC Tryz.func79 (lkL []) [.tmp 4] LsOK.nil fun x => by kernel_rfl
noncomputable def Q8.s0 (v0_2 : (List (Int × (ByteArray × Int)))) (v0_9 : Int) (x0_15 : Int) (o0_0_0 : ByteArray) (o0_1_0 : Bool) (o0_2_0 : Int) : Option ((Int × (ByteArray × (Bool × Int))) ⊕ (Int × (ByteArray × (Bool × Int)))) :=
 (let y7 : Int := ((List.length v0_2 : Nat) : Int); (cb (decide (x0_15 < y7)) (ck (0 ≤ x0_15 ∧ x0_15 < ((List.length v0_2 : Nat) : Int)) (let y8 : Int := (rd ((0 : Int), (ByteArray.empty, (0 : Int))) v0_2 x0_15).2.2; (cb (decide (y8 ≤ v0_9)) (ck (InR (x0_15 + (1 : Int))) (some (.inl ((x0_15 + (1 : Int)), o0_0_0, o0_1_0, o0_2_0)))) (some (.inr (x0_15, o0_0_0, o0_1_0, o0_2_0)))))) (some (.inr (x0_15, o0_0_0, o0_1_0, o0_2_0)))))
noncomputable def Q8.l0 (v0_2 : (List (Int × (ByteArray × Int)))) (v0_9 : Int) (x0_15 : Int) (o0_0_0 : ByteArray) (o0_1_0 : Bool) (o0_2_0 : Int) : Option (Int × (ByteArray × (Bool × Int))) :=
 Zp (fun (x : (Int × (ByteArray × (Bool × Int)))) => Q8.s0 v0_2 v0_9 x.1 x.2.1 x.2.2.1 x.2.2.2) (x0_15, o0_0_0, o0_1_0, o0_2_0)
noncomputable def Q8.e0 : Ent where
 pre := []
 inv := [(1, .val (.slice (.pair .str (.pair .str (.pair .str (.pair .str (.pair (.int .i64) (.pair (.slice .str) .str)))))))), (2, .val (.slice (.pair (.int .i64) (.pair .str (.int .i64))))), (5, .rp (.slice (.pair .str (.pair .str (.pair (.slice .str) (.pair (.int .i64) (.int .i64))))))), (8, .rp .str), (9, .rp (.int .i64))]
 car := ⟨[(10, .ptr 0 1), (11, .ptr 1 1), (12, .ptr 2 1), (15, .val (.int .i64))], [.box 9 [.val .str], .box 4 [.val .bool], .box 25 [.val (.int .i64)]]⟩
 exits := [(.exit 0, ⟨[(10, .ptr 0 1), (11, .ptr 1 1), (12, .ptr 2 1), (15, .val (.int .i64))], [.box 9 [.val .str], .box 4 [.val .bool], .box 25 [.val (.int .i64)]]⟩)]
 step := fun iv x => Q8.s0 iv.2.1 iv.2.2.2.2 x.1 x.2.1 x.2.2.1 x.2.2.2
noncomputable def Q8.s1 (v1_5 : (List (ByteArray × (ByteArray × ((List ByteArray) × (Int × Int)))))) (v1_8 : ByteArray) (v1_9 : Int) (v1_16 : (List Bool)) (o1_0_0 : ByteArray) (o1_1_0 : Bool) (o1_2_0 : Int) (i : Int) (v : (ByteArray × (ByteArray × (ByteArray × (ByteArray × (Int × ((List ByteArray) × ByteArray))))))) : Option ((ByteArray × (Bool × Int)) ⊕ (ByteArray × (Bool × Int))) :=
 (cb (decide (v.2.2.2.2.1 ≤ v1_9)) (cb (decide (v.1 = v1_8)) (ck (0 ≤ i ∧ i < ((List.length v1_16 : Nat) : Int)) (cb (!(rd false v1_16 i)) (ob (Q15.f v1_5 v) fun r13 => (cb (decide (r13 = (1 : Int))) (some (.inr (v.2.2.1, true, (0 : Int)))) (some (.inl (o1_0_0, o1_1_0, o1_2_0))))) (some (.inl (o1_0_0, o1_1_0, o1_2_0))))) (some (.inl (o1_0_0, o1_1_0, o1_2_0)))) (some (.inl (o1_0_0, o1_1_0, o1_2_0))))
noncomputable def Q8.l1 (v1_5 : (List (ByteArray × (ByteArray × ((List ByteArray) × (Int × Int)))))) (v1_8 : ByteArray) (v1_9 : Int) (v1_16 : (List Bool)) (es : List (ByteArray × (ByteArray × (ByteArray × (ByteArray × (Int × ((List ByteArray) × ByteArray))))))) (o1_0_0 : ByteArray) (o1_1_0 : Bool) (o1_2_0 : Int) : Option ((ByteArray × (Bool × Int)) ⊕ (ByteArray × (Bool × Int))) :=
 Z6b (fun (x : (ByteArray × (Bool × Int))) i v => Q8.s1 v1_5 v1_8 v1_9 v1_16 x.1 x.2.1 x.2.2 i v) (List.reverse es) (o1_0_0, o1_1_0, o1_2_0)
noncomputable def Q8.e1 : EntR where
 inv := [(5, .rp (.slice (.pair .str (.pair .str (.pair (.slice .str) (.pair (.int .i64) (.int .i64))))))), (8, .rp .str), (9, .rp (.int .i64)), (16, .rp (.slice .bool))]
 sl := [(10, .ptr 0 1), (11, .ptr 1 1), (12, .ptr 2 1)]
 obs := [.box 9 [.val .str], .box 4 [.val .bool], .box 25 [.val (.int .i64)], .dead]
 outs := [.box 9 [.val .str], .box 4 [.val .bool], .box 25 [.val (.int .i64)], .dead]
 it := 57
 fn := 141
 t := (.pair .str (.pair .str (.pair .str (.pair .str (.pair (.int .i64) (.pair (.slice .str) .str))))))
 pi := 58
 pv := 59
 step := fun iv x i v => Q8.s1 iv.1 iv.2.1 iv.2.2.1 iv.2.2.2 x.1 x.2.1 x.2.2 i v
noncomputable def Q8.f (a0 : (List (ByteArray × (ByteArray × ((List ByteArray) × (Int × Int)))))) (a1 : (List (ByteArray × (ByteArray × (ByteArray × (ByteArray × (Int × ((List ByteArray) × ByteArray)))))))) (a2 : (List (Int × (ByteArray × Int)))) (a3 : ByteArray) (a4 : Int) : Option (ByteArray × (Bool × Int)) :=
 (ob (Q6.f a0) fun r1 => (cb (!decide (r1 = (0 : Int))) (some (bs_, false, r1)) (ob (Q5.f a1 a2) fun r2 => (cb (!decide (r2 = (0 : Int))) (some (bs_, false, r2)) (ob (Q18.f a3) fun r3 => (cb (!r3) (some (bs_, false, (3 : Int))) (ob (Q14.f a4 (0 : Int) (1000000000 : Int)) fun r4 => (cb (!r4) (some (bs_, false, (1 : Int))) (ob (Q8.l0 a2 a4 (0 : Int) bs_ false (0 : Int)) fun r9 => (ck (0 ≤ r9.1 ∧ r9.1 ≤ ((List.length a2 : Nat) : Int)) (let y10 : (List (Int × (ByteArray × Int))) := (List.take (Int.toNat r9.1) a2); (ob (Qo.f a1 y10) fun r11 => (ob (Q16.f a1) fun r12 => (ck ((List.length r12 : Int) ≤ 9223372036854775807) (ob (Q8.l1 a0 a3 a4 r11 r12 r9.2.1 r9.2.2.1 r9.2.2.2) fun r16 => (Z31 r16 (fun a14 => (some (bs_, false, (0 : Int)))) (fun b15 => (some (b15.1, b15.2.1, b15.2.2)))))))))))))))))))
noncomputable def Q8.fn : TFn := ⟨[(.slice (.pair .str (.pair .str (.pair (.slice .str) (.pair (.int .i64) (.int .i64)))))), (.slice (.pair .str (.pair .str (.pair .str (.pair .str (.pair (.int .i64) (.pair (.slice .str) .str))))))), (.slice (.pair (.int .i64) (.pair .str (.int .i64)))), .str, (.int .i64)], [.str, .bool, (.int .i64)], fun x => Q8.f x.1 x.2.1 x.2.2.1 x.2.2.2.1 x.2.2.2.2⟩
noncomputable def Q8.C : Cx := ⟨T, TYt, lkF [((65, [0, 0]), Q5.fn), ((69, [0]), Q18.fn), ((70, [0, 0, 0]), Q14.fn), ((75, [0]), Q6.fn), ((79, [0, 0]), Q15.fn), ((91, [0, 0]), Qo.fn), ((92, [0]), Q16.fn)], lkO [], lkD [(12, 11, [(0, true), (1, true), (2, true), (3, true), (4, true), (5, true), (6, true), (7, true), (8, true), (9, true), (10, true)], none)], lkP [], [5, 8, 9, 16, 18], [], false, [], [], lkS [], 85, lkW [], 0⟩
theorem Q8.hC : CxOK Tryz.prog Q8.C := cxq (FsOK.cons Q5.ok (FsOK.cons Q18.ok (FsOK.cons Q14.ok (FsOK.cons Q6.ok (FsOK.cons Q15.ok (FsOK.cons Qo.ok (FsOK.cons Q16.ok (FsOK.nil))))))))
noncomputable def Q8.root : Code := Z5 Tryz.f41
theorem Q8.h0 : LsOK Tryz.prog Q8.C Q8.root (lkL [([0, 0, 1, 1, 1, 1, 1, 1], Q8.e0)]) true :=
 LsOK.cons Q8.hC (LsOK.nil) (by kernel_rfl) (fun iv x => by kernel_rfl)
theorem Q8.h1 : LsOK Tryz.prog Q8.C Q8.root (lkL [([0, 1, 0, 1, 1, 1, 1, 1, 1, 1, 1], Q8.e1), ([0, 0, 1, 1, 1, 1, 1, 1], Q8.e0)]) true :=
 LsOK.consR (l' := []) Q8.hC (Q8.h0) LsOK.nil back141 (fun x => Ziy x) (by kernel_rfl) (by kernel_rfl) (by kernel_rfl) (by decide) (by decide) (fun iv x i v => by kernel_rfl)
theorem Q8.ok : FnOK Tryz.prog 41 Q8.fn :=
 FnOK.ofR (L := lkL [([0, 1, 0, 1, 1, 1, 1, 1, 1, 1, 1], Q8.e1), ([0, 0, 1, 1, 1, 1, 1, 1], Q8.e0)]) (root := Q8.root) Q8.hC (enters_of (c := Q8.root) Tryz.func41 (by kernel_rfl) (by kernel_rfl)) Tryz.func41 (by kernel_rfl) (rs := [.cell 10 9, .cell 11 4, .cell 12 25]) (by kernel_rfl) (by kernel_rfl) Q8.h1 (fun x => by kernel_rfl)
noncomputable def Q24.f (a0 : (List (ByteArray × (ByteArray × ((List ByteArray) × (Int × Int)))))) (a1 : ByteArray) (a2 : ByteArray) (a3 : Int) : Option (Bool × Int) :=
 (ob (Q6.f a0) fun r1 => (cb (!decide (r1 = (0 : Int))) (some (false, r1)) (ob (Q1d.f a1) fun r2 => (cb (!r2) (some (false, (5 : Int))) (ob (Q1b.f a2) fun r3 => (cb (!r3) (some (false, (10 : Int))) (ob (Q14.f a3 (0 : Int) (1000000000 : Int)) fun r4 => (cb (!r4) (some (false, (1 : Int))) (ob (Q1q.f a0 a1) fun r5 => (cb r5.2 (ob (Q23.f r5.1 a2 a3) fun r6 => (some (r6, (0 : Int)))) (some (false, (0 : Int)))))))))))))
noncomputable def Q24.fn : TFn := ⟨[(.slice (.pair .str (.pair .str (.pair (.slice .str) (.pair (.int .i64) (.int .i64)))))), .str, .str, (.int .i64)], [.bool, (.int .i64)], fun x => Q24.f x.1 x.2.1 x.2.2.1 x.2.2.2⟩
noncomputable def Q24.C : Cx := ⟨T, TYt, lkF [((70, [0, 0, 0]), Q14.fn), ((72, [0, 0]), Q1q.fn), ((75, [0]), Q6.fn), ((76, [0]), Q1d.fn), ((77, [0]), Q1b.fn), ((78, [0, 0, 0]), Q23.fn)], lkO [], lkD [], lkP [], [11], [], false, [], [], lkS [], 43, lkW [], 0⟩
theorem Q24.hC : CxOK Tryz.prog Q24.C := cxq (FsOK.cons Q14.ok (FsOK.cons Q1q.ok (FsOK.cons Q6.ok (FsOK.cons Q1d.ok (FsOK.cons Q1b.ok (FsOK.cons Q23.ok (FsOK.nil)))))))
noncomputable def Q24.root : Code := Z5 Tryz.f23
theorem Q24.ok : FnOK Tryz.prog 23 Q24.fn := .qq Q24.root Q24.hC Tryz.func23 (lkL []) [.tmp 8, .tmp 9] LsOK.nil fun x => by kernel_rfl
noncomputable def Q1t.f : Option Bool :=
 (ob (Q24.f ([(Q2f, (Q2h, (([Q20] : List ByteArray), ((0 : Int), (5 : Int)))))] : List (ByteArray × (ByteArray × ((List ByteArray) × (Int × Int))))) Q2f Q13 (4 : Int)) fun r1 => (ob (Q24.f ([(Q2f, (Q2h, (([Q20] : List ByteArray), ((0 : Int), (5 : Int)))))] : List (ByteArray × (ByteArray × ((List ByteArray) × (Int × Int))))) Q2f Q13 (5 : Int)) fun r2 => (cb (decide (r1.2 = (0 : Int))) (cb (decide (r2.2 = (0 : Int))) (cb r1.1 (some (!r2.1)) (some false)) (some false)) (some false))))
noncomputable def Q1t.fn : TFn := ⟨[], [.bool], fun x => Q1t.f⟩
noncomputable def Q1t.C : Cx := cxC [((23, [0, 0, 0, 0]), Q24.fn)] 32
theorem Q1t.hC : CxOK Tryz.prog Q1t.C := cxq (FsOK.cons Q24.ok (FsOK.nil))
noncomputable def Q1t.root : Code := Z5 Tryz.f20
theorem Q1t.ok : FnOK Tryz.prog 20 Q1t.fn := .qq Q1t.root Q1t.hC Tryz.func20 (lkL []) [.tmp 0] LsOK.nil fun x => by kernel_rfl
noncomputable def Qt.s0 (v0_6 : (List Bool)) (v0_7 : Int) (x0_8 : Int) (o0_0 : (List Int)) : Option ((Int × (List Int)) ⊕ (List Int)) :=
 (cb (decide (x0_8 < v0_7)) (ck (0 ≤ x0_8 ∧ x0_8 < ((List.length v0_6 : Nat) : Int)) (cb (rd false v0_6 x0_8) (ck ((List.length o0_0 + List.length ([x0_8] : List Int)) * 8 ≤ 140737488355328) (ck (InR (x0_8 + (1 : Int))) (some (.inl ((x0_8 + (1 : Int)), (o0_0 ++ ([x0_8] : List Int))))))) (ck (InR (x0_8 + (1 : Int))) (some (.inl ((x0_8 + (1 : Int)), o0_0)))))) (some (.inr o0_0)))
noncomputable def Qt.l0 (v0_6 : (List Bool)) (v0_7 : Int) (x0_8 : Int) (o0_0 : (List Int)) : Option (List Int) :=
 Zp (fun (x : (Int × (List Int))) => Qt.s0 v0_6 v0_7 x.1 x.2) (x0_8, o0_0)
noncomputable def Qt.e0 : Ent where
 pre := [.nil 3 3 (.int .i64)]
 inv := [(6, .val (.slice .bool)), (7, .val (.int .i64))]
 car := ⟨[(3, .own 0 1), (8, .val (.int .i64))], [.row 3 (.int .i64)]⟩
 exits := [(.exit 0, ⟨[(3, .own 0 1)], [.row 3 (.int .i64)]⟩)]
 step := fun iv x => Qt.s0 iv.1 iv.2 x.1 x.2
noncomputable def Qt.f (a0 : (List Bool)) : Option (List Int) :=
 (let y1 : Int := ((List.length a0 : Nat) : Int); (ob (Qt.l0 a0 y1 (0 : Int) ([] : List Int)) fun r2 => (some r2)))
noncomputable def Qt.fn : TFn := ⟨[(.slice .bool)], [(.slice (.int .i64))], fun x => Qt.f x⟩
noncomputable def Qt.C : Cx := cxC [] 20
theorem Qt.hC : CxOK Tryz.prog Qt.C := cxq FsOK.nil
noncomputable def Qt.root : Code := Z5 Tryz.f93
theorem Qt.h0 : LsOK Tryz.prog Qt.C Qt.root (lkL [([0, 1, 0, 1, 1], Qt.e0)]) :=
 LsOK.cons Qt.hC (LsOK.nil) (by kernel_rfl) (fun iv x => by kernel_rfl)
theorem Qt.ok : FnOK Tryz.prog 93 Qt.fn := .qq Qt.root Qt.hC Tryz.func93 (lkL [([0, 1, 0, 1, 1], Qt.e0)]) [.tmp 2] Qt.h0 fun x => by kernel_rfl
noncomputable def Q1p.f (a0 : (List (ByteArray × (ByteArray × (ByteArray × (ByteArray × (Int × ((List ByteArray) × ByteArray)))))))) (a1 : (List (Int × (ByteArray × Int)))) : Option ((List Int) × Int) :=
 (ob (Q5.f a0 a1) fun r1 => (cb (!decide (r1 = (0 : Int))) (some (([] : List Int), r1)) (ob (Qo.f a0 a1) fun r2 => (ob (Qt.f r2) fun r3 => (some (r3, (0 : Int)))))))
noncomputable def Q1p.fn : TFn := ⟨[(.slice (.pair .str (.pair .str (.pair .str (.pair .str (.pair (.int .i64) (.pair (.slice .str) .str))))))), (.slice (.pair (.int .i64) (.pair .str (.int .i64))))], [(.slice (.int .i64)), (.int .i64)], fun x => Q1p.f x.1 x.2⟩
noncomputable def Q1p.C : Cx := cxC [((65, [0, 0]), Q5.fn), ((91, [0, 0]), Qo.fn), ((93, [0]), Qt.fn)] 17
theorem Q1p.hC : CxOK Tryz.prog Q1p.C := cxq (FsOK.cons Q5.ok (FsOK.cons Qo.ok (FsOK.cons Qt.ok (FsOK.nil))))
noncomputable def Q1p.root : Code := Z5 Tryz.f42
theorem Q1p.ok : FnOK Tryz.prog 42 Q1p.fn := .qq Q1p.root Q1p.hC Tryz.func42 (lkL []) [.tmp 4, .tmp 5] LsOK.nil fun x => by kernel_rfl
noncomputable def Q1c.f (a0 : (List (ByteArray × (ByteArray × ((List ByteArray) × (Int × Int)))))) (a1 : (ByteArray × (ByteArray × (ByteArray × (ByteArray × (Int × ((List ByteArray) × ByteArray))))))) : Option Int :=
 (ob (Q6.f a0) fun r1 => (cb (!decide (r1 = (0 : Int))) (some r1) (ob (Q9.f a1) fun r2 => (some r2))))
noncomputable def Q1c.fn : TFn := ⟨[(.slice (.pair .str (.pair .str (.pair (.slice .str) (.pair (.int .i64) (.int .i64)))))), (.pair .str (.pair .str (.pair .str (.pair .str (.pair (.int .i64) (.pair (.slice .str) .str))))))], [(.int .i64)], fun x => Q1c.f x.1 x.2⟩
noncomputable def Q1c.C : Cx := ⟨T, TYt, lkF [((75, [0]), Q6.fn), ((84, [0]), Q9.fn)], lkO [], lkD [], lkP [], [3], [], false, [], [], lkS [], 13, lkW [], 0⟩
theorem Q1c.hC : CxOK Tryz.prog Q1c.C := cxq (FsOK.cons Q6.ok (FsOK.cons Q9.ok (FsOK.nil)))
noncomputable def Q1c.root : Code := Z5 Tryz.f71
theorem Q1c.ok : FnOK Tryz.prog 71 Q1c.fn := .qq Q1c.root Q1c.hC Tryz.func71 (lkL []) [.tmp 4] LsOK.nil fun x => by kernel_rfl
noncomputable def Q1k.f (a0 : (List (ByteArray × (ByteArray × ((List ByteArray) × (Int × Int)))))) (a1 : (ByteArray × (ByteArray × (ByteArray × (ByteArray × (Int × ((List ByteArray) × ByteArray))))))) : Option (Int × Int) :=
 (ob (Q1c.f a0 a1) fun r1 => (cb (!decide (r1 = (0 : Int))) (some ((0 : Int), r1)) (ob (Q15.f a0 a1) fun r2 => (some (r2, (0 : Int))))))
noncomputable def Q1k.fn : TFn := ⟨[(.slice (.pair .str (.pair .str (.pair (.slice .str) (.pair (.int .i64) (.int .i64)))))), (.pair .str (.pair .str (.pair .str (.pair .str (.pair (.int .i64) (.pair (.slice .str) .str))))))], [(.int .i64), (.int .i64)], fun x => Q1k.f x.1 x.2⟩
noncomputable def Q1k.C : Cx := ⟨T, TYt, lkF [((71, [0, 0]), Q1c.fn), ((79, [0, 0]), Q15.fn)], lkO [], lkD [], lkP [], [3], [], false, [], [], lkS [], 16, lkW [], 0⟩
theorem Q1k.hC : CxOK Tryz.prog Q1k.C := cxq (FsOK.cons Q1c.ok (FsOK.cons Q15.ok (FsOK.nil)))
noncomputable def Q1k.root : Code := Z5 Tryz.f24
theorem Q1k.ok : FnOK Tryz.prog 24 Q1k.fn := .qq Q1k.root Q1k.hC Tryz.func24 (lkL []) [.tmp 4, .tmp 5] LsOK.nil fun x => by kernel_rfl
noncomputable def Qe.s0 (v0_0 : (List Int)) (v0_1 : Int) (v0_7 : Int) (x0_8 : Int) : Option (Int ⊕ (Int ⊕ Unit)) :=
 (cb (decide (x0_8 < v0_7)) (ck (0 ≤ x0_8 ∧ x0_8 < ((List.length v0_0 : Nat) : Int)) (cb (decide (v0_1 = (rd (0 : Int) v0_0 x0_8))) (some (.inr (.inl x0_8))) (ck (InR (x0_8 + (1 : Int))) (some (.inl (x0_8 + (1 : Int))))))) (some (.inr (.inr ()))))
noncomputable def Qe.l0 (v0_0 : (List Int)) (v0_1 : Int) (v0_7 : Int) (x0_8 : Int) : Option (Int ⊕ Unit) :=
 Zp (fun (x : Int) => Qe.s0 v0_0 v0_1 v0_7 x) x0_8
noncomputable def Qe.e0 : Ent where
 pre := []
 inv := [(0, .val (.slice (.int .i64))), (1, .val (.int .i64)), (7, .val (.int .i64))]
 car := ⟨[(8, .val (.int .i64))], []⟩
 exits := [(.ret, ⟨[(4, .val (.int .i64))], []⟩), (.exit 0, ⟨[], []⟩)]
 step := fun iv x => Qe.s0 iv.1 iv.2.1 iv.2.2 x
noncomputable def Qe.f (a0 : (List Int)) (a1 : Int) : Option Int :=
 (let y1 : Int := ((List.length a0 : Nat) : Int); (ob (Qe.l0 a0 a1 y1 (0 : Int)) fun r2 => (Z31 r2 (fun a3 => (some a3)) (fun b4 => (some (-1 : Int))))))
noncomputable def Qe.fn : TFn := ⟨[(.slice (.int .i64)), (.int .i64)], [(.int .i64)], fun x => Qe.f x.1 x.2⟩
noncomputable def Qe.C : Cx := cxC [] 19
theorem Qe.hC : CxOK Tryz.prog Qe.C := cxq FsOK.nil
noncomputable def Qe.root : Code := Z5 Tryz.f94
theorem Qe.h0 : LsOK Tryz.prog Qe.C Qe.root (lkL [([0, 1, 0, 1], Qe.e0)]) :=
 LsOK.cons Qe.hC (LsOK.nil) (by kernel_rfl) (fun iv x => by kernel_rfl)
theorem Qe.ok : FnOK Tryz.prog 94 Qe.fn := .qq Qe.root Qe.hC Tryz.func94 (lkL [([0, 1, 0, 1], Qe.e0)]) [.tmp 4] Qe.h0 fun x => by kernel_rfl
noncomputable def Qv.f (a0 : (List Int)) (a1 : Int) : Option Bool :=
 (ob (Qe.f a0 a1) fun r1 => (some (decide ((0 : Int) ≤ r1))))
noncomputable def Qv.fn : TFn := ⟨[(.slice (.int .i64)), (.int .i64)], [.bool], fun x => Qv.f x.1 x.2⟩
noncomputable def Qv.C : Cx := cxC [((94, [0, 0]), Qe.fn)] 9
theorem Qv.hC : CxOK Tryz.prog Qv.C := cxq (FsOK.cons Qe.ok (FsOK.nil))
noncomputable def Qv.root : Code := Z5 Tryz.f43
theorem Qv.ok : FnOK Tryz.prog 43 Qv.fn := .qq Qv.root Qv.hC Tryz.func43 (lkL []) [.tmp 4] LsOK.nil fun x => by kernel_rfl
noncomputable def Q1.s0 (v0_2 : (List (Int × (ByteArray × Int)))) (v0_4 : Int) (x0_14 : Int) : Option (Int ⊕ Int) :=
 (let y6 : Int := ((List.length v0_2 : Nat) : Int); (cb (decide (x0_14 < y6)) (ck (0 ≤ x0_14 ∧ x0_14 < ((List.length v0_2 : Nat) : Int)) (let y7 : Int := (rd ((0 : Int), (ByteArray.empty, (0 : Int))) v0_2 x0_14).2.2; (cb (decide (y7 ≤ v0_4)) (ck (InR (x0_14 + (1 : Int))) (some (.inl (x0_14 + (1 : Int))))) (some (.inr x0_14))))) (some (.inr x0_14))))
noncomputable def Q1.l0 (v0_2 : (List (Int × (ByteArray × Int)))) (v0_4 : Int) (x0_14 : Int) : Option Int :=
 Zp (fun (x : Int) => Q1.s0 v0_2 v0_4 x) x0_14
noncomputable def Q1.e0 : Ent where
 pre := []
 inv := [(0, .val (.slice (.pair .str (.pair .str (.pair (.slice .str) (.pair (.int .i64) (.int .i64))))))), (1, .val (.slice (.pair .str (.pair .str (.pair .str (.pair .str (.pair (.int .i64) (.pair (.slice .str) .str)))))))), (2, .val (.slice (.pair (.int .i64) (.pair .str (.int .i64))))), (3, .val .str), (4, .val (.int .i64)), (11, .val .str)]
 car := ⟨[(14, .val (.int .i64))], []⟩
 exits := [(.exit 0, ⟨[(14, .val (.int .i64))], []⟩)]
 step := fun iv x => Q1.s0 iv.2.2.1 iv.2.2.2.2.1 x
noncomputable def Q1.s1 (v1_0 : (List (ByteArray × (ByteArray × ((List ByteArray) × (Int × Int)))))) (v1_3 : ByteArray) (v1_4 : Int) (v1_11 : ByteArray) (v1_15 : (List Int)) (v1_70 : (List (ByteArray × (ByteArray × (ByteArray × (ByteArray × (Int × ((List ByteArray) × ByteArray)))))))) (v1_71 : Int) (x1_72 : Int) : Option (Int ⊕ (Bool ⊕ Unit)) :=
 (cb (decide (x1_72 < v1_71)) (ck (0 ≤ x1_72 ∧ x1_72 < ((List.length v1_70 : Nat) : Int)) (let y16 : (ByteArray × (ByteArray × (ByteArray × (ByteArray × (Int × ((List ByteArray) × ByteArray)))))) := (rd (ByteArray.empty, (ByteArray.empty, (ByteArray.empty, (ByteArray.empty, ((0 : Int), (([] : (List ByteArray)), ByteArray.empty)))))) v1_70 x1_72); (ob (Q1k.f v1_0 y16) fun r17 => (cb (decide (r17.2 = (0 : Int))) (cb (decide (r17.1 = (1 : Int))) (cb (decide (y16.1 = v1_3)) (cb (decide (y16.2.2.1 = v1_11)) (cb (decide (y16.2.2.2.2.1 ≤ v1_4)) (ob (Qv.f v1_15 x1_72) fun r18 => (cb (!r18) (some (.inr (.inl true))) (ck (InR (x1_72 + (1 : Int))) (some (.inl (x1_72 + (1 : Int))))))) (ck (InR (x1_72 + (1 : Int))) (some (.inl (x1_72 + (1 : Int)))))) (ck (InR (x1_72 + (1 : Int))) (some (.inl (x1_72 + (1 : Int)))))) (ck (InR (x1_72 + (1 : Int))) (some (.inl (x1_72 + (1 : Int)))))) (ck (InR (x1_72 + (1 : Int))) (some (.inl (x1_72 + (1 : Int)))))) (ck (InR (x1_72 + (1 : Int))) (some (.inl (x1_72 + (1 : Int))))))))) (some (.inr (.inr ()))))
noncomputable def Q1.l1 (v1_0 : (List (ByteArray × (ByteArray × ((List ByteArray) × (Int × Int)))))) (v1_3 : ByteArray) (v1_4 : Int) (v1_11 : ByteArray) (v1_15 : (List Int)) (v1_70 : (List (ByteArray × (ByteArray × (ByteArray × (ByteArray × (Int × ((List ByteArray) × ByteArray)))))))) (v1_71 : Int) (x1_72 : Int) : Option (Bool ⊕ Unit) :=
 Zp (fun (x : Int) => Q1.s1 v1_0 v1_3 v1_4 v1_11 v1_15 v1_70 v1_71 x) x1_72
noncomputable def Q1.e1 : Ent where
 pre := []
 inv := [(0, .val (.slice (.pair .str (.pair .str (.pair (.slice .str) (.pair (.int .i64) (.int .i64))))))), (3, .val .str), (4, .val (.int .i64)), (11, .val .str), (15, .val (.slice (.int .i64))), (70, .val (.slice (.pair .str (.pair .str (.pair .str (.pair .str (.pair (.int .i64) (.pair (.slice .str) .str)))))))), (71, .val (.int .i64))]
 car := ⟨[(72, .val (.int .i64))], []⟩
 exits := [(.ret, ⟨[(10, .val .bool)], []⟩), (.exit 2, ⟨[], []⟩)]
 step := fun iv x => Q1.s1 iv.1 iv.2.1 iv.2.2.1 iv.2.2.2.1 iv.2.2.2.2.1 iv.2.2.2.2.2.1 iv.2.2.2.2.2.2 x
noncomputable def Q1.f (a0 : (List (ByteArray × (ByteArray × ((List ByteArray) × (Int × Int)))))) (a1 : (List (ByteArray × (ByteArray × (ByteArray × (ByteArray × (Int × ((List ByteArray) × ByteArray)))))))) (a2 : (List (Int × (ByteArray × Int)))) (a3 : ByteArray) (a4 : Int) : Option Bool :=
 (ob (Q8.f a0 a1 a2 a3 a4) fun r1 => (cb (!decide (r1.2.2 = (0 : Int))) (cb (decide (r1.1 = bs_)) (ob (Q1t.f) fun r2 => (some r2)) (some false)) (cb (!r1.2.1) (cb (decide (r1.1 = bs_)) (ob (Q1t.f) fun r3 => (some r3)) (some false)) (ob (Q1.l0 a2 a4 (0 : Int)) fun r8 => (ck (0 ≤ r8 ∧ r8 ≤ ((List.length a2 : Nat) : Int)) (let y9 : (List (Int × (ByteArray × Int))) := (List.take (Int.toNat r8) a2); (ob (Q1p.f a1 y9) fun r10 => (cb (!decide (r10.2 = (0 : Int))) (some false) (ob (Q1t.f) fun r11 => (cb (!r11) (some false) (let y12 : Int := ((List.length a1 : Nat) : Int); (ob (Q1.l1 a0 a3 a4 r1.1 r10.1 a1 y12 (0 : Int)) fun r19 => (Z31 r19 (fun a20 => (some a20)) (fun b21 => (some false)))))))))))))))
noncomputable def Q1.fn : TFn := ⟨[(.slice (.pair .str (.pair .str (.pair (.slice .str) (.pair (.int .i64) (.int .i64)))))), (.slice (.pair .str (.pair .str (.pair .str (.pair .str (.pair (.int .i64) (.pair (.slice .str) .str))))))), (.slice (.pair (.int .i64) (.pair .str (.int .i64)))), .str, (.int .i64)], [.bool], fun x => Q1.f x.1 x.2.1 x.2.2.1 x.2.2.2.1 x.2.2.2.2⟩
noncomputable def Q1.C : Cx := ⟨T, TYt, lkF [((20, []), Q1t.fn), ((24, [0, 0]), Q1k.fn), ((41, [0, 0, 0, 0, 0]), Q8.fn), ((42, [0, 0]), Q1p.fn), ((43, [0, 0]), Qv.fn)], lkO [], lkD [], lkP [], [17], [], false, [], [], lkS [], 114, lkW [], 0⟩
theorem Q1.hC : CxOK Tryz.prog Q1.C := cxq (FsOK.cons Q1t.ok (FsOK.cons Q1k.ok (FsOK.cons Q8.ok (FsOK.cons Q1p.ok (FsOK.cons Qv.ok (FsOK.nil))))))
noncomputable def Q1.root : Code := Z5 Tryz.f8
theorem Q1.h0 : LsOK Tryz.prog Q1.C Q1.root (lkL [([0, 0, 1, 1, 1, 1], Q1.e0)]) :=
 LsOK.cons Q1.hC (LsOK.nil) (by kernel_rfl) (fun iv x => by kernel_rfl)
theorem Q1.h1 : LsOK Tryz.prog Q1.C Q1.root (lkL [([0, 1, 0, 1, 1, 1, 1, 1, 1, 1], Q1.e1), ([0, 0, 1, 1, 1, 1], Q1.e0)]) :=
 LsOK.cons Q1.hC (Q1.h0) (by kernel_rfl) (fun iv x => by kernel_rfl)
theorem Q1.ok : FnOK Tryz.prog 8 Q1.fn := .qq Q1.root Q1.hC Tryz.func8 (lkL [([0, 1, 0, 1, 1, 1, 1, 1, 1, 1], Q1.e1), ([0, 0, 1, 1, 1, 1], Q1.e0)]) [.tmp 10] Q1.h1 fun x => by kernel_rfl
noncomputable def Qx.s0 (v0_0 : ByteArray) (v0_5 : Int) (x0_6 : Int) : Option (Int ⊕ (Bool ⊕ Unit)) :=
 (cb (decide (x0_6 < v0_5)) (ck (0 ≤ x0_6 ∧ x0_6 < ((ByteArray.size v0_0 : Nat) : Int)) (cb (decide (((UInt8.toNat (bt v0_0 x0_6) : Nat) : Int) < (33 : Int))) (some (.inr (.inl false))) (ck (0 ≤ x0_6 ∧ x0_6 < ((ByteArray.size v0_0 : Nat) : Int)) (cb (decide ((126 : Int) < ((UInt8.toNat (bt v0_0 x0_6) : Nat) : Int))) (some (.inr (.inl false))) (ck (InR (x0_6 + (1 : Int))) (some (.inl (x0_6 + (1 : Int))))))))) (some (.inr (.inr ()))))
noncomputable def Qx.l0 (v0_0 : ByteArray) (v0_5 : Int) (x0_6 : Int) : Option (Bool ⊕ Unit) :=
 Zp (fun (x : Int) => Qx.s0 v0_0 v0_5 x) x0_6
noncomputable def Qx.e0 : Ent where
 pre := []
 inv := [(0, .val .str), (5, .val (.int .i64))]
 car := ⟨[(6, .val (.int .i64))], []⟩
 exits := [(.ret, ⟨[(2, .val .bool)], []⟩), (.exit 0, ⟨[], []⟩)]
 step := fun iv x => Qx.s0 iv.1 iv.2 x
noncomputable def Qx.f (a0 : ByteArray) : Option Bool :=
 (let y1 : Int := ((ByteArray.size a0 : Nat) : Int); (ob (Qx.l0 a0 y1 (0 : Int)) fun r2 => (Z31 r2 (fun a3 => (some a3)) (fun b4 => (some (!decide (a0 = bs_)))))))
noncomputable def Qx.fn : TFn := ⟨[.str], [.bool], fun x => Qx.f x⟩
noncomputable def Qx.C : Cx := cxC [] 22
theorem Qx.hC : CxOK Tryz.prog Qx.C := cxq FsOK.nil
noncomputable def Qx.root : Code := Z5 Tryz.f134
theorem Qx.h0 : LsOK Tryz.prog Qx.C Qx.root (lkL [([0, 1, 0, 1], Qx.e0)]) :=
 LsOK.cons Qx.hC (LsOK.nil) (by kernel_rfl) (fun iv x => by kernel_rfl)
theorem Qx.ok : FnOK Tryz.prog 134 Qx.fn := .qq Qx.root Qx.hC Tryz.func134 (lkL [([0, 1, 0, 1], Qx.e0)]) [.tmp 2] Qx.h0 fun x => by kernel_rfl
noncomputable def Q1o.f (a0 : ByteArray) : Option Bool :=
 (ob (Qx.f a0) fun r1 => (cb r1 (let y2 : Int := ((ByteArray.size a0 : Nat) : Int); (some (decide (y2 ≤ (100 : Int))))) (some false)))
noncomputable def Q1o.fn : TFn := ⟨[.str], [.bool], fun x => Q1o.f x⟩
noncomputable def Q1o.C : Cx := cxC [((134, [0]), Qx.fn)] 10
theorem Q1o.hC : CxOK Tryz.prog Q1o.C := cxq (FsOK.cons Qx.ok (FsOK.nil))
noncomputable def Q1o.root : Code := Z5 Tryz.f85
theorem Q1o.ok : FnOK Tryz.prog 85 Q1o.fn := .qq Q1o.root Q1o.hC Tryz.func85 (lkL []) [.tmp 2] LsOK.nil fun x => by kernel_rfl
noncomputable def Qb.s0 (v0_0 : (List ByteArray)) (v0_8 : (List ByteArray)) (v0_9 : Int) (x0_10 : Int) : Option (Int ⊕ (Int ⊕ Unit)) :=
 (cb (decide (x0_10 < v0_9)) (ck (0 ≤ x0_10 ∧ x0_10 < ((List.length v0_8 : Nat) : Int)) (let y8 : ByteArray := (rd ByteArray.empty v0_8 x0_10); (ob (Qz.f y8 Q1m) fun r9 => (cb (!r9) (some (.inr (.inl (3 : Int)))) (let y10 : Int := ((ByteArray.size y8 : Nat) : Int); (cb (decide ((1000 : Int) < y10)) (some (.inr (.inl (3 : Int)))) (ob (Qx.f y8) fun r11 => (cb (!r11) (some (.inr (.inl (3 : Int)))) (cb (decide ((0 : Int) < x0_10)) (ck (InR (x0_10 - (1 : Int))) (ck (0 ≤ (x0_10 - (1 : Int)) ∧ (x0_10 - (1 : Int)) < ((List.length v0_0 : Nat) : Int)) (let y12 : ByteArray := (rd ByteArray.empty v0_0 (x0_10 - (1 : Int))); (cb (Z4e y8 y12 || decide (y8 = y12)) (some (.inr (.inl (8 : Int)))) (ck (InR (x0_10 + (1 : Int))) (some (.inl (x0_10 + (1 : Int))))))))) (ck (InR (x0_10 + (1 : Int))) (some (.inl (x0_10 + (1 : Int)))))))))))))) (some (.inr (.inr ()))))
noncomputable def Qb.l0 (v0_0 : (List ByteArray)) (v0_8 : (List ByteArray)) (v0_9 : Int) (x0_10 : Int) : Option (Int ⊕ Unit) :=
 Zp (fun (x : Int) => Qb.s0 v0_0 v0_8 v0_9 x) x0_10
noncomputable def Qb.e0 : Ent where
 pre := []
 inv := [(0, .val (.slice .str)), (8, .val (.slice .str)), (9, .val (.int .i64))]
 car := ⟨[(10, .val (.int .i64))], []⟩
 exits := [(.ret, ⟨[(2, .val (.int .i64))], []⟩), (.exit 0, ⟨[], []⟩)]
 step := fun iv x => Qb.s0 iv.1 iv.2.1 iv.2.2 x
noncomputable def Qb.f (a0 : (List ByteArray)) : Option Int :=
 (let y1 : Int := ((List.length a0 : Nat) : Int); (cb (decide ((30 : Int) < y1)) (some (2 : Int)) (let y2 : Int := ((List.length a0 : Nat) : Int); (ob (Qb.l0 a0 a0 y2 (0 : Int)) fun r13 => (Z31 r13 (fun a14 => (some a14)) (fun b15 => (some (0 : Int))))))))
noncomputable def Qb.fn : TFn := ⟨[(.slice .str)], [(.int .i64)], fun x => Qb.f x⟩
noncomputable def Qb.C : Cx := cxC [((130, [0, 0]), Qz.fn), ((134, [0]), Qx.fn)] 40
theorem Qb.hC : CxOK Tryz.prog Qb.C := cxq (FsOK.cons Qz.ok (FsOK.cons Qx.ok (FsOK.nil)))
noncomputable def Qb.root : Code := Z5 Tryz.f167
theorem Qb.h0 : LsOK Tryz.prog Qb.C Qb.root (lkL [([0, 1, 0, 1, 1], Qb.e0)]) :=
 LsOK.cons Qb.hC (LsOK.nil) (by kernel_rfl) (fun iv x => by kernel_rfl)
theorem Qb.ok : FnOK Tryz.prog 167 Qb.fn := .qq Qb.root Qb.hC Tryz.func167 (lkL [([0, 1, 0, 1, 1], Qb.e0)]) [.tmp 2] Qb.h0 fun x => by kernel_rfl
noncomputable def Q25.f (a0 : (ByteArray × (ByteArray × (ByteArray × (ByteArray × (Int × ((List ByteArray) × ByteArray))))))) : Option ByteArray :=
 (ob (Q26.f a0.2.2.2.2.1) fun r1 => (ck ((List.length ([a0.1, a0.2.1, a0.2.2.1, a0.2.2.2.1, r1] : List ByteArray) + List.length a0.2.2.2.2.2.1) * 16 ≤ 140737488355328) (ob (Q27.f (([a0.1, a0.2.1, a0.2.2.1, a0.2.2.2.1, r1] : List ByteArray) ++ a0.2.2.2.2.2.1) Q2g) fun r2 => (some r2))))
noncomputable def Q25.fn : TFn := ⟨[(.pair .str (.pair .str (.pair .str (.pair .str (.pair (.int .i64) (.pair (.slice .str) .str))))))], [.str], fun x => Q25.f x⟩
noncomputable def Q25.C : Cx := ⟨T, TYt, lkF [((109, [0]), Q26.fn), ((111, [0, 0]), Q27.fn)], lkO [], lkD [(1, 14, [(0, true), (1, true), (2, true), (3, true), (4, true), (5, true), (6, true), (7, true), (8, true), (9, true), (12, true), (13, true), (10, false), (11, false)], none)], lkP [], [1], [], false, [], [], lkS [], 19, lkW [], 0⟩
theorem Q25.hC : CxOK Tryz.prog Q25.C := cxq (FsOK.cons Q26.ok (FsOK.cons Q27.ok (FsOK.nil)))
noncomputable def Q25.root : Code := Z5 Tryz.f132
theorem Q25.ok : FnOK Tryz.prog 132 Q25.fn := .qq Q25.root Q25.hC Tryz.func132 (lkL []) [.tmp 2] LsOK.nil fun x => by kernel_rfl
noncomputable def Qm.s0 (v0_0 : (List UInt8)) (x0_3 : Int) (x0_4 : Int) : Option ((Int × Int) ⊕ Int) :=
 (let y6 : Int := ((List.length v0_0 : Nat) : Int); (cb (decide (x0_4 < y6)) (ck (0 ≤ x0_4 ∧ x0_4 < ((List.length v0_0 : Nat) : Int)) (let y7 : UInt8 := (rd (0 : UInt8) v0_0 x0_4); (let y8 : Int := (IntKind.u64.wrap ((UInt8.toNat y7 : Nat) : Int)); (let y9 : Int := (IntKind.u64.wrap ((BitVec.toNat (BitVec.ofInt (IntKind.bits .u64) x0_3 ^^^ BitVec.ofInt (IntKind.bits .u64) y8) : Nat) : Int)); (let y10 : Int := (IntKind.u64.wrap (y9 * (1099511628211 : Int))); (ck (InR (x0_4 + (1 : Int))) (some (.inl (y10, (x0_4 + (1 : Int))))))))))) (some (.inr x0_3))))
noncomputable def Qm.l0 (v0_0 : (List UInt8)) (x0_3 : Int) (x0_4 : Int) : Option Int :=
 Zp (fun (x : (Int × Int)) => Qm.s0 v0_0 x.1 x.2) (x0_3, x0_4)
noncomputable def Qm.e0 : Ent where
 pre := []
 inv := [(0, .val (.slice .byte))]
 car := ⟨[(3, .val (.int .u64)), (4, .val (.int .i64))], []⟩
 exits := [(.exit 0, ⟨[(3, .val (.int .u64))], []⟩)]
 step := fun iv x => Qm.s0 iv x.1 x.2
noncomputable def Qm.s1 (v1_3 : Int) (x1_5 : ByteArray) (x1_6 : Int) : Option ((ByteArray × Int) ⊕ ByteArray) :=
 (cb (decide ((0 : Int) ≤ x1_6)) (ck (0 ≤ x1_6) (let y16 : Int := (Int.fdiv v1_3 (2 ^ min (Int.toNat x1_6) (IntKind.bits .u64))); (let y17 : Int := (Int.tmod y16 (16 : Int)); (let y18 : Int := (IntKind.u64.wrap (y17 + (1 : Int))); (ck (0 ≤ y17 ∧ y17 ≤ y18 ∧ y18 ≤ ((ByteArray.size Qg : Nat) : Int)) (let y19 : ByteArray := (ByteArray.extract Qg (Int.toNat y17) (Int.toNat y18)); (ck (((ByteArray.size x1_5 + ByteArray.size y19 : Nat) : Int) ≤ 9223372036854775807) (ck (InR (x1_6 - (4 : Int))) (some (.inl ((x1_5 ++ y19), (x1_6 - (4 : Int))))))))))))) (some (.inr x1_5)))
noncomputable def Qm.l1 (v1_3 : Int) (x1_5 : ByteArray) (x1_6 : Int) : Option ByteArray :=
 Zp (fun (x : (ByteArray × Int)) => Qm.s1 v1_3 x.1 x.2) (x1_5, x1_6)
noncomputable def Qm.e1 : Ent where
 pre := []
 inv := [(3, .val (.int .u64))]
 car := ⟨[(5, .val .str), (6, .val (.int .i64))], []⟩
 exits := [(.exit 2, ⟨[(5, .val .str)], []⟩)]
 step := fun iv x => Qm.s1 iv x.1 x.2
noncomputable def Qm.f (a0 : (List UInt8)) : Option ByteArray :=
 (ob (Qm.l0 a0 (14695981039346656037 : Int) (0 : Int)) fun r11 => (ob (Qm.l1 r11 bs_ (60 : Int)) fun r20 => (some r20)))
noncomputable def Qm.fn : TFn := ⟨[(.slice .byte)], [.str], fun x => Qm.f x⟩
noncomputable def Qm.C : Cx := cxC [] 37
theorem Qm.hC : CxOK Tryz.prog Qm.C := cxq FsOK.nil
noncomputable def Qm.root : Code := Z5 Tryz.f184
theorem Qm.h0 : LsOK Tryz.prog Qm.C Qm.root (lkL [([0, 1, 0, 1, 1], Qm.e0)]) :=
 LsOK.cons Qm.hC (LsOK.nil) (by kernel_rfl) (fun iv x => by kernel_rfl)
theorem Qm.h1 : LsOK Tryz.prog Qm.C Qm.root (lkL [([0, 1, 0, 1, 1, 1, 1], Qm.e1), ([0, 1, 0, 1, 1], Qm.e0)]) :=
 LsOK.cons Qm.hC (Qm.h0) (by kernel_rfl) (fun iv x => by kernel_rfl)
theorem Qm.ok : FnOK Tryz.prog 184 Qm.fn := .qq Qm.root Qm.hC Tryz.func184 (lkL [([0, 1, 0, 1, 1, 1, 1], Qm.e1), ([0, 1, 0, 1, 1], Qm.e0)]) [.tmp 2] Qm.h1 fun x => by kernel_rfl
noncomputable def Q1z.f (a0 : ByteArray) : Option ByteArray :=
 (let y1 : (List UInt8) := (Array.toList (ByteArray.data a0)); (ob (Qm.f y1) fun r2 => (some r2)))
noncomputable def Q1z.fn : TFn := ⟨[.str], [.str], fun x => Q1z.f x⟩
noncomputable def Q1z.C : Cx := cxC [((184, [0]), Qm.fn)] 6
theorem Q1z.hC : CxOK Tryz.prog Q1z.C := cxq (FsOK.cons Qm.ok (FsOK.nil))
noncomputable def Q1z.root : Code := Z5 Tryz.f131
theorem Q1z.ok : FnOK Tryz.prog 131 Q1z.fn := .qq Q1z.root Q1z.hC Tryz.func131 (lkL []) [.tmp 2] LsOK.nil fun x => by kernel_rfl
noncomputable def Q1s.f (a0 : ByteArray) (a1 : (ByteArray × (ByteArray × (ByteArray × (ByteArray × (Int × ((List ByteArray) × ByteArray))))))) : Option ByteArray :=
 (ck (((ByteArray.size a0 + ByteArray.size Q2c : Nat) : Int) ≤ 9223372036854775807) (ob (Q25.f a1) fun r1 => (ck (((ByteArray.size (a0 ++ Q2c) + ByteArray.size r1 : Nat) : Int) ≤ 9223372036854775807) (ck (((ByteArray.size ((a0 ++ Q2c) ++ r1) + ByteArray.size Q2c : Nat) : Int) ≤ 9223372036854775807) (let y2 : ByteArray := (((a0 ++ Q2c) ++ r1) ++ Q2c); (ck (((ByteArray.size y2 + ByteArray.size a0 : Nat) : Int) ≤ 9223372036854775807) (ob (Q1z.f (y2 ++ a0)) fun r3 => (some r3))))))))
noncomputable def Q1s.fn : TFn := ⟨[.str, (.pair .str (.pair .str (.pair .str (.pair .str (.pair (.int .i64) (.pair (.slice .str) .str))))))], [.str], fun x => Q1s.f x.1 x.2⟩
noncomputable def Q1s.C : Cx := ⟨T, TYt, lkF [((131, [0]), Q1z.fn), ((132, [0]), Q25.fn)], lkO [], lkD [], lkP [], [3], [], false, [], [], lkS [], 14, lkW [], 0⟩
theorem Q1s.hC : CxOK Tryz.prog Q1s.C := cxq (FsOK.cons Q1z.ok (FsOK.cons Q25.ok (FsOK.nil)))
noncomputable def Q1s.root : Code := Z5 Tryz.f82
theorem Q1s.ok : FnOK Tryz.prog 82 Q1s.fn := .qq Q1s.root Q1s.hC Tryz.func82 (lkL []) [.tmp 4] LsOK.nil fun x => by kernel_rfl
end Go.Proofs.YtahlodpolggeiaaGreatDoor
